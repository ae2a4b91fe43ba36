import Derived.Test.YtmdgehpmeikgfaaN
set_option linter.unusedVariables false
namespace Go.Proofs.Ytmdgehpmeikgfaa
open Go.RowKit
theorem ld29 {W : World} {b : Nat} {r : Rf} (h : W.heap[b]? = some (.cells r.cells 29 (0, 0))) : (Instr.loadAt 29 (.pointer (some ⟨b, 0, none⟩))).run Try.prog W = .ok r.val W :=
  load_blk (P := Try.prog) 0 29 9 h (by rfl) Try.underlying29 rfl Try.size29
theorem exec_ld29 {op : Oper} {ρ : Operand → Value} {W : World} {b : Nat} {r : Rf} {x : Operand} (ho : op.op = .load 29 x) (hx : ρ x = .pointer (some ⟨b, 0, none⟩)) (h : W.heap[b]? = some (.cells r.cells 29 (0, 0))) : (execOp ρ op).run Try.prog W = .ok (.value r.val) W := by
  simp only [execOp, ho, hx, Sem.run_bind, ld29 h, Result.andThen_ok, Sem.run_pure]
theorem wp_store_all {P : Program} {op : Oper} {a : Go.Act} {w : World} {K : Go.Act → World → Prop} {Q : Exit → Go.Act → World → Prop} (ty : TypeId) (x y : Operand) (ho : op.op = .store ty x y)
    (b : Nat) (cs : List Value) (hx : a.eval x = .pointer (some ⟨b, 0, none⟩)) (hy : a.eval y = .agg cs.toArray) (cur : List Value) (t : TypeId) (hb : w.heap[b]? = some (.cells cur.toArray t (0, 0))) (hfit : cs.length = cur.length)
    (m : Nat) (hn : cs.length = m) (hi : (P.info? ty).map (·.size) = some m) (h1 : allOne cs = true)
    (h : ∀ w', w'.heap[b]? = some (.cells cs.toArray t (0, 0)) → w.grownBy w' (some b) → K (a.put op.dst undef) w') : op.wp P a w K Q := by
  obtain ⟨w', hrun, h2, h3⟩ := store_all (P := P) ty cs hb hfit (by rw [hn]; exact hi) h1
  unfold Oper.wp execOp
  simp only [ho, hx, hy, Sem.run_bind, hrun, Result.andThen_ok, Sem.run_pure]
  exact h w' h2 h3
theorem results_c29ttt {fn : Func} {p t u v : Tmp} (h : fn.results = #[.cell p 29, .tmp t, .tmp u, .tmp v]) (tmps : Array Value) (w : World) (g : Nat) (cs : Array Value) (hs : cs.size = 9)
    (hp : tmps.getD p undef = .pointer (some ⟨g, 0, none⟩)) (hg : w.heap[g]? = some (.cells cs 29 (0, 0))) : (results fn tmps).run Try.prog w = .ok (.tuple #[.agg cs, tmps.getD t undef, tmps.getD u undef, tmps.getD v undef]) w := by
  have hp' : tmps[p]?.getD undef = .pointer (some ⟨g, 0, none⟩) := by simpa using hp
  have hl := run_loadVar_row (P := Try.prog) w g 29 29 cs (0, 0) _ hg Try.underlying29 rfl (by rw [hs]; exact Try.size29)
  simp [results, h, hp', asAddr, hl]
theorem rraised (r : Rf) (line : Int) (w : World) : Calls Try.prog 33 #[r.val, .int .i64 line] w fun e w' => e = .returned (.bool (if line = 2 then r.f2 else if line = 3 then r.f3 else false)) ∧ w.grownBy w' none := by
  have HG := Lib.hid (World.grownBy_alloc w (.cells r.cells 29) none)
  have hm1 : min (3 : Int) 2 = 2 := by decide
  have hm2 : max (0 : Int) 2 = 2 := by decide
  have hm3 : max (0 : Int) 3 = 3 := by decide
  by_cases h2 : line = 2
  · subst h2
    go_enter Try.func33, Try.ntmps33
    go_wp2
    go_ret
    exact ⟨rfl, HG.out⟩
  by_cases h3 : line = 3
  · subst h3
    go_enter Try.func33, Try.ntmps33
    go_wp2
    go_ret
    exact ⟨rfl, HG.out⟩
  have e : (if line = 2 then r.f2 else if line = 3 then r.f3 else false) = false := by simp [h2, h3]
  have e2 : (line == 2) = false := by simp [h2]
  have e3 : (line == 3) = false := by simp [h3]
  rw [e]
  clear e
  go_enter Try.func33, Try.ntmps33
  go_wp2
  go_ret
  exact ⟨rfl, HG.out⟩
set_option maxHeartbeats 4000000 in
theorem rtake_none (r : Rf) (hk : r.taken = (r.pn : Nat)) (w : World) : Calls Try.prog 45 #[r.val] w fun e w' => e = .returned (.tuple #[r.val, .int .u8 0, .int .i64 0, .bool false]) ∧ w.grownBy w' none := by
  obtain ⟨hg, h1, h2⟩ := two_new w (.cells r.cells 29) (.cells Rf.zero.cells 29)
  have HX := Lib.hid (show _ from h1)
  have HR := Lib.hid h2
  have HG := Lib.hid hg
  have hkb : (r.taken == (r.pn : Nat)) = true := by simp [hk]
  clear hk hg h1 h2
  go_enter Try.func45, Try.ntmps45
  go_wp2_with (with_reducible refine hold_ld 29 _ rfl ?_)
  apply Lib.hid
  with_reducible refine wpList_load_blk rfl 29 _ rfl _ ?o3401 ?hx3401 _ _ _ HX.out _ 9 ?hn3401 Try.underlying29 rfl Try.size29 ?_
  case hx3401 => exact rfl
  case hn3401 => exact rfl
  go_wp2_with (with_reducible refine hold_st 29 _ _ rfl ?_)
  apply Lib.hid
  with_reducible refine wpList_store_all rfl 29 _ _ rfl _ ?cs3402 ?hx3402 ?hy3402 _ _ HR.out ?hf3402 _ ?hl3402 Try.size29 ?h13402 ?_
  case hy3402 => exact rfl
  case hx3402 => exact rfl
  case hf3402 => exact rfl
  case hl3402 => exact rfl
  case h13402 => simp [allOne, Value.oneCell']
  intro w2 hb2 hg2
  have HR2 := Lib.hid hb2
  have HG2 := Lib.hid (grown_new HG.out hg2 (by simp))
  clear hb2 hg2
  go_wp2
  refine bodyPost_ret (results_c29ttt rfl _ _ _ _ (by rfl) (by rfl) HR2.out) (by rfl) ?_
  exact ⟨rfl, HG2.out⟩
set_option maxHeartbeats 4000000 in
theorem rtake_one (r : Rf) (k : Nat) (hk : r.taken = (k : Nat)) (lp : List UInt8) (hkn : k < lp.length) (w : World) (hS : Sl w (.slice r.pa r.pn r.pc) lp) (hpn : lp.length ≤ 1000000) : Calls Try.prog 45 #[r.val] w fun e w' => e = .returned (.tuple #[({ r with taken := (k + 1 : Nat) } : Rf).val, .int .u8 ((lp[k]'hkn).toNat : Int), .int .i64 (k : Nat), .bool true]) ∧ w.grownBy w' none := by
  obtain ⟨g, o, cap, cur, hv, _⟩ := hS.resolve_left (fun h => by simp [h.2] at hkn)
  have hlt := hS.lt g (by rw [hv]; rfl)
  injection hv with e1 e2 e3
  have hcl : w.cell? ⟨g, o + k, none⟩ = some (.int .u8 ((lp[k]'hkn).toNat : Int)) := Sl.cell (e1 ▸ hS) k _ (bV_get lp k hkn)
  generalize (lp[k]'hkn) = c at hcl ⊢
  obtain ⟨hG1, hX1, hR1⟩ := two_new w (.cells ({ r with taken := (k : Int) + 1 } : Rf).cells 29) (.cells Rf.zero.cells 29)
  have hkk : ((k + 1 : Nat) : Int) = (k : Int) + 1 := by omega
  have HX1 := Lib.hid hX1
  have HR1 := Lib.hid hR1
  have HG1 := Lib.hid hG1
  have HC := Lib.hid (hG1.cell hcl (by simp))
  have hsz1 := lt_of_block hR1
  have hw1 : IntKind.i64.wrap ((k : Int) + 1) = (k : Int) + 1 := by rw [IntKind.wrap_i64]; omega
  have hw2 : IntKind.i64.wrap (k : Int) = (k : Int) := by rw [IntKind.wrap_i64]; omega
  have hne : ((k : Int) == (lp.length : Nat)) = false := by simp; omega
  have hkn' : (k : Int) < (lp.length : Nat) := by omega
  clear hX1 hR1 hG1 hcl hS
  rw [hkk]
  obtain ⟨al, ms, f0, f1, f2, f3, pa, pn, pc, tk, ta, tn, tc⟩ := r
  simp only at hk e1 e2 e3
  subst hk e1 e2 e3
  clear hkk
  go_enter Try.func45, Try.ntmps45
  go_wp2
  refine reg_open (some (w.heap.size + 1)) (n := 15) rfl (by kernel_rfl) ?_
  refine reg_take 0 (some 17) (v := ?_) rfl rfl (by kernel_rfl) (by kernel_rfl) (by kernel_rfl) (fun _ _ _ h => h) (by rfl) ?_ ?_
  rotate_left
  · intro W hW; refine exec_ld29 (x := Operand.tmp 1) ?_ ?_ (((hW).block w.heap.size (lt_of_block HX1.out) (by simp)).trans HX1.out) <;> rfl
  try simp only [Act.put, List.setIfInBounds_toArray, List.set_cons_zero, List.set_cons_succ]
  refine reg_take 1 (some 18) (v := ?_) rfl rfl (by kernel_rfl) (by kernel_rfl) (by kernel_rfl) (fun _ _ _ h => h) (by rfl) ?_ ?_
  rotate_left
  · intro W hW; go_simp; first | done | with_reducible rfl
  try simp only [Act.put, List.setIfInBounds_toArray, List.set_cons_zero, List.set_cons_succ]
  refine reg_take 2 (some 19) (v := ?_) rfl rfl (by kernel_rfl) (by kernel_rfl) (by kernel_rfl) (fun _ _ _ h => h) (by rfl) ?_ ?_
  rotate_left
  · intro W hW; have c := cells_all (((hW).block w.heap.size (lt_of_block HX1.out) (by simp)).trans HX1.out) 6; go_simp; first | done | with_reducible rfl
  try simp only [Act.put, List.setIfInBounds_toArray, List.set_cons_zero, List.set_cons_succ]
  refine reg_take 3 (some 20) (v := ?_) rfl rfl (by kernel_rfl) (by kernel_rfl) (by kernel_rfl) (fun _ _ _ h => h) (by rfl) ?_ ?_
  rotate_left
  · intro W hW; go_simp; first | done | with_reducible rfl
  try simp only [Act.put, List.setIfInBounds_toArray, List.set_cons_zero, List.set_cons_succ]
  refine reg_take 4 (some 21) (v := ?_) rfl rfl (by kernel_rfl) (by kernel_rfl) (by kernel_rfl) (fun _ _ _ h => h) (by rfl) ?_ ?_
  rotate_left
  · intro W hW; have c := cells_all (((hW).block w.heap.size (lt_of_block HX1.out) (by simp)).trans HX1.out) 7; go_simp; first | done | with_reducible rfl
  try simp only [Act.put, List.setIfInBounds_toArray, List.set_cons_zero, List.set_cons_succ]
  refine reg_take 5 (some 22) (v := ?_) rfl rfl (by kernel_rfl) (by kernel_rfl) (by kernel_rfl) (fun _ _ _ h => h) (by rfl) ?_ ?_
  rotate_left
  · intro W hW; go_simp; first | done | with_reducible rfl
  try simp only [Act.put, List.setIfInBounds_toArray, List.set_cons_zero, List.set_cons_succ]
  refine reg_take 6 (some 23) (v := ?_) rfl rfl (by kernel_rfl) (by kernel_rfl) (by kernel_rfl) (fun _ _ _ h => h) (by rfl) ?_ ?_
  rotate_left
  · intro W hW; go_simp; first | done | with_reducible rfl
  try simp only [Act.put, List.setIfInBounds_toArray, List.set_cons_zero, List.set_cons_succ]
  refine reg_take 7 (some 24) (v := ?_) rfl rfl (by kernel_rfl) (by kernel_rfl) (by kernel_rfl) (fun _ _ _ h => h) (by rfl) ?_ ?_
  rotate_left
  · intro W hW; have c := (hW).cell HC.out (by simp; omega); go_simp; first | done | with_reducible rfl
  try simp only [Act.put, List.setIfInBounds_toArray, List.set_cons_zero, List.set_cons_succ]
  refine reg_take 8 (some 25) (v := ?_) rfl rfl (by kernel_rfl) (by kernel_rfl) (by kernel_rfl) (fun _ _ _ h => h) (by rfl) ?_ ?_
  rotate_left
  · intro W hW; go_simp; first | done | with_reducible rfl
  try simp only [Act.put, List.setIfInBounds_toArray, List.set_cons_zero, List.set_cons_succ]
  refine reg_take 9 (some 26) (v := ?_) rfl rfl (by kernel_rfl) (by kernel_rfl) (by kernel_rfl) (fun _ _ _ h => h) (by rfl) ?_ ?_
  rotate_left
  · intro W hW; have c := cells_all (((hW).block w.heap.size (lt_of_block HX1.out) (by simp)).trans HX1.out) 7; go_simp; first | done | with_reducible rfl
  try simp only [Act.put, List.setIfInBounds_toArray, List.set_cons_zero, List.set_cons_succ]
  refine reg_take 10 (some 27) (v := ?_) rfl rfl (by kernel_rfl) (by kernel_rfl) (by kernel_rfl) (fun _ _ _ h => h) (by rfl) ?_ ?_
  rotate_left
  · intro W hW; go_simp; first | done | with_reducible rfl
  try simp only [Act.put, List.setIfInBounds_toArray, List.set_cons_zero, List.set_cons_succ]
  refine wpAnyH_ready (rs := [11]) (by kernel_rfl) (by simp) ?_
  refine (AllReadyH.cons (o := { dst := none, op := Op.store 29 (Operand.tmp 2) (Operand.tmp 17), type := 0, pos := "ref.go:59", after := #[{ on := 0, ground := Ground.data }, { on := 0, ground := Ground.phase }, { on := 1, ground := Ground.textOnly Departure.lateStores }, { on := 2, ground := Ground.textOnly Departure.lateStores }, { on := 3, ground := Ground.textOnly Departure.lateStores }, { on := 4, ground := Ground.textOnly Departure.lateStores }, { on := 5, ground := Ground.textOnly Departure.lateStores }, { on := 6, ground := Ground.textOnly Departure.lateStores }, { on := 7, ground := Ground.textOnly Departure.lateStores }, { on := 8, ground := Ground.textOnly Departure.lateStores }, { on := 9, ground := Ground.textOnly Departure.lateStores }, { on := 10, ground := Ground.textOnly Departure.lateStores }], guard := none }) rfl (fun K hK => ?_) AllReadyH.nil)
  refine wp_store_all 29 _ _ rfl (w.heap.size + 1) ?csu6 ?hxu6 ?hyu6 _ _ HR1.out ?hfu6 9 ?hnu6 Try.size29 ?h1u6 ?_
  case hyu6 => exact rfl
  case hxu6 => exact rfl
  case hfu6 => exact rfl
  case hnu6 => exact rfl
  case h1u6 => simp [allOne, Value.oneCell']
  intro u4 hb4 h4
  refine reg_next hK h4 ?_
  clear hK K
  try simp only [Act.put]
  refine reg_take 12 (some 3) (v := ?_) rfl rfl (by kernel_rfl) (by kernel_rfl) (by kernel_rfl) (fun _ _ _ h => h) (by rfl) ?_ ?_
  rotate_left
  · intro W hW; go_simp; first | done | with_reducible rfl
  try simp only [Act.put, List.setIfInBounds_toArray, List.set_cons_zero, List.set_cons_succ]
  refine reg_take 13 (some 4) (v := ?_) rfl rfl (by kernel_rfl) (by kernel_rfl) (by kernel_rfl) (fun _ _ _ h => h) (by rfl) ?_ ?_
  rotate_left
  · intro W hW; go_simp; first | done | with_reducible rfl
  try simp only [Act.put, List.setIfInBounds_toArray, List.set_cons_zero, List.set_cons_succ]
  refine reg_take 14 (some 5) (v := ?_) rfl rfl (by kernel_rfl) (by kernel_rfl) (by kernel_rfl) (fun _ _ _ h => h) (by rfl) ?_ ?_
  rotate_left
  · intro W hW; go_simp; first | done | with_reducible rfl
  try simp only [Act.put, List.setIfInBounds_toArray, List.set_cons_zero, List.set_cons_succ]
  refine wpAnyH_done (by kernel_rfl) ?_ _
  have HR4 := Lib.hid hb4
  have HG4 := Lib.hid (grown_new HG1.out (drewl h4) (by simp))
  clear hb4 h4
  go_wp2
  refine bodyPost_ret (results_c29ttt rfl _ _ _ _ (by rfl) (by rfl) HR4.out) (by rfl) ?_
  exact ⟨rfl, HG4.out⟩
set_option maxHeartbeats 4000000 in
theorem rtell (r : Rf) (lt : List UInt8) (x : UInt8) (w : World) (hS : Sl w (.slice r.ta r.tn r.tc) lt) (hpn : lt.length ≤ 999999) :
    Calls Try.prog 46 #[r.val, .int .u8 (x.toNat : Int)] w fun e w' => ∃ ta tc, e = .returned (.tuple #[({ r with ta := ta, tn := (lt ++ [x]).length, tc := tc } : Rf).val, .int .i64 (lt.length : Nat)]) ∧ Sl w' (.slice ta (lt ++ [x]).length tc) (lt ++ [x]) ∧ w.grownBy w' none ∧ New w (.slice ta (lt ++ [x]).length tc) := by
  have hpl : r.tn = lt.length := by
    obtain ⟨_, _, h, _⟩ := hS.shape
    injection h
  obtain ⟨hg, h1, h2⟩ := two_new w (.cells r.cells 29) (.cells Rf.zero.cells 29)
  have HS := Lib.hid hS
  have HPL := Lib.hid hpl
  have hw : IntKind.i64.wrap ((lt.length : Nat) : Int) = (lt.length : Nat) := by rw [IntKind.wrap_i64]; omega
  generalize hw1 : (w.alloc (.cells r.cells 29)).alloc (.cells Rf.zero.cells 29) = w1 at *
  have hga := World.grownBy_alloc w1 (.cells #[] 5) none
  have c6 : (w1.alloc (.cells #[] 5)).cell? ⟨w.heap.size, 8, none⟩ = some (.slice r.ta r.tn r.tc) := cells_all ((hga.block _ (lt_of_block h1) (by simp)).trans h1) 8
  have HXa := Lib.hid ((hga.block _ (lt_of_block h1) (by simp)).trans h1)
  have hsz1 : w.heap.size + 2 ≤ w1.heap.size := lt_of_block h2
  have HRa := Lib.hid ((hga.block _ (lt_of_block h2) (by simp)).trans h2)
  have hwz : w1.heap.size = w.heap.size + 1 + 1 := by subst hw1; simp
  have hv0 : Sl (w1.alloc (.cells #[] 5)) (.slice (some ⟨w.heap.size + 1 + 1, 0, none⟩) 0 0) [] := .inr ⟨w.heap.size + 1 + 1, 0, 0, [], rfl, Nat.le_refl _, by simp [maxLen], hwz ▸ heap_alloc_new w1 _, by simp, by simp [bsV]⟩
  have HGa := Lib.hid (hg.trans hga)
  have HSa := Lib.hid (HS.out.keptNone HGa.out)
  have hvs := HSa.out.src
  clear hga hg h1 h2 hpl hS hwz
  subst hw1
  go_enter Try.func46, Try.ntmps46
  go_wp2_with (at_builtin; refine wpList_sl rfl _ _ rfl _ _ [] lt rfl rfl hv0 hvs (by simp; omega) ?_)
  intro v2 w2 hQ2 hg2 hr2
  obtain ⟨va, vcap, hv2, _⟩ := hQ2.shape
  subst hv2
  have hro : ∀ g, rowOf (.slice va lt.length vcap) = some g → w.heap.size + 2 ≤ g := by
    rcases hr2 with h | h
    · rw [h]; rintro g ⟨⟩; exact Nat.le_refl _
    · rw [h]; rintro g ⟨⟩; omega
  have hXb := (hg2.block _ (lt_of_block HXa.out) (by simp [rowOf]; omega)).trans HXa.out
  have hRb := (hg2.block _ (lt_of_block HRa.out) (by simp [rowOf])).trans HRa.out
  have hGb := grown_new HGa.out hg2 (by show w.heap.size ≤ w.heap.size + 1 + 1; omega)
  have hgc := World.grownBy_alloc w2 (.cells #[.int .u8 (x.toNat : Int)] 5) none
  have hQc := hQ2.keptNone hgc
  have hvr : Go.Src Try.prog 1 27 (.slice (some ⟨w2.heap.size, 0, none⟩) 1 1) [x].length (bsV [x]) (w2.alloc (.cells #[.int .u8 (x.toNat : Int)] 5)) :=
    Go.Src.ofSlice _ Try.underlying27 ⟨w2.heap.size, 0, none⟩ 1 1 (bsV [x]) (by simp [bsV]) (cell_one_new w2 (.int .u8 (x.toNat : Int)) 5) (bs_one [x])
  have HXc := Lib.hid ((hgc.block _ (lt_of_block hXb) (by simp)).trans hXb)
  have HRc := Lib.hid ((hgc.block _ (lt_of_block hRb) (by simp)).trans hRb)
  have HGc := Lib.hid (hGb.trans hgc)
  have hsz2 : w.heap.size + 2 ≤ w2.heap.size := lt_of_block hRb
  clear hXb hRb hGb hgc hg2 hr2
  go_wp2_with (at_builtin; refine wpList_sl rfl _ _ rfl _ _ lt [x] rfl rfl hQc hvr (by simp; omega) ?_)
  intro v3 w3 hQ3 hg3 hr3
  have hro3 : ∀ g, rowOf v3 = some g → w.heap.size + 2 ≤ g := by
    rcases hr3 with h | h
    · rw [h]; exact hro
    · rw [h]; rintro g ⟨⟩; omega
  have hX3 := (hg3.block _ (lt_of_block HXc.out) (fun e => by have := hro _ e.symm; omega)).trans HXc.out
  have hR3 := (hg3.block _ (lt_of_block HRc.out) (fun e => by have := hro _ e.symm; omega)).trans HRc.out
  have hG3 := grown_new3 HGc.out hg3 (fun g e => by have := hro _ e; omega)
  obtain ⟨ta, tc, hv3, _⟩ := hQ3.shape
  rw [List.length_append, List.length_singleton] at hv3
  subst hv3
  have c36 : w3.cell? ⟨w.heap.size, 8, none⟩ = some (.slice r.ta r.tn r.tc) := cells_all hX3 8
  have f36 := frozen_all hX3 8
  have hX4 := heap_setCell_at (j := 8) (.slice ta (lt.length + 1) tc) hX3
  have hR4 : (w3.setCell ⟨w.heap.size, 8, none⟩ (.slice ta (lt.length + 1) tc)).heap[w.heap.size + 1]? = _ := ((grown_setCell w3 w.heap.size 8 (.slice ta (lt.length + 1) tc)).block _ (lt_of_block hR3) (by simp)).trans hR3
  have hG4 := grown_new hG3 (grown_setCell w3 w.heap.size 8 (.slice ta (lt.length + 1) tc)) (Nat.le_refl _)
  have hQ4 := hQ3.kept (grown_setCell w3 w.heap.size 8 (.slice ta (lt.length + 1) tc)) (fun g e e2 => by cases e2; have := hro3 _ e; omega)
  have HX4 := Lib.hid (show (w3.setCell ⟨w.heap.size, 8, none⟩ (.slice ta (lt.length + 1) tc)).heap[w.heap.size]? = some (.cells ({ r with ta := ta, tn := lt.length + 1, tc := tc } : Rf).cells 29 (0, 0)) from hX4)
  have HR4 := Lib.hid hR4
  have HG4 := Lib.hid hG4
  have HQ4 := Lib.hid hQ4
  have HN := Lib.hid hro3
  clear hX4 hR4 hG4 hQ4 hX3 hR3 hG3 hQ3 hg3 hr3 hro3 hQ2 hQc hro hvr HRc HXc
  go_wp2
  refine reg_open (some (w.heap.size + 1)) (n := 7) rfl (by kernel_rfl) ?_
  refine reg_take 0 (some 14) (v := ?_) rfl rfl (by kernel_rfl) (by kernel_rfl) (by kernel_rfl) (fun _ _ _ h => h) (by rfl) ?_ ?_
  rotate_left
  · intro W hW; refine exec_ld29 (x := Operand.tmp 2) ?_ ?_ (((hW).block _ (lt_of_block HX4.out) (by simp)).trans HX4.out) <;> rfl
  try simp only [Act.put, List.setIfInBounds_toArray, List.set_cons_zero, List.set_cons_succ]
  refine reg_take 1 (some 15) (v := ?_) rfl rfl (by kernel_rfl) (by kernel_rfl) (by kernel_rfl) (fun _ _ _ h => h) (by rfl) ?_ ?_
  rotate_left
  · intro W hW; go_simp; first | done | with_reducible rfl
  try simp only [Act.put, List.setIfInBounds_toArray, List.set_cons_zero, List.set_cons_succ]
  refine reg_take 2 (some 16) (v := ?_) rfl rfl (by kernel_rfl) (by kernel_rfl) (by kernel_rfl) (fun _ _ _ h => h) (by rfl) ?_ ?_
  rotate_left
  · intro W hW; have c := cells_all (((hW).block w.heap.size (lt_of_block HX4.out) (by simp)).trans HX4.out) 8; go_simp; first | done | with_reducible rfl
  try simp only [Act.put, List.setIfInBounds_toArray, List.set_cons_zero, List.set_cons_succ]
  refine reg_take 3 (some 17) (v := ?_) rfl rfl (by kernel_rfl) (by kernel_rfl) (by kernel_rfl) (fun _ _ _ h => h) (by rfl) ?_ ?_
  rotate_left
  · intro W hW; go_simp; first | done | with_reducible rfl
  try simp only [Act.put, List.setIfInBounds_toArray, List.set_cons_zero, List.set_cons_succ]
  refine reg_take 4 (some 18) (v := ?_) rfl rfl (by kernel_rfl) (by kernel_rfl) (by kernel_rfl) (fun _ _ _ h => h) (by rfl) ?_ ?_
  rotate_left
  · intro W hW; go_simp; first | done | with_reducible rfl
  try simp only [Act.put, List.setIfInBounds_toArray, List.set_cons_zero, List.set_cons_succ]
  refine wpAnyH_ready (rs := [5]) (by kernel_rfl) (by simp) ?_
  refine (AllReadyH.cons (o := { dst := none, op := Op.store 29 (Operand.tmp 4) (Operand.tmp 14), type := 0, pos := "ref.go:65", after := #[{ on := 0, ground := Ground.data }, { on := 0, ground := Ground.phase }, { on := 1, ground := Ground.textOnly Departure.lateStores }, { on := 2, ground := Ground.textOnly Departure.lateStores }, { on := 3, ground := Ground.textOnly Departure.lateStoresUnsure }, { on := 4, ground := Ground.textOnly Departure.lateStores }], guard := none }) rfl (fun K hK => ?_) AllReadyH.nil)
  refine wp_store_all 29 _ _ rfl (w.heap.size + 1) ?csu11 ?hxu11 ?hyu11 _ _ HR4.out ?hfu11 9 ?hnu11 Try.size29 ?h1u11 ?_
  case hyu11 => exact rfl
  case hxu11 => exact rfl
  case hfu11 => exact rfl
  case hnu11 => exact rfl
  case h1u11 => simp [allOne, Value.oneCell']
  intro u4 hb4 h4
  refine reg_next hK h4 ?_
  clear hK K
  try simp only [Act.put]
  refine reg_take 6 (some 5) (v := ?_) rfl rfl (by kernel_rfl) (by kernel_rfl) (by kernel_rfl) (fun _ _ _ h => h) (by rfl) ?_ ?_
  rotate_left
  · intro W hW; go_simp; first | done | with_reducible rfl
  try simp only [Act.put, List.setIfInBounds_toArray, List.set_cons_zero, List.set_cons_succ]
  refine wpAnyH_done (by kernel_rfl) ?_ _
  have HR5 := Lib.hid hb4
  have HQ5 := Lib.hid (HQ4.out.kept (drewl h4) (fun g e e2 => by cases e2; have := HN.out _ e; omega))
  have HG5 := Lib.hid (grown_new HG4.out (drewl h4) (by simp))
  clear hb4 h4
  go_wp2
  refine bodyPost_ret (results_c29t rfl _ _ _ _ (by rfl) (by rfl) HR5.out) (by rfl) ?_
  refine ⟨ta, tc, rfl, HQ5.out, HG5.out, fun g e => ?_⟩
  have := HN.out _ e
  omega
end Go.Proofs.Ytmdgehpmeikgfaa
