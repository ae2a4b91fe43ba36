import Derived.Test.YtmdgehpmeikgfaaZ
set_option linter.unusedVariables false
namespace Go.Proofs.Ytmdgehpmeikgfaa
open Go.RowKit
theorem wseq4 (b0 b1 b2 b3 : Bool) : wseq b0 b1 b2 b3 4 = (if b0 then [0] else []) ++ (if b1 then [1] else []) ++ (if b2 then [2] else []) ++ (if b3 then [3] else []) := by
  cases b0 <;> cases b1 <;> cases b2 <;> cases b3 <;> rfl
theorem rwant0 {w : World} {r : Rf} {g : Gh} (h : RS w r g) (now : Int) : r.wants 0 now = (decide (0 < g.alarm) && decide ((g.alarm : Int) ≤ now)) := by
  simp only [Rf.wants, if_true, h.al]
  congr 1
  simp
theorem rwant1 {w : World} {r : Rf} {g : Gh} (h : RS w r g) (now : Int) : r.wants 1 now = decide (g.taken < g.pushed.length) := by
  simp [Rf.wants, h.tk, h.pn]
theorem rwant2 {w : World} {r : Rf} {g : Gh} (h : RS w r g) (now : Int) : r.wants 2 now = g.f2 := by
  simp [Rf.wants, h.f2]
theorem rwant3 {w : World} {r : Rf} {g : Gh} (h : RS w r g) (now : Int) : r.wants 3 now = g.f3 := by
  simp [Rf.wants, h.f3]
theorem sum_eq {w : World} {r : Rf} {g : Gh} (h : RS w r g) (now : Int) : r.sum now 4 = (setL (g.wantL now) : Nat) := by
  unfold Rf.sum Gh.wantL
  rw [rwant0 h, rwant1 h, rwant2 h, rwant3 h]
  generalize (decide (0 < g.alarm) && decide ((g.alarm : Int) ≤ now)) = b0
  generalize decide (g.taken < g.pushed.length) = b1
  generalize g.f2 = b2
  generalize g.f3 = b3
  cases b0 <;> cases b1 <;> cases b2 <;> cases b3 <;> decide
theorem rWants_rs (r : Rf) (g : Gh) (now : Int) (w : World) (h : RS w r g) (hWG : WG g) : Calls Try.prog 21 #[r.val, .int .i64 now] w fun e w' => e = .returned (.int .u32 (setL (g.wantL now) : Nat)) ∧ w.grownBy w' none := by
  have := rWants r (by rw [h.al]; omega) (by rw [h.al]; have := hWG.al; omega) now w
  rwa [sum_eq h] at this
def pendZ (m : Nat) (l : List Nat) : Int := match pend m l with
  | some k => k
  | none => -1
theorem pendI_eq {w : World} {r : Rf} {g : Gh} (h : RS w r g) (now : Int) (m : Nat) : r.pendI now m = pendZ m (g.wantL now) := by
  unfold Rf.pendI Rf.hit Gh.wantL pendZ pend
  have h0 : r.wants ((0 : Nat) : Int) now = _ := rwant0 h now
  have h1 : r.wants ((1 : Nat) : Int) now = _ := rwant1 h now
  have h2 : r.wants ((2 : Nat) : Int) now = _ := rwant2 h now
  have h3 : r.wants ((3 : Nat) : Int) now = _ := rwant3 h now
  rw [h0, h1, h2, h3, wseq4]
  generalize (decide (0 < g.alarm) && decide ((g.alarm : Int) ≤ now)) = b0
  generalize decide (g.taken < g.pushed.length) = b1
  generalize g.f2 = b2
  generalize g.f3 = b3
  cases h0 : bitOf m 0 <;> cases h1 : bitOf m 1 <;> cases h2 : bitOf m 2 <;> cases h3 : bitOf m 3 <;> cases b0 <;> cases b1 <;> cases b2 <;> cases b3 <;> simp [List.find?, h0, h1, h2, h3]
theorem rPending_rs (r : Rf) (g : Gh) (now : Int) (w : World) (h : RS w r g) (hWG : WG g) : Calls Try.prog 18 #[r.val, .int .i64 now] w fun e w' => e = .returned (.int .i64 (pendZ g.mask (g.wantL now))) ∧ w.grownBy w' none := by
  have := rPending r (by rw [h.al]; omega) (by rw [h.al]; have := hWG.al; omega) g.mask h.ms (by have := hWG.ms; omega) now w
  rwa [pendI_eq h] at this
theorem pendZ_ok (m : Nat) (l : List Nat) : (pend m l).isSome = decide (0 ≤ pendZ m l) := by
  unfold pendZ
  cases pend m l <;> simp
theorem pendZ_n (m : Nat) (l : List Nat) : (((pend m l).getD 0 : Nat) : Int) = max (pendZ m l) 0 := by
  unfold pendZ
  cases pend m l <;> simp
  omega
def Gh.raised (g : Gh) (line : Int) : Bool := if line = 2 then g.f2 else if line = 3 then g.f3 else false
theorem raised_ls (B : Nat) (c : Lc) (g : Gh) (line : Int) (w : World) (h : LS w B c g) : Calls Try.prog 32 #[.pointer (some ⟨B, 0, none⟩), .int .i64 line] w fun e w' => e = .returned (.bool (g.raised line)) ∧ w = w' := by
  have := raised_lk B c line w h.lk
  unfold Lc.raised at this
  rw [h.u2, h.u3] at this
  exact this
theorem rraised_rs (r : Rf) (g : Gh) (line : Int) (w : World) (h : RS w r g) : Calls Try.prog 33 #[r.val, .int .i64 line] w fun e w' => e = .returned (.bool (g.raised line)) ∧ w.grownBy w' none := by
  have := rraised r line w
  rw [h.f2, h.f3] at this
  exact this
set_option maxHeartbeats 8000000 in
theorem linesPlays_walk (a : Option Addr) (n cap : Nat) (l : Nat → Ac) (bs : Nat → List UInt8) (w : World) (hs : SrcX w a n l bs) (hm : n ≤ 9223372036854775807) :
    Calls Try.prog 5 #[.slice a n cap] w fun e w' => e = .returned (.bool true) ∧ w.grownBy w' none := by
  by_cases hc : cost l n ≤ 5000
  rotate_left
  · have hd : decide (cost l n ≤ 5000) = false := by simp [hc]
    have C := few_any a n cap l bs w hs hm
    rw [hd] at C
    clear hs hd hc
    go_enter Try.func5, Try.ntmps5
    go_wp2_with fail
    refine C.mono ?_; rintro e w' ⟨rfl, rfl⟩
    clear C
    go_wp2_with fail
    refine (works_any _).mono ?_; rintro e w1 ⟨rfl, hg1⟩
    go_wp2
    go_ret
    exact ⟨rfl, hg1⟩
  have hd : decide (cost l n ≤ 5000) = true := by simp [hc]
  have C := few_any a n cap l bs w hs hm
  rw [hd] at C
  have hcn : n ≤ 125 := by have := cost_ge l n; omega
  have hbl : ∀ j, j < n → (bs j).length ≤ 500000 := fun j hj => by
    rcases id hs with h | ⟨b, o, _, h⟩
    · omega
    · have := cost_bn l j n hj
      rw [(h j hj).2.1] at this
      omega
  have hwd : ∀ j, j < n → (l j).word < 4294967296 := fun j hj => by
    rcases id hs with h | ⟨b, o, _, h⟩
    · omega
    · exact (h j hj).2.2.2.1
  have HWG := Lib.hid (wg_run l bs hwd n (Nat.le_refl _))
  have hp1 := run_pushed l bs n
  have ht1 := run_told l bs n
  have C2 := played_any a n cap l bs w hs (by omega) hbl
  clear hs hd hc hbl
  go_enter Try.func5, Try.ntmps5
  go_wp2_with fail
  refine C.mono ?_; rintro e w' ⟨rfl, rfl⟩
  go_wp2_with fail
  refine C2.mono ?_; rintro e w1 ⟨B, c, r, rfl, hL1, hR1, hsep, hnl, hnr, hg1⟩
  have HN := Lib.hid (heap_alloc_new w1 (.cells Rf.zero.cells 29))
  have hga := World.grownBy_alloc w1 (.cells Rf.zero.cells 29) none
  have HLa := Lib.hid (hL1.keptNone hga)
  have HRa := Lib.hid (hR1.keptNone hga)
  have HGa := Lib.hid (hg1.trans hga)
  have hsz := hg1.size
  have HNO := Lib.hid ((hL1.keptNone hga).nown HN.out)
  have HNR := Lib.hid ((hR1.keptNone hga).nrow HN.out)
  have HSEP := Lib.hid hsep
  have HNL := Lib.hid hnl
  have HNW := Lib.hid hnr
  clear hga hg1 hL1 hR1 C C2 hsep hnl hnr
  go_wp2_with (with_reducible refine hold_st 29 _ _ rfl ?_)
  apply Lib.hid
  with_reducible refine wpList_store_all rfl 29 _ _ rfl _ ?cs4401 ?hx4401 ?hy4401 _ _ HN.out ?hf4401 _ ?hl4401 Try.size29 ?h14401 ?_
  case hy4401 => exact rfl
  case hx4401 => exact rfl
  case hf4401 => exact rfl
  case hl4401 => exact rfl
  case h14401 => simp [allOne, Value.oneCell']
  intro w2 hb2 hg2
  have HX2 := Lib.hid (show w2.heap[w1.heap.size]? = some (.cells r.cells 29 (0, 0)) from hb2)
  have hk2 : Keeps (fun k => k = w1.heap.size) (w1.alloc (.cells Rf.zero.cells 29)) w2 := Keeps.row hg2 rfl
  have HL2 := Lib.hid (HLa.out.keeps hk2 (fun k hk e => HNO.out (e ▸ hk)))
  have HR2 := Lib.hid (HRa.out.keeps hk2 (fun k hk e => HNR.out (e ▸ hk)))
  have HG2 := Lib.hid (grown_new HGa.out hg2 hsz)
  clear hb2 hg2 hk2 HN HLa HRa HGa
  go_wp2_with fail
  refine (works_any _).mono ?_; rintro e w3 ⟨rfl, hg3⟩
  have HG3 := Lib.hid (HG2.out.trans hg3)
  clear hg3
  go_wp2
  go_ret
  exact ⟨rfl, HG3.out⟩
set_option maxHeartbeats 8000000 in
theorem linesWants_walk (a : Option Addr) (n cap : Nat) (l : Nat → Ac) (bs : Nat → List UInt8) (now line : Int) (w : World) (hs : SrcX w a n l bs) (hm : n ≤ 9223372036854775807) :
    Calls Try.prog 7 #[.slice a n cap, .int .i64 now, .int .i64 line] w fun e w' => e = .returned (.bool true) ∧ w.grownBy w' none := by
  by_cases hc : cost l n ≤ 5000
  rotate_left
  · have hd : decide (cost l n ≤ 5000) = false := by simp [hc]
    have C := few_any a n cap l bs w hs hm
    rw [hd] at C
    clear hs hd hc
    go_enter Try.func7, Try.ntmps7
    go_wp2_with fail
    refine C.mono ?_; rintro e w' ⟨rfl, rfl⟩
    clear C
    go_wp2_with fail
    refine (works_any _).mono ?_; rintro e w1 ⟨rfl, hg1⟩
    go_wp2
    go_ret
    exact ⟨rfl, hg1⟩
  have hd : decide (cost l n ≤ 5000) = true := by simp [hc]
  have C := few_any a n cap l bs w hs hm
  rw [hd] at C
  have hcn : n ≤ 125 := by have := cost_ge l n; omega
  have hbl : ∀ j, j < n → (bs j).length ≤ 500000 := fun j hj => by
    rcases id hs with h | ⟨b, o, _, h⟩
    · omega
    · have := cost_bn l j n hj
      rw [(h j hj).2.1] at this
      omega
  have hwd : ∀ j, j < n → (l j).word < 4294967296 := fun j hj => by
    rcases id hs with h | ⟨b, o, _, h⟩
    · omega
    · exact (h j hj).2.2.2.1
  have HWG := Lib.hid (wg_run l bs hwd n (Nat.le_refl _))
  have hp1 := run_pushed l bs n
  have ht1 := run_told l bs n
  have C2 := played_any a n cap l bs w hs (by omega) hbl
  clear hs hd hc hbl
  go_enter Try.func7, Try.ntmps7
  go_wp2_with fail
  refine C.mono ?_; rintro e w' ⟨rfl, rfl⟩
  go_wp2_with fail
  refine C2.mono ?_; rintro e w1 ⟨B, c, r, rfl, hL1, hR1, hsep, hnl, hnr, hg1⟩
  have HN := Lib.hid (heap_alloc_new w1 (.cells Rf.zero.cells 29))
  have hga := World.grownBy_alloc w1 (.cells Rf.zero.cells 29) none
  have HLa := Lib.hid (hL1.keptNone hga)
  have HRa := Lib.hid (hR1.keptNone hga)
  have HGa := Lib.hid (hg1.trans hga)
  have hsz := hg1.size
  have HNO := Lib.hid ((hL1.keptNone hga).nown HN.out)
  have HNR := Lib.hid ((hR1.keptNone hga).nrow HN.out)
  have HSEP := Lib.hid hsep
  have HNL := Lib.hid hnl
  have HNW := Lib.hid hnr
  clear hga hg1 hL1 hR1 C C2 hsep hnl hnr
  go_wp2_with (with_reducible refine hold_st 29 _ _ rfl ?_)
  apply Lib.hid
  with_reducible refine wpList_store_all rfl 29 _ _ rfl _ ?cs4402 ?hx4402 ?hy4402 _ _ HN.out ?hf4402 _ ?hl4402 Try.size29 ?h14402 ?_
  case hy4402 => exact rfl
  case hx4402 => exact rfl
  case hf4402 => exact rfl
  case hl4402 => exact rfl
  case h14402 => simp [allOne, Value.oneCell']
  intro w2 hb2 hg2
  have HX2 := Lib.hid (show w2.heap[w1.heap.size]? = some (.cells r.cells 29 (0, 0)) from hb2)
  have hk2 : Keeps (fun k => k = w1.heap.size) (w1.alloc (.cells Rf.zero.cells 29)) w2 := Keeps.row hg2 rfl
  have HL2 := Lib.hid (HLa.out.keeps hk2 (fun k hk e => HNO.out (e ▸ hk)))
  have HR2 := Lib.hid (HRa.out.keeps hk2 (fun k hk e => HNR.out (e ▸ hk)))
  have HG2 := Lib.hid (grown_new HGa.out hg2 hsz)
  clear hb2 hg2 hk2 HN HLa HRa HGa
  go_wp2_with fail
  refine (pending_ls B c _ now _ HL2.out HWG.out).mono ?_; rintro e w3 ⟨rfl, hg3⟩
  have HX3 := Lib.hid ((hg3.block _ (lt_of_block HX2.out) (by simp)).trans HX2.out)
  have HL3 := Lib.hid (HL2.out.keptNone hg3)
  have HR3 := Lib.hid (HR2.out.keptNone hg3)
  have HG3 := Lib.hid (HG2.out.trans hg3)
  have hpo := pendZ_ok (Gh.run l bs n).mask ((Gh.run l bs n).wantL now)
  have hpn := pendZ_n (Gh.run l bs n).mask ((Gh.run l bs n).wantL now)
  rw [hpo, hpn]
  generalize hpz : pendZ (Gh.run l bs n).mask ((Gh.run l bs n).wantL now) = pz at *
  have HPZ := Lib.hid hpz
  clear hg3 hpo hpn hpz
  go_wp2_with (with_reducible refine hold_ld 29 _ rfl ?_)
  apply Lib.hid
  with_reducible refine wpList_load_blk rfl 29 _ rfl _ ?o4403 ?hx4403 _ _ _ HX3.out _ 9 ?hn4403 Try.underlying29 rfl Try.size29 ?_
  case hx4403 => exact rfl
  case hn4403 => exact rfl
  have C4 := rPending_rs r _ now _ HR3.out HWG.out
  rw [HPZ.out] at C4
  go_wp2_with fail
  refine C4.mono ?_; rintro e w5 ⟨rfl, hg5⟩
  have HX5 := Lib.hid ((hg5.block _ (lt_of_block HX3.out) (by simp)).trans HX3.out)
  have HL5 := Lib.hid (HL3.out.keptNone hg5)
  have HR5 := Lib.hid (HR3.out.keptNone hg5)
  have HG5 := Lib.hid (HG3.out.trans hg5)
  clear hg5 C4
  go_wp2
  refine reg_open (none) (n := 35) rfl (by kernel_rfl) ?_
  refine reg_take 0 (some 32) (v := ?_) rfl rfl (by kernel_rfl) (by kernel_rfl) (by kernel_rfl) (fun _ _ _ h => h) (by rfl) ?_ ?_
  rotate_left
  · intro W hW; go_simp; first | done | with_reducible rfl
  try simp only [Act.put, List.setIfInBounds_toArray, List.set_cons_zero, List.set_cons_succ]
  refine reg_take 1 (some 33) (v := ?_) rfl rfl (by kernel_rfl) (by kernel_rfl) (by kernel_rfl) (fun _ _ _ h => h) (by rfl) ?_ ?_
  rotate_left
  · intro W hW; go_simp; first | done | with_reducible rfl
  try simp only [Act.put, List.setIfInBounds_toArray, List.set_cons_zero, List.set_cons_succ]
  refine reg_take 2 (some 34) (v := ?_) rfl rfl (by kernel_rfl) (by kernel_rfl) (by kernel_rfl) (fun _ _ _ h => h) (by rfl) ?_ ?_
  rotate_left
  · intro W hW; go_simp; first | done | with_reducible rfl
  try simp only [Act.put, List.setIfInBounds_toArray, List.set_cons_zero, List.set_cons_succ]
  refine reg_take 3 (some 35) (v := ?_) rfl rfl (by kernel_rfl) (by kernel_rfl) (by kernel_rfl) (fun _ _ _ h => h) (by rfl) ?_ ?_
  rotate_left
  · intro W hW; go_simp; first | done | with_reducible rfl
  try simp only [Act.put, List.setIfInBounds_toArray, List.set_cons_zero, List.set_cons_succ]
  refine reg_take 5 (some 37) (v := ?_) rfl rfl (by kernel_rfl) (by kernel_rfl) (by kernel_rfl) (fun _ _ _ h => h) (by rfl) ?_ ?_
  rotate_left
  · intro W hW; refine exec_ld29 (x := Operand.tmp 8) ?_ ?_ (((hW).block w1.heap.size (lt_of_block HX5.out) (by simp)).trans HX5.out) <;> rfl
  try simp only [Act.put, List.setIfInBounds_toArray, List.set_cons_zero, List.set_cons_succ]
  refine reg_take 6 (some 38) (v := ?_) rfl rfl (by kernel_rfl) (by kernel_rfl) (by kernel_rfl) (fun _ _ _ h => h) (by rfl) ?_ ?_
  rotate_left
  · intro W hW; go_simp; first | done | with_reducible rfl
  try simp only [Act.put, List.setIfInBounds_toArray, List.set_cons_zero, List.set_cons_succ]
  refine wpAnyH_ready (rs := [4]) (by kernel_rfl) (by simp) ?_
  refine (AllReadyH.cons (o := { dst := some 36, op := Op.call { callee := Callee.value (Operand.func 20), args := #[Operand.tmp 34, Operand.tmp 35], argTypes := #[23, 2] }, type := 22, pos := "law.go:131", after := #[{ on := 2, ground := Ground.data }, { on := 3, ground := Ground.data }, { on := 1, ground := Ground.chain }, { on := 1, ground := Ground.guard }], guard := some (1, true) }) rfl (fun K hK => ?_) AllReadyH.nil)
  go_simp
  refine (wants_ls B c _ now _ HL5.out.drew HWG.out).mono ?_; rintro e u1 ⟨rfl, h1⟩
  refine reg_next hK h1 ?_
  clear hK K
  try simp only [Act.put, List.setIfInBounds_toArray, List.set_cons_zero, List.set_cons_succ]
  refine wpAnyH_ready (rs := [7]) (by kernel_rfl) (by simp) ?_
  refine (AllReadyH.cons (o := { dst := some 39, op := Op.call { callee := Callee.value (Operand.func 21), args := #[Operand.tmp 37, Operand.tmp 38], argTypes := #[29, 2] }, type := 22, pos := "law.go:131", after := #[{ on := 5, ground := Ground.data }, { on := 6, ground := Ground.data }, { on := 4, ground := Ground.chain }, { on := 1, ground := Ground.guard }], guard := some (1, true) }) rfl (fun K hK => ?_) AllReadyH.nil)
  go_simp
  refine (rWants_rs r _ now _ (HR5.out.keptNone (drewl h1)) HWG.out).mono ?_; rintro e u2 ⟨rfl, h2⟩
  refine reg_next hK h2 ?_
  clear hK K
  try simp only [Act.put, List.setIfInBounds_toArray, List.set_cons_zero, List.set_cons_succ]
  refine reg_take 8 (some 40) (v := ?_) rfl rfl (by kernel_rfl) (by kernel_rfl) (by kernel_rfl) (fun _ _ _ h => h) (by rfl) ?_ ?_
  rotate_left
  · intro W hW; go_simp; first | done | with_reducible rfl
  try simp only [Act.put, List.setIfInBounds_toArray, List.set_cons_zero, List.set_cons_succ]
  refine reg_take 9 (some 41) (v := ?_) rfl rfl (by kernel_rfl) (by kernel_rfl) (by kernel_rfl) (fun _ _ _ h => h) (by rfl) ?_ ?_
  rotate_left
  · intro W hW; go_simp; first | done | with_reducible rfl
  try simp only [Act.put, List.setIfInBounds_toArray, List.set_cons_zero, List.set_cons_succ]
  refine reg_take 10 (some 42) (v := ?_) rfl rfl (by kernel_rfl) (by kernel_rfl) (by kernel_rfl) (fun _ _ _ h => h) (by rfl) ?_ ?_
  rotate_left
  · intro W hW; go_simp; first | done | with_reducible rfl
  try simp only [Act.put, List.setIfInBounds_toArray, List.set_cons_zero, List.set_cons_succ]
  refine reg_take 11 (some 43) (v := ?_) rfl rfl (by kernel_rfl) (by kernel_rfl) (by kernel_rfl) (fun _ _ _ h => h) (by rfl) ?_ ?_
  rotate_left
  · intro W hW; go_simp; first | done | with_reducible rfl
  try simp only [Act.put, List.setIfInBounds_toArray, List.set_cons_zero, List.set_cons_succ]
  refine reg_take 12 (some 44) (v := ?_) rfl rfl (by kernel_rfl) (by kernel_rfl) (by kernel_rfl) (fun _ _ _ h => h) (by rfl) ?_ ?_
  rotate_left
  · intro W hW; go_simp; first | done | with_reducible rfl
  try simp only [Act.put, List.setIfInBounds_toArray, List.set_cons_zero, List.set_cons_succ]
  refine reg_take 13 (some 45) (v := ?_) rfl rfl (by kernel_rfl) (by kernel_rfl) (by kernel_rfl) (fun _ _ _ h => h) (by rfl) ?_ ?_
  rotate_left
  · intro W hW; go_simp; first | done | with_reducible rfl
  try simp only [Act.put, List.setIfInBounds_toArray, List.set_cons_zero, List.set_cons_succ]
  refine reg_take 14 (some 46) (v := ?_) rfl rfl (by kernel_rfl) (by kernel_rfl) (by kernel_rfl) (fun _ _ _ h => h) (by rfl) ?_ ?_
  rotate_left
  · intro W hW; go_simp; first | done | with_reducible rfl
  try simp only [Act.put, List.setIfInBounds_toArray, List.set_cons_zero, List.set_cons_succ]
  refine reg_take 15 (some 47) (v := ?_) rfl rfl (by kernel_rfl) (by kernel_rfl) (by kernel_rfl) (fun _ _ _ h => h) (by rfl) ?_ ?_
  rotate_left
  · intro W hW; go_simp; first | done | with_reducible rfl
  try simp only [Act.put, List.setIfInBounds_toArray, List.set_cons_zero, List.set_cons_succ]
  refine reg_take 16 (some 48) (v := ?_) rfl rfl (by kernel_rfl) (by kernel_rfl) (by kernel_rfl) (fun _ _ _ h => h) (by rfl) ?_ ?_
  rotate_left
  · intro W hW; go_simp; first | done | with_reducible rfl
  try simp only [Act.put, List.setIfInBounds_toArray, List.set_cons_zero, List.set_cons_succ]
  refine reg_take 17 (some 49) (v := ?_) rfl rfl (by kernel_rfl) (by kernel_rfl) (by kernel_rfl) (fun _ _ _ h => h) (by rfl) ?_ ?_
  rotate_left
  · intro W hW; go_simp; first | done | with_reducible rfl
  try simp only [Act.put, List.setIfInBounds_toArray, List.set_cons_zero, List.set_cons_succ]
  refine reg_take 18 (some 50) (v := ?_) rfl rfl (by kernel_rfl) (by kernel_rfl) (by kernel_rfl) (fun _ _ _ h => h) (by rfl) ?_ ?_
  rotate_left
  · intro W hW; go_simp; first | done | with_reducible rfl
  try simp only [Act.put, List.setIfInBounds_toArray, List.set_cons_zero, List.set_cons_succ]
  refine reg_take 19 (some 51) (v := ?_) rfl rfl (by kernel_rfl) (by kernel_rfl) (by kernel_rfl) (fun _ _ _ h => h) (by rfl) ?_ ?_
  rotate_left
  · intro W hW; go_simp; first | done | with_reducible rfl
  try simp only [Act.put, List.setIfInBounds_toArray, List.set_cons_zero, List.set_cons_succ]
  refine reg_take 20 (some 52) (v := ?_) rfl rfl (by kernel_rfl) (by kernel_rfl) (by kernel_rfl) (fun _ _ _ h => h) (by rfl) ?_ ?_
  rotate_left
  · intro W hW; go_simp; first | done | with_reducible rfl
  try simp only [Act.put, List.setIfInBounds_toArray, List.set_cons_zero, List.set_cons_succ]
  refine reg_take 21 (some 53) (v := ?_) rfl rfl (by kernel_rfl) (by kernel_rfl) (by kernel_rfl) (fun _ _ _ h => h) (by rfl) ?_ ?_
  rotate_left
  · intro W hW; go_simp; first | done | with_reducible rfl
  try simp only [Act.put, List.setIfInBounds_toArray, List.set_cons_zero, List.set_cons_succ]
  refine reg_take 22 (some 54) (v := ?_) rfl rfl (by kernel_rfl) (by kernel_rfl) (by kernel_rfl) (fun _ _ _ h => h) (by rfl) ?_ ?_
  rotate_left
  · intro W hW; go_simp; first | done | with_reducible rfl
  try simp only [Act.put, List.setIfInBounds_toArray, List.set_cons_zero, List.set_cons_succ]
  refine reg_take 23 (some 55) (v := ?_) rfl rfl (by kernel_rfl) (by kernel_rfl) (by kernel_rfl) (fun _ _ _ h => h) (by rfl) ?_ ?_
  rotate_left
  · intro W hW; go_simp; first | done | with_reducible rfl
  try simp only [Act.put, List.setIfInBounds_toArray, List.set_cons_zero, List.set_cons_succ]
  refine reg_take 24 (some 56) (v := ?_) rfl rfl (by kernel_rfl) (by kernel_rfl) (by kernel_rfl) (fun _ _ _ h => h) (by rfl) ?_ ?_
  rotate_left
  · intro W hW; go_simp; first | done | with_reducible rfl
  try simp only [Act.put, List.setIfInBounds_toArray, List.set_cons_zero, List.set_cons_succ]
  refine reg_take 26 (some 58) (v := ?_) rfl rfl (by kernel_rfl) (by kernel_rfl) (by kernel_rfl) (fun _ _ _ h => h) (by rfl) ?_ ?_
  rotate_left
  · intro W hW; refine exec_ld29 (x := Operand.tmp 8) ?_ ?_ ((((h1.trans (h2.trans hW))).block w1.heap.size (lt_of_block HX5.out) (by simp)).trans HX5.out) <;> rfl
  try simp only [Act.put, List.setIfInBounds_toArray, List.set_cons_zero, List.set_cons_succ]
  refine reg_take 27 (some 59) (v := ?_) rfl rfl (by kernel_rfl) (by kernel_rfl) (by kernel_rfl) (fun _ _ _ h => h) (by rfl) ?_ ?_
  rotate_left
  · intro W hW; go_simp; first | done | with_reducible rfl
  try simp only [Act.put, List.setIfInBounds_toArray, List.set_cons_zero, List.set_cons_succ]
  refine wpAnyH_ready (rs := [25]) (by kernel_rfl) (by simp) ?_
  refine (AllReadyH.cons (o := { dst := some 57, op := Op.call { callee := Callee.value (Operand.func 32), args := #[Operand.tmp 55, Operand.tmp 56], argTypes := #[23, 3] }, type := 4, pos := "law.go:131", after := #[{ on := 23, ground := Ground.data }, { on := 24, ground := Ground.data }, { on := 22, ground := Ground.chain }, { on := 22, ground := Ground.guard }], guard := some (22, true) }) rfl (fun K hK => ?_) AllReadyH.nil)
  go_simp
  refine (raised_ls B c _ line _ (HL5.out.keptNone (drewl (h1.trans h2)))).mono ?_; rintro e w' ⟨rfl, rfl⟩
  refine reg_same hK ?_
  clear hK K
  try simp only [Act.put, List.setIfInBounds_toArray, List.set_cons_zero, List.set_cons_succ]
  refine wpAnyH_ready (rs := [28]) (by kernel_rfl) (by simp) ?_
  refine (AllReadyH.cons (o := { dst := some 60, op := Op.call { callee := Callee.value (Operand.func 33), args := #[Operand.tmp 58, Operand.tmp 59], argTypes := #[29, 3] }, type := 4, pos := "law.go:131", after := #[{ on := 26, ground := Ground.data }, { on := 27, ground := Ground.data }, { on := 25, ground := Ground.chain }, { on := 22, ground := Ground.guard }], guard := some (22, true) }) rfl (fun K hK => ?_) AllReadyH.nil)
  go_simp
  refine (rraised_rs r _ line _ (HR5.out.keptNone (drewl (h1.trans h2)))).mono ?_; rintro e u3 ⟨rfl, h3⟩
  refine reg_next hK h3 ?_
  clear hK K
  try simp only [Act.put, List.setIfInBounds_toArray, List.set_cons_zero, List.set_cons_succ]
  refine reg_take 29 (some 61) (v := ?_) rfl rfl (by kernel_rfl) (by kernel_rfl) (by kernel_rfl) (fun _ _ _ h => h) (by rfl) ?_ ?_
  rotate_left
  · intro W hW; go_simp; first | done | with_reducible rfl
  try simp only [Act.put, List.setIfInBounds_toArray, List.set_cons_zero, List.set_cons_succ]
  refine reg_take 30 (some 62) (v := ?_) rfl rfl (by kernel_rfl) (by kernel_rfl) (by kernel_rfl) (fun _ _ _ h => h) (by rfl) ?_ ?_
  rotate_left
  · intro W hW; go_simp; first | done | with_reducible rfl
  try simp only [Act.put, List.setIfInBounds_toArray, List.set_cons_zero, List.set_cons_succ]
  refine reg_take 31 (some 63) (v := ?_) rfl rfl (by kernel_rfl) (by kernel_rfl) (by kernel_rfl) (fun _ _ _ h => h) (by rfl) ?_ ?_
  rotate_left
  · intro W hW; go_simp; first | done | with_reducible rfl
  try simp only [Act.put, List.setIfInBounds_toArray, List.set_cons_zero, List.set_cons_succ]
  refine wpAnyH_ready (rs := [32]) (by kernel_rfl) (by simp) ?_
  refine (AllReadyH.cons (o := { dst := some 64, op := Op.call { callee := Callee.value (Operand.func 23), args := #[], argTypes := #[] }, type := 4, pos := "law.go:131", after := #[{ on := 31, ground := Ground.chain }, { on := 31, ground := Ground.guard }], guard := some (31, true) }) rfl (fun K hK => ?_) AllReadyH.nil)
  go_simp
  refine (works_any _).mono ?_; rintro e u4 ⟨rfl, h4⟩
  refine reg_next hK h4 ?_
  clear hK K
  try simp only [Act.put, List.setIfInBounds_toArray, List.set_cons_zero, List.set_cons_succ]
  refine reg_take 33 (some 65) (v := ?_) rfl rfl (by kernel_rfl) (by kernel_rfl) (by kernel_rfl) (fun _ _ _ h => h) (by rfl) ?_ ?_
  rotate_left
  · intro W hW; go_simp; first | done | with_reducible rfl
  try simp only [Act.put, List.setIfInBounds_toArray, List.set_cons_zero, List.set_cons_succ]
  refine reg_take 34 (some 6) (v := ?_) rfl rfl (by kernel_rfl) (by kernel_rfl) (by kernel_rfl) (fun _ _ _ h => h) (by rfl) ?_ ?_
  rotate_left
  · intro W hW; go_simp; first | done | with_reducible rfl
  try simp only [Act.put, List.setIfInBounds_toArray, List.set_cons_zero, List.set_cons_succ]
  refine wpAnyH_done (by kernel_rfl) ?_ _
  have HG := Lib.hid (HG5.out.trans (drewl (h1.trans (h2.trans (h3.trans h4)))))
  clear h1 h2 h3 h4
  go_wp2
  go_ret
  exact ⟨rfl, HG.out⟩
end Go.Proofs.Ytmdgehpmeikgfaa
