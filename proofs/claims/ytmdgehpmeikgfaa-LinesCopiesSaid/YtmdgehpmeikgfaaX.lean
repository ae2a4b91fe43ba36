import Derived.Test.YtmdgehpmeikgfaaW
set_option linter.unusedVariables false
namespace Go.Proofs.Ytmdgehpmeikgfaa
open Go.RowKit
/-- A list of calls that can be read. -/
def SrcX (w : World) (a : Option Addr) (n : Nat) (l : Nat → Ac) (bs : Nat → List UInt8) : Prop :=
  n = 0 ∨ ∃ b o, a = some ⟨b, o, none⟩ ∧ ∀ j, j < n → w.rangeAt b (o + j * 6) (l j).cells.toList ∧ (l j).bn = (bs j).length ∧ Go.Proofs.Ytmdgehpmeikgfaa.Src w (l j).ba (bs j) ∧ (l j).word < 4294967296 ∧ (bs j).length ≤ 140737488355328
def Gh.run (l : Nat → Ac) (bs : Nat → List UInt8) : Nat → Gh
  | 0 => .zero
  | k + 1 => (Gh.run l bs k).step (l k) (bs k)
theorem wg_run (l : Nat → Ac) (bs : Nat → List UInt8) {n : Nat} (hw : ∀ j, j < n → (l j).word < 4294967296) : ∀ k, k ≤ n → WG (Gh.run l bs k)
  | 0, _ => ⟨by show (0 : Nat) < 4294967296; decide, by show (0 : Nat) < 16; decide, Nat.le_refl _, by show (0 : Nat) - 0 ≤ 256; decide⟩
  | k + 1, h => (wg_run l bs hw k (by omega)).step _ (hw k (by omega)) _
theorem run_pushed (l : Nat → Ac) (bs : Nat → List UInt8) : ∀ k, (Gh.run l bs k).pushed.length ≤ 256 * k
  | 0 => Nat.le_refl _
  | k + 1 => by have h1 := run_pushed l bs k; have h2 := ((Gh.run l bs k).step_pushed (l k) (bs k)).1; simp only [Gh.run]; omega
theorem run_told (l : Nat → Ac) (bs : Nat → List UInt8) : ∀ k, (Gh.run l bs k).told.length ≤ k
  | 0 => Nat.le_refl _
  | k + 1 => by have h1 := run_told l bs k; have h2 := ((Gh.run l bs k).step_told (l k) (bs k)); simp only [Gh.run]; omega
theorem rangeAt_of {w W : World} {b o : Nat} {cs : List Value} (h : w.rangeAt b o cs) (e : W.heap[b]? = w.heap[b]?) : W.rangeAt b o cs :=
  fun j v hj => (World.cell?_of_block e).trans (h j v hj)
theorem exec_ldm {P : Program} {op : Oper} {ρ : Operand → Value} {W : World} {x : Operand} (ty : TypeId) (ho : op.op = .load ty x) (b o : Nat) (hx : ρ x = .pointer (some ⟨b, o, none⟩)) (cs : List Value) (d : TypeDesc) (hc : W.rangeAt b o cs)
    (hu : P.underlying ty = some d) (hd : d.isRow = true) (hi : (P.info? ty).map (·.size) = some cs.length) :
    (execOp ρ op).run P W = .ok (.value (.agg cs.toArray)) W := by
  have hrun := run_loadAt_mid (P := P) W b o ty cs d hc hu hd hi
  simp only [execOp, ho, hx, Sem.run_bind, hrun, Result.andThen_ok, Sem.run_pure]
theorem results_tc29t {fn : Func} {p t u : Tmp} (h : fn.results = #[.tmp t, .cell p 29, .tmp u]) (tmps : Array Value) (w : World) (g : Nat) (cs : Array Value) (hs : cs.size = 9)
    (hp : tmps.getD p undef = .pointer (some ⟨g, 0, none⟩)) (hg : w.heap[g]? = some (.cells cs 29 (0, 0))) : (results fn tmps).run Try.prog w = .ok (.tuple #[tmps.getD t undef, .agg cs, tmps.getD u undef]) w := by
  have hp' : tmps[p]?.getD undef = .pointer (some ⟨g, 0, none⟩) := by simpa using hp
  have hl := run_loadVar_row (P := Try.prog) w g 29 29 cs (0, 0) _ hg Try.underlying29 rfl (by rw [hs]; exact Try.size29)
  simp [results, h, hp', asAddr, hl]
theorem Sl.not29 {w : World} {v : Value} {l : List UInt8} (h : Sl w v l) {A : Nat} {cs : Array Value} (hA : w.heap[A]? = some (.cells cs 29 (0, 0))) : rowOf v ≠ some A := fun e => h.ne hA (by decide) A e rfl
theorem LS.nown {w : World} {B : Nat} {c : Lc} {g : Gh} (h : LS w B c g) {A : Nat} {cs : Array Value} (hA : w.heap[A]? = some (.cells cs 29 (0, 0))) : ¬ own c B A := by
  rintro (e | e | e)
  · have := h.lk.blk
    rw [e] at hA
    rw [hA] at this
    simp at this
  · exact h.q.not29 hA e
  · exact h.o.not29 hA e
theorem RS.nrow {w : World} {r : Rf} {g : Gh} (h : RS w r g) {A : Nat} {cs : Array Value} (hA : w.heap[A]? = some (.cells cs 29 (0, 0))) : ¬ rrow r A := by
  rintro (e | e)
  · exact h.p.not29 hA e
  · exact h.t.not29 hA e
theorem new_ls {w w' : World} {B : Nat} (hB : w.heap.size ≤ B) (h : Lk w' B .new) : LS w' B .new .zero :=
  ⟨h, rfl, rfl, rfl, rfl, rfl, rfl, .inl ⟨rfl, rfl⟩, rfl, .inl ⟨rfl, rfl⟩, fun k h => by cases h⟩
theorem zero_rs (w : World) : RS w .zero .zero := ⟨rfl, rfl, rfl, rfl, rfl, rfl, .inl ⟨rfl, rfl⟩, rfl, .inl ⟨rfl, rfl⟩⟩
def cost (l : Nat → Ac) : Nat → Nat
  | 0 => 0
  | k + 1 => cost l k + 40 + (l k).bn
theorem cost_mono (l : Nat → Ac) (k : Nat) : ∀ n, k ≤ n → cost l k ≤ cost l n
  | 0, h => by obtain rfl : k = 0 := by omega
               exact Nat.le_refl _
  | n + 1, h => by
    by_cases e : k = n + 1
    · subst e; exact Nat.le_refl _
    · have := cost_mono l k n (by omega)
      simp only [cost]; omega
theorem cost_ge (l : Nat → Ac) : ∀ n, 40 * n ≤ cost l n
  | 0 => Nat.le_refl _
  | n + 1 => by have := cost_ge l n; simp only [cost]; omega
theorem cost_bn (l : Nat → Ac) (k n : Nat) (h : k < n) : (l k).bn ≤ cost l n := by
  have := cost_mono l (k + 1) n h
  simp only [cost] at this
  omega
set_option maxHeartbeats 8000000 in
theorem few_any (a : Option Addr) (n cap : Nat) (l : Nat → Ac) (bs : Nat → List UInt8) (w : World) (hs : SrcX w a n l bs) (hm : n ≤ 9223372036854775807) :
    Calls Try.prog 24 #[.slice a n cap] w fun e w' => e = .returned (.bool (decide (cost l n ≤ 5000))) ∧ w = w' := by
  go_enter Try.func24, Try.ntmps24
  go_wp2
  go_loop [3, 4] (fun s i => ∃ k : Nat, k ≤ n ∧ i = .int .i64 k ∧ s = .int .i64 (cost l k : Nat) ∧ (cost l k : Nat) ≤ 5040 + 140737488355328) (fun _ i => n - (intOf i).toNat)
  case atStart => exact ⟨0, Nat.zero_le _, rfl, rfl, by simp [cost]⟩
  case round =>
    obtain ⟨k, hk, rfl, rfl, hc⟩ := hrel
    by_cases hlt : k < n
    · by_cases hc5 : cost l k ≤ 5000
      · obtain ⟨b, o, rfl, hcs⟩ := hs.resolve_left (by omega)
        obtain ⟨h1, h2, _, _, h5⟩ := hcs k hlt
        have c2 : w.cell? ⟨b, o + k * 6 + 2, none⟩ = some (.slice (l k).ba (l k).bn (l k).bc) := h1 2 _ rfl
        have hlt' : (k : Int) < (n : Nat) := by omega
        have hc5' : (cost l k : Int) ≤ 5000 := by omega
        rw [← h2] at h5
        have hw1 : IntKind.i64.wrap ((cost l k : Int) + 40) = (cost l k : Int) + 40 := by rw [IntKind.wrap_i64]; omega
        have hw2 : IntKind.i64.wrap ((cost l k : Int) + 40 + ((l k).bn : Nat)) = (cost l k : Int) + 40 + ((l k).bn : Nat) := by rw [IntKind.wrap_i64]; omega
        have hwk : IntKind.i64.wrap ((k : Int) + 1) = ((k + 1 : Nat) : Int) := by rw [IntKind.wrap_i64]; omega
        clear h1 h2 hcs
        go_wp2
        go_round
        case rel => exact ⟨k + 1, by omega, rfl, by simp [cost], by simp only [cost]; omega⟩
        case measure => simp [intOf]; omega
      · have hc5' : ¬ (cost l k : Int) ≤ 5000 := by omega
        have hlt' : (k : Int) < (n : Nat) := by omega
        have hcn : decide (cost l n ≤ 5000) = false := by
          have := cost_mono l k n hk
          simp
          omega
        go_wp2
        go_ret
        exact ⟨rfl, rfl⟩
    · obtain rfl : k = n := by omega
      by_cases hc5 : cost l k ≤ 5000
      · have hc5' : (cost l k : Int) ≤ 5000 := by omega
        have e : decide (cost l k ≤ 5000) = true := by simp [hc5]
        go_wp2
        go_ret
        exact ⟨rfl, rfl⟩
      · have hc5' : ¬ (cost l k : Int) ≤ 5000 := by omega
        have e : decide (cost l k ≤ 5000) = false := by simp [hc5]
        go_wp2
        go_ret
        exact ⟨rfl, rfl⟩
set_option maxHeartbeats 8000000 in
theorem played_any (a : Option Addr) (n cap : Nat) (l : Nat → Ac) (bs : Nat → List UInt8) (w : World) (hs : SrcX w a n l bs) (hm : n ≤ 1000) (hbl : ∀ j, j < n → (bs j).length ≤ 500000) :
    Calls Try.prog 29 #[.slice a n cap] w fun e w' => ∃ B c r, e = .returned (.tuple #[.pointer (some ⟨B, 0, none⟩), r.val, .bool true]) ∧ LS w' B c (Gh.run l bs n) ∧ RS w' r (Gh.run l bs n) ∧ (∀ k, own c B k → ¬ rrow r k) ∧ (∀ k, own c B k → w.heap.size ≤ k) ∧ (∀ k, rrow r k → w.heap.size ≤ k) ∧ w.grownBy w' none := by
  have hwd : ∀ j, j < n → (l j).word < 4294967296 := fun j hj => by
    rcases hs with h | ⟨b, o, _, h⟩
    · omega
    · exact (h j hj).2.2.2.1
  have hxlt : ∀ j, j < n → ∀ b' o', (l j).ba = some ⟨b', o', none⟩ → bs j = [] ∨ b' < w.heap.size := fun j hj b' o' e => by
    rcases hs with h | ⟨b, o, _, h⟩
    · omega
    · by_cases he : bs j = []
      · exact .inl he
      · exact .inr (Go.Proofs.Ytmdgehpmeikgfaa.Src.lt (e ▸ (h j hj).2.2.1) he)
  have HS1 := Lib.hid (heap_alloc_new w (.cells Rf.zero.cells 29))
  go_enter Try.func29, Try.ntmps29
  go_wp2_with fail
  refine (new_any _).mono ?_; rintro e w1 ⟨B, rfl, hB, hTb, hg1⟩
  rw [World.size_alloc] at hB
  have hB1 := hTb.lt
  have hsz := hg1.size
  rw [World.size_alloc] at hsz
  have HN := Lib.hid (heap_alloc_new w1 (.cells Rf.zero.cells 29))
  have HT1 := Lib.hid (hTb.keptNone (World.grownBy_alloc w1 (.cells Rf.zero.cells 29) none))
  have HG1 := Lib.hid (hg1.trans (World.grownBy_alloc w1 (.cells Rf.zero.cells 29) none))
  clear hTb hg1
  go_wp2_with (with_reducible refine hold_st 29 _ _ rfl ?_)
  apply Lib.hid
  with_reducible refine wpList_store_all rfl 29 _ _ rfl _ ?cs4201 ?hx4201 ?hy4201 _ _ HN.out ?hf4201 _ ?hl4201 Try.size29 ?h14201 ?_
  case hy4201 => exact rfl
  case hx4201 => exact rfl
  case hf4201 => exact rfl
  case hl4201 => exact rfl
  case h14201 => simp [allOne, Value.oneCell']
  intro w2 hb2 hg2

  have HX2 := Lib.hid (show w2.heap[w1.heap.size]? = some (.cells Rf.zero.cells 29 (0, 0)) from hb2)
  have HT2 := Lib.hid (show LS w2 B .new .zero from new_ls (w := w) (by omega) (HT1.out.kept hg2 (by simp; omega)))
  have HG2 := Lib.hid (grown_new HG1.out hg2 (by simp; omega))
  have HO2 := Lib.hid (show ∀ k, own Lc.new B k → w.heap.size + 1 ≤ k from fun k hk => hk.elim (fun e => by omega) (fun h => h.elim (fun e => by cases e) (fun e => by cases e)))
  clear hb2 hg2 HN HT1 HG1
  go_wp2
  go_loopw [7, 8] (fun f i wr => f = .bool true ∧ ∃ k : Nat, k ≤ n ∧ i = .int .i64 k ∧ ∃ c r, LS wr B c (Gh.run l bs k) ∧ RS wr r (Gh.run l bs k) ∧ (∀ k, own c B k → ¬ rrow r k) ∧ wr.heap[w1.heap.size]? = some (.cells r.cells 29 (0, 0)) ∧ (∀ k, own c B k → w.heap.size + 1 ≤ k) ∧ (∀ k, rrow r k → w.heap.size + 1 ≤ k) ∧ (w.alloc (.cells Rf.zero.cells 29)).grownBy wr none) (fun _ i _ => n - (intOf i).toNat)
  case atStart => exact ⟨rfl, 0, Nat.zero_le _, rfl, .new, .zero, HT2.out, zero_rs _, fun k _ h => h.elim (fun e => by cases e) (fun e => by cases e), HX2.out, HO2.out, fun k h => h.elim (fun e => by cases e) (fun e => by cases e), HG2.out⟩
  case round =>
    obtain ⟨rfl, k, hk, rfl, c, r, hLr, hRr, hSr, hXr, hOr, hWr, hgr⟩ := hrel
    have HNO := Lib.hid (hLr.nown hXr)
    have HNR := Lib.hid (hRr.nrow hXr)
    have HLr := Lib.hid hLr
    have HRr := Lib.hid hRr
    have HSEP := Lib.hid hSr
    have HOW := Lib.hid hOr
    have HRW := Lib.hid hWr
    have HXr := Lib.hid hXr
    have HG := Lib.hid hgr
    have hXge : w.heap.size + 1 ≤ w1.heap.size := hsz
    have hp1 := run_pushed l bs k
    have ht1 := run_told l bs k
    have hb2 : (Gh.run l bs k).pushed.length ≤ 500000 := by omega
    have hb3 : (Gh.run l bs k).told.length ≤ 500000 := by omega
    clear hLr hRr hSr hOr hWr hXr hgr HT2 HX2 HG2 HO2
    by_cases hlt : k < n
    · obtain ⟨b, o, rfl, hcs⟩ := hs.resolve_left (by omega)
      have hb1 := hbl k hlt
      have hb0 : b < w.heap.size := World.block_lt_of_cell? w _ ((hcs k hlt).1 0 _ rfl)
      have hbw : b < wr.heap.size := by have := HG.out.size; rw [World.size_alloc] at this; omega
      have hGw : w.grownBy wr none := (World.grownBy_alloc w (.cells Rf.zero.cells 29) none).trans HG.out
      have HS := Lib.hid (fun j hj => show wr.rangeAt b (o + j * 6) (l j).cells.toList ∧ (l j).bn = (bs j).length ∧ Go.Proofs.Ytmdgehpmeikgfaa.Src wr (l j).ba (bs j) from ⟨rangeAt_of (hcs j hj).1 (hGw.block b hb0 (by simp)), (hcs j hj).2.1, (hcs j hj).2.2.1.keptNone hGw⟩)
      have HNB := Lib.hid (show ¬ (own c B b ∨ b = w1.heap.size) from fun h => h.elim (fun h => by have := HOW.out b h; omega) (fun h => by omega))
      clear hcs hs hGw
      go_wp2
      refine regx_open (fun k => own c B k ∨ k = w1.heap.size) (n := 12) rfl (by kernel_rfl) ?_
      refine regx_take 0 (some 21) (v := ?_) rfl rfl (by kernel_rfl) (by kernel_rfl) (by kernel_rfl) (fun _ _ _ h => h) (by rfl) ?_ ?_
      rotate_left
      · intro W hW; go_simp; first | done | with_reducible rfl
      try simp only [Act.put, List.setIfInBounds_toArray, List.set_cons_zero, List.set_cons_succ]
      refine regx_take 2 (some 23) (v := ?_) rfl rfl (by kernel_rfl) (by kernel_rfl) (by kernel_rfl) (fun _ _ _ h => h) (by rfl) ?_ ?_
      rotate_left
      · intro W hW; go_simp; first | done | with_reducible rfl
      try simp only [Act.put, List.setIfInBounds_toArray, List.set_cons_zero, List.set_cons_succ]
      refine regx_take 3 (some 24) (v := ?_) rfl rfl (by kernel_rfl) (by kernel_rfl) (by kernel_rfl) (fun _ _ _ h => h) (by rfl) ?_ ?_
      rotate_left
      · intro W hW; go_simp; first | done | with_reducible rfl
      try simp only [Act.put, List.setIfInBounds_toArray, List.set_cons_zero, List.set_cons_succ]
      refine regx_take 4 (some 25) (v := ?_) rfl rfl (by kernel_rfl) (by kernel_rfl) (by kernel_rfl) (fun _ _ _ h => h) (by rfl) ?_ ?_
      rotate_left
      · intro W hW; go_simp; first | done | with_reducible rfl
      try simp only [Act.put, List.setIfInBounds_toArray, List.set_cons_zero, List.set_cons_succ]
      refine regx_take 5 (some 26) (v := ?_) rfl rfl (by kernel_rfl) (by kernel_rfl) (by kernel_rfl) (fun _ _ _ h => h) (by rfl) ?_ ?_
      rotate_left
      · intro W hW; refine exec_ldm (x := .tmp 25) 49 ?_ b (o + k * 6) ?_ (l k).cells.toList _ (rangeAt_of (HS.out k hlt).1 (hW.block b hbw (HNB.out))) Try.underlying49 ?_ Try.size49 <;> rfl
      try simp only [Act.put, List.setIfInBounds_toArray, List.set_cons_zero, List.set_cons_succ]
      refine wpAnyH_ready (rs := [1]) (by kernel_rfl) (by simp) ?_
      refine (AllReadyH.cons (o := { dst := some 22, op := Op.load 29 (Operand.tmp 6), type := 29, pos := "law.go:86", after := #[], guard := none }) rfl (fun K hK => ?_) AllReadyH.nil)
      refine wp_of_exec (exec_ld29 (x := .tmp 6) (b := w1.heap.size) (r := r) ?_ ?_ ?_) ?_
      · rfl
      · rfl
      · exact HXr.out
      refine regx_same hK ?_
      clear hK K
      try simp only [Act.put, List.setIfInBounds_toArray, List.set_cons_zero, List.set_cons_succ]
      refine wpAnyH_ready (rs := [6]) (by kernel_rfl) (by simp) ?_
      refine (AllReadyH.cons (o := { dst := some 27, op := Op.call { callee := Callee.value (Operand.func 30), args := #[Operand.tmp 21, Operand.tmp 22, Operand.tmp 26], argTypes := #[23, 29, 49] }, type := 60, pos := "law.go:86", after := #[{ on := 0, ground := Ground.data }, { on := 1, ground := Ground.data }, { on := 5, ground := Ground.data }], guard := none }) rfl (fun K hK => ?_) AllReadyH.nil)
      go_simp
      refine (act_any B c r (Gh.run l bs k) (l k) (bs k) _ HLr.out.drew HRr.out.drew HSEP.out (wg_run l bs (fun j hj => hwd j (by omega)) k (by omega)) (HS.out k hlt).2.1 ((HS.out k hlt).2.2.keptNone (drewr (World.grownBy.refl _ _))) (fun hne b' o' e hk => by have h1 := HOW.out _ hk; have h2 := (hxlt k hlt b' o' e).resolve_left hne; omega) hb1 hb2 hb3 (hwd k hlt)).mono ?_; rintro e u1 ⟨c', r', rfl, hP⟩; have h1 : Keeps (fun k => own c B k ∨ k = w1.heap.size) _ u1 := hP.keep.mono (fun i _ h => .inl h)
      refine regx_next hK h1 ?_
      clear hK K
      try simp only [Act.put, List.setIfInBounds_toArray, List.set_cons_zero, List.set_cons_succ]
      refine regx_take 7 (some 20) (v := ?_) rfl rfl (by kernel_rfl) (by kernel_rfl) (by kernel_rfl) (fun _ _ _ h => h) (by rfl) ?_ ?_
      rotate_left
      · intro W hW; go_simp; first | done | with_reducible rfl
      try simp only [Act.put, List.setIfInBounds_toArray, List.set_cons_zero, List.set_cons_succ]
      refine regx_take 8 (some 28) (v := ?_) rfl rfl (by kernel_rfl) (by kernel_rfl) (by kernel_rfl) (fun _ _ _ h => h) (by rfl) ?_ ?_
      rotate_left
      · intro W hW; go_simp; first | done | with_reducible rfl
      try simp only [Act.put, List.setIfInBounds_toArray, List.set_cons_zero, List.set_cons_succ]
      refine regx_take 9 (some 29) (v := ?_) rfl rfl (by kernel_rfl) (by kernel_rfl) (by kernel_rfl) (fun _ _ _ h => h) (by rfl) ?_ ?_
      rotate_left
      · intro W hW; go_simp; first | done | with_reducible rfl
      try simp only [Act.put, List.setIfInBounds_toArray, List.set_cons_zero, List.set_cons_succ]
      refine wpAnyH_ready (rs := [10]) (by kernel_rfl) (by simp) ?_
      refine (AllReadyH.cons (o := { dst := none, op := Op.store 29 (Operand.tmp 6) (Operand.tmp 28), type := 0, pos := "law.go:86", after := #[{ on := 8, ground := Ground.data }, { on := 6, ground := Ground.chain }, { on := 0, ground := Ground.phase }, { on := 1, ground := Ground.phase }, { on := 2, ground := Ground.phase }, { on := 3, ground := Ground.phase }, { on := 4, ground := Ground.phase }, { on := 5, ground := Ground.phase }, { on := 6, ground := Ground.phase }, { on := 7, ground := Ground.phase }, { on := 8, ground := Ground.phase }, { on := 9, ground := Ground.textOnly Departure.lateStores }], guard := none }) rfl (fun K hK => ?_) AllReadyH.nil)
      have hz := (hP.keep.block _ (lt_of_block (show wr.drew.heap[w1.heap.size]? = _ from HXr.out)) HNO.out).trans HXr.out
      refine wp_store_all 29 _ _ rfl w1.heap.size ?csu4 ?hxu4 ?hyu4 _ _ hz ?hfu4 9 ?hnu4 Try.size29 ?h1u4 ?_
      case hyu4 => exact rfl
      case hxu4 => exact rfl
      case hfu4 => exact rfl
      case hnu4 => exact rfl
      case h1u4 => simp [allOne, Value.oneCell']
      intro u4 hb4 h4'
      have h4 : Keeps (fun k => own c B k ∨ k = w1.heap.size) _ u4 := Keeps.row h4' (.inr rfl)
      refine regx_next hK h4 ?_
      clear hK K
      try simp only [Act.put]
      refine regx_take 11 (some 7) (v := ?_) rfl rfl (by kernel_rfl) (by kernel_rfl) (by kernel_rfl) (fun _ _ _ h => h) (by rfl) ?_ ?_
      rotate_left
      · intro W hW; go_simp; first | done | with_reducible rfl
      try simp only [Act.put, List.setIfInBounds_toArray, List.set_cons_zero, List.set_cons_succ]
      refine wpAnyH_done (by kernel_rfl) ?_ _
      have RB := Lib.hid (show u4.heap[w1.heap.size]? = some (.cells r'.cells 29 (0, 0)) from hb4)
      have hno : ∀ k, own c' B k → k ≠ w1.heap.size := fun k hk e => by have := hP.newl k hk; rw [e] at this; exact this.elim (fun h => HNO.out h) (fun h => by have h2 := lt_of_block HXr.out; have h3 : wr.heap.size ≤ w1.heap.size := h; omega)
      have HL4 := Lib.hid (hP.ls.keeps (Keeps.row (X := fun k => k = w1.heap.size) h4' rfl) hno)
      have HR4 := Lib.hid (hP.rs.keeps (Keeps.row (X := fun k => k = w1.heap.size) h4' rfl) (fun k hk e => by have := hP.newr k hk; rw [e] at this; exact this.elim (fun h => HNR.out h) (fun h => by have h2 := lt_of_block HXr.out; have h3 : wr.heap.size ≤ w1.heap.size := h; omega)))
      have HSP4 := Lib.hid hP.sep
      have hszr : w.heap.size + 1 ≤ wr.heap.size := by have := lt_of_block HXr.out; omega
      have HOW4 := Lib.hid (show ∀ k, own c' B k → w.heap.size + 1 ≤ k from fun k hk => (hP.newl k hk).elim (HOW.out k) (fun h => by have h3 : wr.heap.size ≤ k := h; omega))
      have HRW4 := Lib.hid (show ∀ k, rrow r' k → w.heap.size + 1 ≤ k from fun k hk => (hP.newr k hk).elim (HRW.out k) (fun h => by have h3 : wr.heap.size ≤ k := h; omega))
      have HG4 := Lib.hid (show (w.alloc (.cells Rf.zero.cells 29)).grownBy u4 none from ((Keeps.keep (X := fun k => w.heap.size + 1 ≤ k) HG.out).trans (((hP.keep.undrew).mono (fun i _ h => HOW.out i h)).trans (Keeps.row h4' hXge))).toGrown (fun i hi h => by rw [World.size_alloc] at hi; omega))
      clear hb4 h4' h4 h1 hP hno
      go_wp2
      go_roundw
      case rel => exact ⟨rfl, k + 1, by omega, by simp, c', r', HL4.out, HR4.out, HSP4.out, RB.out, HOW4.out, HRW4.out, HG4.out⟩
      case measure => simp [intOf]; omega
    · obtain rfl : k = n := by omega
      have HSr := Lib.hid ((HG.out.block _ (by rw [World.size_alloc]; omega) (by simp)).trans HS1.out)
      have HNS := Lib.hid (show some w1.heap.size ≠ some w.heap.size from fun e => by injection e; omega)
      go_wp2
      refine reg_open (some w.heap.size) (n := 11) rfl (by kernel_rfl) ?_
      refine reg_take 0 (some 30) (v := ?_) rfl rfl (by kernel_rfl) (by kernel_rfl) (by kernel_rfl) (fun _ _ _ h => h) (by rfl) ?_ ?_
      rotate_left
      · intro W hW; go_simp; first | done | with_reducible rfl
      try simp only [Act.put, List.setIfInBounds_toArray, List.set_cons_zero, List.set_cons_succ]
      refine reg_take 1 (some 31) (v := ?_) rfl rfl (by kernel_rfl) (by kernel_rfl) (by kernel_rfl) (fun _ _ _ h => h) (by rfl) ?_ ?_
      rotate_left
      · intro W hW; refine exec_ld29 (x := .tmp 6) ?_ ?_ ((hW.block w1.heap.size (lt_of_block HXr.out) HNS.out).trans HXr.out) <;> rfl
      try simp only [Act.put, List.setIfInBounds_toArray, List.set_cons_zero, List.set_cons_succ]
      refine reg_take 2 (some 32) (v := ?_) rfl rfl (by kernel_rfl) (by kernel_rfl) (by kernel_rfl) (fun _ _ _ h => h) (by rfl) ?_ ?_
      rotate_left
      · intro W hW; go_simp; first | done | with_reducible rfl
      try simp only [Act.put, List.setIfInBounds_toArray, List.set_cons_zero, List.set_cons_succ]
      refine reg_take 3 (some 33) (v := ?_) rfl rfl (by kernel_rfl) (by kernel_rfl) (by kernel_rfl) (fun _ _ _ h => h) (by rfl) ?_ ?_
      rotate_left
      · intro W hW; go_simp; first | done | with_reducible rfl
      try simp only [Act.put, List.setIfInBounds_toArray, List.set_cons_zero, List.set_cons_succ]
      refine reg_take 4 (some 34) (v := ?_) rfl rfl (by kernel_rfl) (by kernel_rfl) (by kernel_rfl) (fun _ _ _ h => h) (by rfl) ?_ ?_
      rotate_left
      · intro W hW; go_simp; first | done | with_reducible rfl
      try simp only [Act.put, List.setIfInBounds_toArray, List.set_cons_zero, List.set_cons_succ]
      refine reg_take 5 (some 35) (v := ?_) rfl rfl (by kernel_rfl) (by kernel_rfl) (by kernel_rfl) (fun _ _ _ h => h) (by rfl) ?_ ?_
      rotate_left
      · intro W hW; refine exec_ld29 (x := .tmp 6) ?_ ?_ ((hW.block w1.heap.size (lt_of_block HXr.out) HNS.out).trans HXr.out) <;> rfl
      try simp only [Act.put, List.setIfInBounds_toArray, List.set_cons_zero, List.set_cons_succ]
      refine wpAnyH_ready (rs := [6]) (by kernel_rfl) (by simp) ?_
      refine (AllReadyH.cons (o := { dst := some 36, op := Op.call { callee := Callee.value (Operand.func 31), args := #[Operand.tmp 34, Operand.tmp 35], argTypes := #[23, 29] }, type := 4, pos := "law.go:88", after := #[{ on := 4, ground := Ground.data }, { on := 5, ground := Ground.data }, { on := 3, ground := Ground.chain }, { on := 3, ground := Ground.guard }], guard := some (3, true) }) rfl (fun K hK => ?_) AllReadyH.nil)
      go_simp
      refine (is_ok B c r (Gh.run l bs k) _ HLr.out.drew HRr.out.drew (wg_run l bs (fun j hj => hwd j (by omega)) k (Nat.le_refl _)) (by omega) (by omega)).mono ?_; rintro e u1 ⟨rfl, h1'⟩; have h1 := grown_none h1' (some w.heap.size)
      refine reg_next hK h1 ?_
      clear hK K
      try simp only [Act.put, List.setIfInBounds_toArray, List.set_cons_zero, List.set_cons_succ]
      refine reg_take 7 (some 37) (v := ?_) rfl rfl (by kernel_rfl) (by kernel_rfl) (by kernel_rfl) (fun _ _ _ h => h) (by rfl) ?_ ?_
      rotate_left
      · intro W hW; go_simp; first | done | with_reducible rfl
      try simp only [Act.put, List.setIfInBounds_toArray, List.set_cons_zero, List.set_cons_succ]
      refine reg_take 8 (some 2) (v := ?_) rfl rfl (by kernel_rfl) (by kernel_rfl) (by kernel_rfl) (fun _ _ _ h => h) (by rfl) ?_ ?_
      rotate_left
      · intro W hW; go_simp; first | done | with_reducible rfl
      try simp only [Act.put, List.setIfInBounds_toArray, List.set_cons_zero, List.set_cons_succ]
      refine wpAnyH_ready (rs := [9]) (by kernel_rfl) (by simp) ?_
      refine (AllReadyH.cons (o := { dst := none, op := Op.store 29 (Operand.tmp 3) (Operand.tmp 31), type := 0, pos := "law.go:88", after := #[{ on := 1, ground := Ground.data }, { on := 8, ground := Ground.chain }, { on := 0, ground := Ground.phase }, { on := 1, ground := Ground.phase }, { on := 2, ground := Ground.textOnly Departure.lateStores }, { on := 3, ground := Ground.textOnly Departure.lateStores }, { on := 4, ground := Ground.textOnly Departure.lateStores }, { on := 5, ground := Ground.textOnly Departure.lateStores }, { on := 6, ground := Ground.textOnly Departure.lateStoresUnsure }, { on := 7, ground := Ground.textOnly Departure.lateStores }, { on := 8, ground := Ground.phase }], guard := none }) rfl (fun K hK => ?_) AllReadyH.nil)
      have hz : u1.heap[w.heap.size]? = some (.cells Rf.zero.cells 29 (0, 0)) := (h1'.block _ (lt_of_block (show wr.drew.heap[w.heap.size]? = _ from HSr.out)) (by simp)).trans HSr.out
      refine wp_store_all 29 _ _ rfl w.heap.size ?csu10 ?hxu10 ?hyu10 _ _ hz ?hfu10 9 ?hnu10 Try.size29 ?h1u10 ?_
      case hyu10 => exact rfl
      case hxu10 => exact rfl
      case hfu10 => exact rfl
      case hnu10 => exact rfl
      case h1u10 => simp [allOne, Value.oneCell']
      intro u4 hb4 h4'
      refine reg_next hK h4' ?_
      clear hK K
      try simp only [Act.put]
      refine reg_take 10 (some 4) (v := ?_) rfl rfl (by kernel_rfl) (by kernel_rfl) (by kernel_rfl) (fun _ _ _ h => h) (by rfl) ?_ ?_
      rotate_left
      · intro W hW; go_simp; first | done | with_reducible rfl
      try simp only [Act.put, List.setIfInBounds_toArray, List.set_cons_zero, List.set_cons_succ]
      refine wpAnyH_done (by kernel_rfl) ?_ _
      have RB := Lib.hid (show u4.heap[w.heap.size]? = some (.cells r.cells 29 (0, 0)) from hb4)
      have hkk := (Keeps.keep (X := fun k => k = w.heap.size) (drewl h1')).trans (Keeps.row h4' rfl)
      have HL4 := Lib.hid (HLr.out.keeps hkk (fun k hk e => by have := HOW.out k hk; omega))
      have HR4 := Lib.hid (HRr.out.keeps hkk (fun k hk e => by have := HRW.out k hk; omega))
      have HG4 := Lib.hid (grown_new ((World.grownBy_alloc w (.cells Rf.zero.cells 29) none).trans (HG.out.trans (drewl h1'))) h4' (Nat.le_refl _))
      clear hb4 h4' h1' h1 hkk
      go_wp2
      refine bodyPost_ret (results_tc29t rfl _ _ _ _ (by rfl) (by rfl) RB.out) (by rfl) ?_
      exact ⟨B, c, r, rfl, HL4.out, HR4.out, HSEP.out, fun k hk => by have := HOW.out k hk; omega, fun k hk => by have := HRW.out k hk; omega, HG4.out⟩
end Go.Proofs.Ytmdgehpmeikgfaa
