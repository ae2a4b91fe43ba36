import Derived.Test.YtmdgehpmeikgfaaD
namespace Go.Proofs.Ytmdgehpmeikgfaa
open Go.RowKit Go.Shelf
attribute [local go_sem] Oper.semAt_some
def bitOf (m x : Nat) : Bool := decide (m / 2 ^ x % 2 = 1)
theorem and1 (m : Nat) (hm : m < 4294967296) : bits .and .u32 (m : Int) 1 = ((m % 2 : Nat) : Int) := by
  have h := u32_and_nat m 1 hm (by omega)
  rw [Nat.and_one_is_mod] at h
  exact h
theorem has_0 (m : Nat) (hm : m < 4294967296) (w : World) : Calls Try.prog 42 #[.int .u32 m, .int .i64 0] w fun e w' => e = .returned (.bool (bitOf m 0)) ∧ w = w' := by
  go_enter Try.func42, Try.ntmps42
  go_wp2
  go_ret
  have e : bits .and .u32 ((m : Int) / 1) 1 = ((m / 1 % 2 : Nat) : Int) := by
    have h := and1 (m / 1) (by omega)
    rw [← h]
    congr 1
  have e2 : (((m / 1 % 2 : Nat) : Int) == 1) = bitOf m 0 := by
    unfold bitOf
    rw [Bool.eq_iff_iff]
    simp only [beq_iff_eq, decide_eq_true_eq]
    omega
  refine ⟨?_, rfl⟩
  show Ending.returned (.bool (bits .and .u32 (m : Int) 1 == 1)) = _
  rw [show bits .and .u32 (m : Int) 1 = ((m / 1 % 2 : Nat) : Int) from by rw [and1 m hm, Nat.div_one], e2]
theorem has_1 (m : Nat) (hm : m < 4294967296) (w : World) : Calls Try.prog 42 #[.int .u32 m, .int .i64 1] w fun e w' => e = .returned (.bool (bitOf m 1)) ∧ w = w' := by
  go_enter Try.func42, Try.ntmps42
  go_wp2
  go_ret
  have e : bits .and .u32 ((m : Int) / 2) 1 = ((m / 2 % 2 : Nat) : Int) := by
    have h := and1 (m / 2) (by omega)
    rw [← h]
    congr 1
  have e2 : (((m / 2 % 2 : Nat) : Int) == 1) = bitOf m 1 := by
    unfold bitOf
    rw [Bool.eq_iff_iff]
    simp only [beq_iff_eq, decide_eq_true_eq]
    omega
  refine ⟨?_, rfl⟩
  show Ending.returned (.bool (bits .and .u32 ((m : Int) / 2) 1 == 1)) = _
  rw [e, e2]
theorem has_2 (m : Nat) (hm : m < 4294967296) (w : World) : Calls Try.prog 42 #[.int .u32 m, .int .i64 2] w fun e w' => e = .returned (.bool (bitOf m 2)) ∧ w = w' := by
  go_enter Try.func42, Try.ntmps42
  go_wp2
  go_ret
  have e : bits .and .u32 ((m : Int) / 4) 1 = ((m / 4 % 2 : Nat) : Int) := by
    have h := and1 (m / 4) (by omega)
    rw [← h]
    congr 1
  have e2 : (((m / 4 % 2 : Nat) : Int) == 1) = bitOf m 2 := by
    unfold bitOf
    rw [Bool.eq_iff_iff]
    simp only [beq_iff_eq, decide_eq_true_eq]
    omega
  refine ⟨?_, rfl⟩
  show Ending.returned (.bool (bits .and .u32 ((m : Int) / 4) 1 == 1)) = _
  rw [e, e2]
theorem has_3 (m : Nat) (hm : m < 4294967296) (w : World) : Calls Try.prog 42 #[.int .u32 m, .int .i64 3] w fun e w' => e = .returned (.bool (bitOf m 3)) ∧ w = w' := by
  go_enter Try.func42, Try.ntmps42
  go_wp2
  go_ret
  have e : bits .and .u32 ((m : Int) / 8) 1 = ((m / 8 % 2 : Nat) : Int) := by
    have h := and1 (m / 8) (by omega)
    rw [← h]
    congr 1
  have e2 : (((m / 8 % 2 : Nat) : Int) == 1) = bitOf m 3 := by
    unfold bitOf
    rw [Bool.eq_iff_iff]
    simp only [beq_iff_eq, decide_eq_true_eq]
    omega
  refine ⟨?_, rfl⟩
  show Ending.returned (.bool (bits .and .u32 ((m : Int) / 8) 1 == 1)) = _
  rw [e, e2]

def PStop (m S B : Nat) (pre : List L4) (W : World) : Prop := ∃ (ini : List L4) (y : L4), pre = ini ++ [y] ∧ (∀ z ∈ ini, bitOf m z.1 = false) ∧ bitOf m y.1 = true ∧
  (W.heap[S]? = some (.cells #[.pointer (some ⟨B, 0, none⟩)] 23 (0, 0)) ∧ W.heap[S + 1]? = some (.cells #[.int .i64 (y.1 : Int)] 3 (0, 0)) ∧ W.heap[S + 1 + 1]? = some (.cells #[.bool true] 4 (0, 0)))
theorem PStop.own {m S B : Nat} {pre : List L4} {A A' : World} {row : Option Nat} (h : PStop m S B pre A) (hg : A.grownBy A' row) (hr : ∀ r, row = some r → ∃ o : Obj, A.heap[r]? = some o ∧ o.isCells = false) : PStop m S B pre A' := by
  obtain ⟨ini, y, e1, e2, e3, k1, k2, k3⟩ := h
  exact ⟨ini, y, e1, e2, e3, block_kept k1 hg hr, block_kept k2 hg hr, block_kept k3 hg hr⟩
def PPre (m : Nat) (pre : List L4) : Prop := ∀ z ∈ pre, bitOf m z.1 = false
def pend (m : Nat) (l : List Nat) : Option Nat := l.find? (bitOf m)
theorem wseq_prefix (b0 b1 b2 b3 : Bool) (k : Nat) (hk : k ≤ 4) : wseq b0 b1 b2 b3 k <+: wseq b0 b1 b2 b3 4 := by
  unfold wseq
  have : (wl b0 b1 b2 b3).take k <+: (wl b0 b1 b2 b3).take 4 := by
    have h := List.take_prefix k ((wl b0 b1 b2 b3).take 4)
    rwa [List.take_take, Nat.min_eq_left hk] at h
  exact (this.filter _).map _
/-- The cells of 'Pending': whose lines, which line, whether one. -/
structure PC (S : Nat) (B : Nat) (r1 : Int) (r2 : Bool) (W : World) : Prop where
  s : W.heap[S]? = some (.cells #[.pointer (some ⟨B, 0, none⟩)] 23 (0, 0))
  r1 : W.heap[S + 1]? = some (.cells #[.int .i64 r1] 3 (0, 0))
  r2 : W.heap[S + 1 + 1]? = some (.cells #[.bool r2] 4 (0, 0))
theorem PC.own {S B : Nat} {r1 : Int} {r2 : Bool} {A A' : World} {row : Option Nat} (h : PC S B r1 r2 A) (hg : A.grownBy A' row) (hr : ∀ r, row = some r → ∃ o : Obj, A.heap[r]? = some o ∧ o.isCells = false) : PC S B r1 r2 A' :=
  ⟨block_kept h.s hg hr, block_kept h.r1 hg hr, block_kept h.r2 hg hr⟩
theorem PC.write {S B : Nat} {r1 : Int} {r2 : Bool} {W : World} (h : PC S B r1 r2 W) (x : Int) (b : Bool) : PC S B x b ((W.setCell ⟨S + 1, 0, none⟩ (.int .i64 x)).setCell ⟨S + 1 + 1, 0, none⟩ (.bool b)) := by
  refine ⟨?_, ?_, ?_⟩
  · rw [Below.heap_setCell _ _ _ _ (by simp; omega), Below.heap_setCell _ _ _ _ (by simp)]; exact h.s
  · rw [Below.heap_setCell _ _ _ _ (by simp)]; exact one_setCell h.r1
  · exact one_setCell (by rw [Below.heap_setCell _ _ _ _ (by simp)]; exact h.r2)
theorem three_new (w : World) (a b c : Obj) : w.grownBy (((w.alloc a).alloc b).alloc c) none ∧ (((w.alloc a).alloc b).alloc c).heap[w.heap.size]? = some a ∧ (((w.alloc a).alloc b).alloc c).heap[w.heap.size + 1]? = some b ∧ (((w.alloc a).alloc b).alloc c).heap[w.heap.size + 1 + 1]? = some c := by
  have h1 := heap_alloc_new w a
  have h2 := heap_alloc_new (w.alloc a) b
  have h3 := heap_alloc_new ((w.alloc a).alloc b) c
  simp only [World.size_alloc] at h2 h3
  exact ⟨((World.grownBy_alloc w a none).trans (World.grownBy_alloc _ b none)).trans (World.grownBy_alloc _ c none), (heap_alloc_old _ _ (by simp <;> omega)).trans ((heap_alloc_old _ _ (by simp)).trans h1), (heap_alloc_old _ _ (by simp)).trans h2, h3⟩
theorem leave1 {n D r1 r2 : Nat} {tmps : Array Value} {fn : Func} {w Z : World} {u v : Value} (h1 : Z.heap[D]? = some (.deferred (some []))) (g1 : w.heap.size ≤ D) (hu : Z.cell? ⟨r1, 0, none⟩ = some u) (hv : Z.cell? ⟨r2, 0, none⟩ = some v) (hb : Below w.heap.size w Z)
    (hres : ∀ W : World, W.cell? ⟨r1, 0, none⟩ = some u → W.cell? ⟨r2, 0, none⟩ = some v → (results fn tmps).run Try.prog W = .ok (.tuple #[u, v]) W) :
    LeavesInM Fence.wide n Try.prog fn tmps (fun e w' => e = .returned (.tuple #[u, v]) ∧ Below w.heap.size w w') [{ target := .collected D, args := #[] }] .returning Z := by
  have k := grownBy_putObj' Z D (.deferred none)
  have c1 := cell_kept hu k (fun r e => by cases e; exact ⟨_, h1, rfl⟩)
  have c2 := cell_kept hv k (fun r e => by cases e; exact ⟨_, h1, rfl⟩)
  have b1 := hb.trans (belowK_b (w := w) (Nat.le_refl _) Z D _ (.deferred none) g1 h1 rfl rfl)
  refine ⟨by simp, .inl ⟨_, _, rfl, run_takeDeferred h1, ?_⟩⟩
  exact ⟨_, hres _ c1 c2, rfl, b1⟩
set_option maxRecDepth 100000 in
set_option maxHeartbeats 8000000 in
theorem pending_body (B : Nat) (c : Lc) (qa : Option Addr) (qn qc : Nat) (hq : c.qv = .slice qa qn qc) (ha : 0 ≤ c.alarm) (ha2 : c.alarm < 4294967296) (m : Nat) (hmk : c.mask = (m : Int)) (hm : m < 4294967296) (now : Int) (w : World) (hL : Lk w B c) :
    CallsIn Fence.wide 3 Try.prog 17 #[.pointer (some ⟨B, 0, none⟩), .int .i64 now] w fun e w' => e = .returned (.tuple #[.int .i64 ((pend m (wseq (c.w0 now) (decide (0 < qn)) c.u2 c.u3 4)).getD 0 : Nat), .bool (pend m (wseq (c.w0 now) (decide (0 < qn)) c.u2 c.u3 4)).isSome]) ∧ Below w.heap.size w w' := by
  have h1 : 1 ≤ 3 := by omega
  obtain ⟨p, hp⟩ : ∃ p, p = pend m (wseq (c.w0 now) (decide (0 < qn)) c.u2 c.u3 4) := ⟨_, rfl⟩
  rw [← hp]
  obtain ⟨hG0, hs0, hr0, hr1⟩ := three_new w (.cells #[.pointer (some ⟨B, 0, none⟩)] 23) (.cells #[.int .i64 0] 3) (.cells #[.bool false] 4)
  have HP0 := Lib.hid (PC.mk hs0 hr0 hr1)
  have HB0 := Lib.hid ((Below.refl _ w).grown hG0 (Nat.le_refl _) (fun k e => by cases e))
  have HL0 := Lib.hid (hL.keptNone hG0)
  clear hG0 hs0 hr0 hr1 hL
  refine callsIn_of_wp_marks Try.func17 rfl trivial ?_ rfl
  simp only [Try.ntmps17, List.size_toArray, List.length_cons, List.length_nil, Nat.reduceAdd, Nat.reduceSub, Array.replicate_succ, Array.replicate_zero, List.push_toArray, List.append_toArray, List.nil_append, List.cons_append]
  refine wpIn_wide.2 ?_
  go_wp2_with fail
  refine (wanting_lk B now _).mono ?_; rintro e w1 ⟨S, N, G, V0, rfl, hWn, hg1⟩
  have hP1 := HP0.out.own hg1 (fun r e => by cases e)
  have hL1 := HL0.out.keptNone hg1
  have hB1 := HB0.out.grown hg1 HB0.out.size (fun k e => by cases e)
  have hsz : w.heap.size + 1 + 1 < w1.heap.size := lt_of_block hP1.r2
  clear HP0 HL0 HB0 hg1
  go_wp2
  refine (wpIn_wide (n := 3)).1 ?_
  refine wpIn_rangeFunc_ownH rfl h1 (gf := 52) (lb := #[.pointer (some ⟨S, 0, none⟩), .pointer (some ⟨V0, 0, none⟩)]) rfl trivial (enters_of Try.func52 (by kernel_rfl) rfl)
    (walked_wants (3 - 1) (by omega) S N G V0 B now c qa qn qc hq ha ha2 w1 hWn hL1) kw_t (fun W l o o' _ h ho _ => kw_b W l o o' h ho) (Below.refl _ _) (fun _ => rfl)
    (fun (pre : List L4) W => (PPre m pre ∧ PC w.heap.size B 0 false W ∧ Lk W B c) ∧ Below w.heap.size w W)
    (fun cc (pre : List L4) W => (cc = .ret ∧ PStop m w.heap.size B pre W) ∧ Below w.heap.size w W)
    (OwnFrom.and (Own.from (fun s A' B' row hs hg hr => by exact ⟨hs.1, hs.2.1.own hg hr, block_kept hs.2.2.blk hg hr⟩) _) (ownFrom_below (Nat.le_refl _) (by omega)))
    (fun cc => OwnFrom.and (Own.from (fun s A' B' row hs hg hr => by exact ⟨hs.1, hs.2.own hg hr⟩) _) (ownFrom_below (Nat.le_refl _) (by omega)))
    ⟨⟨fun z hz => (by cases hz), hP1, hL1⟩, hB1⟩
    (fun y a' W => a' = { tmps := #[.pointer (some ⟨B, 0, none⟩), .int .i64 now, .pointer (some ⟨w.heap.size, 0, none⟩), undef, .pointer (some ⟨w.heap.size + 1, 0, none⟩), .pointer (some ⟨w.heap.size + 1 + 1, 0, none⟩), .int .i64 (y.1 : Int), .pointer (some ⟨B, 0, none⟩), .int .i64 now, .func (.func 52) #[] #[.pointer (some ⟨S, 0, none⟩), .pointer (some ⟨V0, 0, none⟩)], .int .i64 (y.1 : Int), undef, undef, undef, undef, undef, undef, undef], defers := [] })
    (fun y a' => fun s A' B' row hs hg hr => hs)
    ?assign ?body ?done ?stop
  case assign =>
    rintro l' pre y W K hI hK
    gi_wp2
    exact hK _ _ (KeepsFrom.refl _ _) (fun x => x) hI rfl
  case body =>
    rintro l' pre y a' V hl ⟨r, hr⟩ ⟨⟨hpre, hP, hLv⟩, hBl⟩ rfl hlt
    have c0 := cell_of_one hP.s
    have c1 : V.cell? ⟨B, 1, none⟩ = some (.int .u32 (m : Int)) := (hLv.cell 1).trans (show some (Value.int .u32 c.mask) = _ from by rw [hmk])
    have r1 := cell_of_one hP.r1
    have f1 := free_of_one hP.r1
    have r2 := cell_of_one hP.r2
    have f2 := free_of_one hP.r2
    obtain ⟨x, hx⟩ := y
    have HR := Lib.hid (hP.write x true)
    have HP := Lib.hid (And.intro hP hLv)
    clear hP hLv hr
    obtain rfl | rfl | rfl | rfl : x = 0 ∨ x = 1 ∨ x = 2 ∨ x = 3 := by omega
    · by_cases hb : bitOf m 0 = true
      · have C := has_0 m hm V
        rw [hb] at C
        gi_wp2_with (refine ⟨trivial, ?_⟩; gi_at_call 42; refine (CallsIn.inRound l' (callsIn_wide.2 C)).mono ?_; rintro e w3 ⟨rfl, rfl⟩)
        exact ⟨((KeepsOthers.setCell V _ _).trans (KeepsOthers.setCell _ _ _)).from _, ⟨rfl, ⟨pre, ⟨0, hx⟩, rfl, hpre, hb, HR.out.s, HR.out.r1, HR.out.r2⟩⟩, (hBl.setCell (p := ⟨w.heap.size + 1, 0, none⟩) (by simp) _).setCell (p := ⟨w.heap.size + 1 + 1, 0, none⟩) (by simp; omega) _⟩
      · rw [Bool.not_eq_true] at hb
        have C := has_0 m hm V
        rw [hb] at C
        gi_wp2_with (refine ⟨trivial, ?_⟩; gi_at_call 42; refine (CallsIn.inRound l' (callsIn_wide.2 C)).mono ?_; rintro e w3 ⟨rfl, rfl⟩)
        exact ⟨KeepsFrom.refl _ _, fun x => x, ⟨fun z hz => (List.mem_append.1 hz).elim (hpre z) (fun e => by simp at e; subst e; exact hb), HP.out⟩, hBl⟩
    · by_cases hb : bitOf m 1 = true
      · have C := has_1 m hm V
        rw [hb] at C
        gi_wp2_with (refine ⟨trivial, ?_⟩; gi_at_call 42; refine (CallsIn.inRound l' (callsIn_wide.2 C)).mono ?_; rintro e w3 ⟨rfl, rfl⟩)
        exact ⟨((KeepsOthers.setCell V _ _).trans (KeepsOthers.setCell _ _ _)).from _, ⟨rfl, ⟨pre, ⟨1, hx⟩, rfl, hpre, hb, HR.out.s, HR.out.r1, HR.out.r2⟩⟩, (hBl.setCell (p := ⟨w.heap.size + 1, 0, none⟩) (by simp) _).setCell (p := ⟨w.heap.size + 1 + 1, 0, none⟩) (by simp; omega) _⟩
      · rw [Bool.not_eq_true] at hb
        have C := has_1 m hm V
        rw [hb] at C
        gi_wp2_with (refine ⟨trivial, ?_⟩; gi_at_call 42; refine (CallsIn.inRound l' (callsIn_wide.2 C)).mono ?_; rintro e w3 ⟨rfl, rfl⟩)
        exact ⟨KeepsFrom.refl _ _, fun x => x, ⟨fun z hz => (List.mem_append.1 hz).elim (hpre z) (fun e => by simp at e; subst e; exact hb), HP.out⟩, hBl⟩
    · by_cases hb : bitOf m 2 = true
      · have C := has_2 m hm V
        rw [hb] at C
        gi_wp2_with (refine ⟨trivial, ?_⟩; gi_at_call 42; refine (CallsIn.inRound l' (callsIn_wide.2 C)).mono ?_; rintro e w3 ⟨rfl, rfl⟩)
        exact ⟨((KeepsOthers.setCell V _ _).trans (KeepsOthers.setCell _ _ _)).from _, ⟨rfl, ⟨pre, ⟨2, hx⟩, rfl, hpre, hb, HR.out.s, HR.out.r1, HR.out.r2⟩⟩, (hBl.setCell (p := ⟨w.heap.size + 1, 0, none⟩) (by simp) _).setCell (p := ⟨w.heap.size + 1 + 1, 0, none⟩) (by simp; omega) _⟩
      · rw [Bool.not_eq_true] at hb
        have C := has_2 m hm V
        rw [hb] at C
        gi_wp2_with (refine ⟨trivial, ?_⟩; gi_at_call 42; refine (CallsIn.inRound l' (callsIn_wide.2 C)).mono ?_; rintro e w3 ⟨rfl, rfl⟩)
        exact ⟨KeepsFrom.refl _ _, fun x => x, ⟨fun z hz => (List.mem_append.1 hz).elim (hpre z) (fun e => by simp at e; subst e; exact hb), HP.out⟩, hBl⟩
    · by_cases hb : bitOf m 3 = true
      · have C := has_3 m hm V
        rw [hb] at C
        gi_wp2_with (refine ⟨trivial, ?_⟩; gi_at_call 42; refine (CallsIn.inRound l' (callsIn_wide.2 C)).mono ?_; rintro e w3 ⟨rfl, rfl⟩)
        exact ⟨((KeepsOthers.setCell V _ _).trans (KeepsOthers.setCell _ _ _)).from _, ⟨rfl, ⟨pre, ⟨3, hx⟩, rfl, hpre, hb, HR.out.s, HR.out.r1, HR.out.r2⟩⟩, (hBl.setCell (p := ⟨w.heap.size + 1, 0, none⟩) (by simp) _).setCell (p := ⟨w.heap.size + 1 + 1, 0, none⟩) (by simp; omega) _⟩
      · rw [Bool.not_eq_true] at hb
        have C := has_3 m hm V
        rw [hb] at C
        gi_wp2_with (refine ⟨trivial, ?_⟩; gi_at_call 42; refine (CallsIn.inRound l' (callsIn_wide.2 C)).mono ?_; rintro e w3 ⟨rfl, rfl⟩)
        exact ⟨KeepsFrom.refl _ _, fun x => x, ⟨fun z hz => (List.mem_append.1 hz).elim (hpre z) (fun e => by simp at e; subst e; exact hb), HP.out⟩, hBl⟩
  case done =>
    rintro D ys W hD hS ⟨⟨hpre, hP, hLv⟩, hBl⟩ hK
    have e : pend m (wseq (c.w0 now) (decide (0 < qn)) c.u2 c.u3 4) = none := by
      unfold pend
      rw [← hS, List.find?_eq_none]
      intro x hx
      obtain ⟨z, hz, rfl⟩ := List.mem_map.1 hx
      rw [hpre z hz]
      simp
    rw [e] at hp
    subst hp
    have r1 := cell_of_one hP.r1
    have f1 := free_of_one hP.r1
    have r2 := cell_of_one hP.r2
    have f2 := free_of_one hP.r2
    have HR := Lib.hid (hP.write 0 false)
    have hBf := (hBl.setCell (p := ⟨w.heap.size + 1, 0, none⟩) (by simp) (.int .i64 0)).setCell (p := ⟨w.heap.size + 1 + 1, 0, none⟩) (by simp; omega) (.bool false)
    have hKf : ((W.setCell ⟨w.heap.size + 1, 0, none⟩ (.int .i64 0)).setCell ⟨w.heap.size + 1 + 1, 0, none⟩ (.bool false)).heap[D]? = some (.deferred (some [])) := by
      rw [Below.heap_setCell _ _ _ _ (by simp; omega), Below.heap_setCell _ _ _ _ (by simp; omega)]; exact hK
    have HK := Lib.hid hKf
    have HB := Lib.hid hBf
    clear hKf hBf hP hLv hBl hK
    go_wp2
    exact leave1 HK.out (by omega) (cell_of_one HR.out.r1) (cell_of_one HR.out.r2) HB.out (fun W h1 h2 => by simp [results, Try.f17, go_sem, h1, h2])
  case stop =>
    rintro D cc pre W hD ⟨k, hk, hS⟩ ⟨⟨rfl, ini, y, e1, h2, h3, q1, q2, q3⟩, hBl⟩ hK
    have e : pend m (wseq (c.w0 now) (decide (0 < qn)) c.u2 c.u3 4) = some y.1 := by
      obtain ⟨r, hr⟩ := wseq_prefix (c.w0 now) (decide (0 < qn)) c.u2 c.u3 k hk
      unfold pend
      rw [← hr, ← hS, e1, List.map_append, List.append_assoc, List.find?_append, List.find?_eq_none.2 (fun x hx => by obtain ⟨z, hz, rfl⟩ := List.mem_map.1 hx; rw [h2 z hz]; simp)]
      simp [h3]
    rw [e] at hp
    subst hp
    refine wpIn_ret ?_
    exact leave1 hK (by omega) (cell_of_one q2) (cell_of_one q3) hBl (fun W h1 h2 => by simp [results, Try.f17, go_sem, h1, h2])
end Go.Proofs.Ytmdgehpmeikgfaa
