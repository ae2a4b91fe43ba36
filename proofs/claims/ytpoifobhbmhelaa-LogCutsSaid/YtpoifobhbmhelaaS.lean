/- The iterator over a log's records and the one that ends it. -/
import Derived.Test.YtpoifobhbmhelaaR
import Derived.Test.YtpoifobhbmhelaaBlkIn
import Derived.Test.YtpoifobhbmhelaaBw
set_option linter.unusedVariables false
set_option linter.unusedSimpArgs false
namespace Go.Proofs.Ytpoifobhbmhelaa
open Go.RowKit Go.Shelf
attribute [local go_sem] Oper.semAt_some
/-- The records that 'ends' tells, and how many. -/
def itemR (ts : List Rv) (e : Int) (j : Nat) : Rv := if h : j < ts.length then ts[j] else ⟨e, 8, 0, [], none, 0⟩
abbrev endsN (ts : List Rv) (wh : Bool) : Nat := ts.length + (if wh then 1 else 0)
theorem itemR_lt {ts : List Rv} {e : Int} {j : Nat} (h : j < ts.length) : itemR ts e j = ts[j] := dif_pos h
theorem itemR_ge {ts : List Rv} {e : Int} {j : Nat} (h : ¬ j < ts.length) : itemR ts e j = ⟨e, 8, 0, [], none, 0⟩ := dif_neg h
/-- All that is old, and the block C. -/
def KC (n₀ C : Nat) (A B : World) : Prop := Below n₀ A B ∧ B.heap[C]? = A.heap[C]?
theorem kc_t {n₀ C : Nat} {A B D : World} (h : KC n₀ C A B) (k : KC n₀ C B D) : KC n₀ C A D := ⟨h.1.trans k.1, k.2.trans h.2⟩
theorem kc_b {n₀ C : Nat} {w : World} (hn : n₀ ≤ w.heap.size) (hC : C < w.heap.size) (W : World) (l : Nat) (o o' : Obj) (hl : w.heap.size ≤ l) (h : W.heap[l]? = some o) (h1 : o.isCells = false) (h2 : o.isWalk = false) : KC n₀ C W (W.putObj l o') :=
  ⟨belowK_b hn W l o o' hl h h1 h2, (grownBy_putObj' W l o').block C (by have := lt_of_block h; omega) (by simp; omega)⟩
theorem kc_grown {n₀ C : Nat} {A B : World} {row : Option Nat} (hg : A.grownBy B row) (hn : n₀ ≤ A.heap.size) (hr : ∀ k, row = some k → n₀ ≤ k) (hC : C < A.heap.size) (hne : row ≠ some C) : KC n₀ C A B :=
  ⟨(Below.refl _ A).grown hg hn hr, hg.block C hC (fun e => hne e.symm)⟩
theorem finRange_take_succ {N k : Nat} (h : k < N) : (List.finRange N).take (k + 1) = (List.finRange N).take k ++ [⟨k, h⟩] := by
  rw [List.take_succ_eq_append_getElem (by simpa using h)]
  simp
theorem RL.below {w w' : World} {a : Option Addr} {ts : List Rv} (h : RL w a ts) (hb : Below w.heap.size w w') : RL w' a ts := by
  have hc : ∀ {b o : Nat} {v : Value}, w.cell? ⟨b, o, none⟩ = some v → w'.cell? ⟨b, o, none⟩ = some v := fun hv => (hb.cell (World.block_lt_of_cell? w _ hv)).trans hv
  rcases h with h | ⟨b, o, ha, h⟩
  · exact .inl h
  · exact .inr ⟨b, o, ha, fun j hj => let k := h j hj; ⟨hc k.c0, hc k.c1, hc k.c2, hc k.c3, k.s.below hb, k.le⟩⟩
theorem ends_any (f s m : Int) (a : Option Addr) (n c : Nat) (wh : Bool) (e : Int) (w : World) : Calls Try.prog 27 #[lgV f s m a n c wh e] w fun e' w' => e' = .returned (.func (.func 44) #[] #[.pointer (some ⟨w.heap.size, 0, none⟩)]) ∧ w'.heap[w.heap.size]? = some (.cells #[.int .i64 f, .int .i64 s, .int .i64 m, .slice a n c, .bool wh, .int .i64 e] 31 (0, 0)) ∧ w'.heap.size = w.heap.size + 1 ∧ w.grownBy w' none := by
  have HN := Lib.hid (heap_alloc_new w (.cells #[.int .i64 f, .int .i64 s, .int .i64 m, .slice a n c, .bool wh, .int .i64 e] 31))
  have HG := Lib.hid (World.grownBy_alloc w (.cells #[.int .i64 f, .int .i64 s, .int .i64 m, .slice a n c, .bool wh, .int .i64 e] 31) none)
  have HZ := Lib.hid (World.size_alloc w (.cells #[.int .i64 f, .int .i64 s, .int .i64 m, .slice a n c, .bool wh, .int .i64 e] 31))
  go_enter Try.func27, Try.ntmps27
  go_wp2
  go_ret
  exact ⟨rfl, HN.out, HZ.out, HG.out⟩
set_option maxRecDepth 100000 in
set_option maxHeartbeats 4000000 in
theorem ends1_in (m : Nat) (hm : 1 ≤ m) (l C n₀ : Nat) (f s mm : Int) (a : Option Addr) (c : Nat) (ts : List Rv) (hl : ts.length ≤ 1000000) (wh : Bool) (e : Int) (J Jx : List (Fin (endsN ts wh)) → World → Prop) (B0 : Nat) (hJ : AbidesFrom B0 J) (W w0 : World) (hn : n₀ = w0.heap.size) (hb0 : Below n₀ w0 W) (hCn : n₀ ≤ C) (hs : RL w0 a ts) (hC : W.heap[C]? = some (.cells #[.int .i64 f, .int .i64 s, .int .i64 mm, .slice a ts.length c, .bool wh, .int .i64 e] 31 (0, 0)))
    (hY : ∀ pre x W1, J pre W1 → pre.length < endsN ts wh → YieldAt Fence.wide (m - 1) Try.prog l #[(itemR ts e (x : Fin (endsN ts wh)).val).val] W1 fun e W' =>
      (e = .returned (.bool true) ∧ J (pre ++ [x]) W' ∧ KC n₀ C W1 W') ∨ (e = .returned (.bool false) ∧ Jx (pre ++ [x]) W'))
    (h0 : J [] W) :
    CallsIn Fence.wide m Try.prog 44 #[.func (.yield l) #[] #[], .pointer (some ⟨C, 0, none⟩)] W fun e W' => (∃ v, e = .returned v) ∧
      ((∃ ys, ys = List.finRange (endsN ts wh) ∧ J ys W') ∨ (∃ pre, (∃ k, k ≤ endsN ts wh ∧ pre = (List.finRange (endsN ts wh)).take k) ∧ Jx pre W')) := by
  subst hn
  have c3 : W.cell? ⟨C, 3, none⟩ = some (.slice a ts.length c) := cells_all hC 3
  have HC := Lib.hid hC
  have HY := Lib.hid hY
  have HCl := Lib.hid (lt_of_block hC)
  have HB0 := Lib.hid hb0
  have HS := Lib.hid hs
  clear hC hY hb0 hs
  refine callsIn_of_wp Try.func44 rfl trivial ?_ rfl
  simp only [Try.ntmps44, List.size_toArray, List.length_cons, List.length_nil, Nat.reduceAdd, Nat.reduceSub, Array.replicate_succ, Array.replicate_zero, List.push_toArray, List.append_toArray, List.nil_append, List.cons_append]
  gi_wp2
  gi_loopw [8] (fun i wr => ∃ k : Nat, k ≤ ts.length ∧ i = .int .i64 k ∧ J ((List.finRange (endsN ts wh)).take k) wr ∧ KC w0.heap.size C W wr) (fun i _ => ts.length - (intOf i).toNat)
  case atStart => exact ⟨0, Nat.zero_le _, rfl, h0, Below.refl _ _, rfl⟩
  case round =>
    obtain ⟨k, hk, rfl, hJs, hkc⟩ := hrel
    have HKC := Lib.hid hkc
    by_cases hlt : k < ts.length
    · have hkN : k < endsN ts wh := by unfold endsN; omega
      have hbw : Below w0.heap.size w0 wr := HB0.out.trans hkc.1
      obtain ⟨g, o, rfl, hat⟩ := (HS.out.below hbw).at k hlt
      have hv := itemR_lt (e := e) hlt
      obtain ⟨t, ht⟩ : ∃ t, t = ts[k] := ⟨_, rfl⟩
      rw [← ht] at hat hv
      obtain ⟨p0, p1, p2, p3, p4, p5⟩ := hat
      have hga := World.grownBy_alloc wr (.cells #[.int .i64 t.a, .int .i64 t.k, .int .i64 t.n, .slice t.x t.b.length t.c] 25) none
      have hJ2 := hJ _ wr _ none hJs hga (fun r e => by cases e)
      have hC2 : C < wr.heap.size := Nat.lt_of_lt_of_le HCl.out (HKC.out.1.size)
      have hk2 : KC w0.heap.size C W (wr.alloc (.cells #[.int .i64 t.a, .int .i64 t.k, .int .i64 t.n, .slice t.x t.b.length t.c] 25)) := kc_t HKC.out (kc_grown hga hbw.size (fun r e => by cases e) hC2 (by simp))
      have HK2 := Lib.hid hk2
      have hlen : ((List.finRange (endsN ts wh)).take k).length < endsN ts wh := by simp; omega
      have hy1 := HY.out _ ⟨k, hkN⟩ _ hJ2 hlen
      rw [show itemR ts e (⟨k, hkN⟩ : Fin (endsN ts wh)).val = t from hv] at hy1
      obtain ⟨fn, tmps, assign, body, hy, hR⟩ := hy1
      rw [← finRange_take_succ hkN] at hR
      have hlt' : (k : Int) < (ts.length : Nat) := by omega
      have hwk : IntKind.i64.wrap ((k : Int) + 1) = ((k + 1 : Nat) : Int) := by rw [IntKind.wrap_i64]; omega
      have HP4 := Lib.hid p4
      clear ht hv p4 p5 hJs hkc hJ2 hlen hbw hga hC2 hk2 hJ HC HY
      gi_wp2
      refine hR.mono ?_
      rintro e3 W3 (⟨rfl, hJ3, hk3⟩ | ⟨rfl, hJx3⟩)
      · gi_wp2
        go_roundw
        case rel => exact ⟨k + 1, by omega, rfl, hJ3, kc_t HK2.out hk3⟩
        case measure => simp [intOf]; omega
      · gi_wp2
        refine bodyPost_ret (results_none rfl _ _ _) rfl ?_
        exact ⟨⟨_, rfl⟩, .inr ⟨_, ⟨k + 1, by omega, rfl⟩, hJx3⟩⟩
    · obtain rfl : k = ts.length := by omega
      have hlt' : ¬ (ts.length : Int) < (ts.length : Nat) := by omega
      have d4 : wr.cell? ⟨C, 4, none⟩ = some (.bool wh) := cells_all (HKC.out.2.trans HC.out) 4
      have d5 : wr.cell? ⟨C, 5, none⟩ = some (.int .i64 e) := cells_all (HKC.out.2.trans HC.out) 5
      cases wh with
      | false =>
        have HJ := Lib.hid (show J (List.finRange (endsN ts false)) wr from by rw [List.take_of_length_le (by simp [endsN])] at hJs; exact hJs)
        clear hJs hkc hJ HC HY
        gi_wp2
        go_end0
        exact ⟨⟨_, rfl⟩, .inl HJ.out⟩
      | true =>
        have hkN : ts.length < endsN ts true := by simp
        have hlen : ((List.finRange (endsN ts true)).take ts.length).length < endsN ts true := by simp
        have hy1 := HY.out _ ⟨ts.length, hkN⟩ _ hJs hlen
        rw [show itemR ts e (⟨ts.length, hkN⟩ : Fin (endsN ts true)).val = ⟨e, 8, 0, [], none, 0⟩ from itemR_ge (by simp)] at hy1
        obtain ⟨fn, tmps, assign, body, hy, hR⟩ := hy1
        rw [← finRange_take_succ hkN] at hR
        have hR : YieldAt Fence.wide (m - 1) Try.prog l #[rV e 8 0 none 0 0] wr _ := ⟨fn, tmps, assign, body, hy, hR⟩
        obtain ⟨fn, tmps, assign, body, hy, hR⟩ := hR
        clear hJs hkc hlen hJ HC HY
        gi_wp2
        refine hR.mono ?_
        rintro e3 W3 (⟨rfl, hJ3, hk3⟩ | ⟨rfl, hJx3⟩)
        · gi_wp2
          go_end0
          exact ⟨⟨_, rfl⟩, .inl (by rw [List.take_of_length_le (by simp [endsN])] at hJ3; first | exact hJ3 | exact ⟨_, rfl, hJ3⟩)⟩
        · gi_wp2
          go_end0
          exact ⟨⟨_, rfl⟩, .inr (by first | exact ⟨_, ⟨ts.length + 1, by simp, rfl⟩, hJx3⟩ | exact ⟨ts.length + 1, by simp, hJx3⟩ | exact ⟨_, hJx3⟩)⟩
theorem ends1_stops (m : Nat) (hm : 1 ≤ m) (C : Nat) (f s mm : Int) (a : Option Addr) (c : Nat) (ts : List Rv) (hl : ts.length ≤ 1000000) (wh : Bool) (e : Int) (w0 w : World) (hb0 : Below w0.heap.size w0 w) (hCn : w0.heap.size ≤ C) (hs : RL w0 a ts) (hC : w.heap[C]? = some (.cells #[.int .i64 f, .int .i64 s, .int .i64 mm, .slice a ts.length c, .bool wh, .int .i64 e] 31 (0, 0))) :
    SeqStopsK Fence.wide m Try.prog 44 #[.pointer (some ⟨C, 0, none⟩)] (fun x : Fin (endsN ts wh) => #[(itemR ts e x.val).val]) (KC w0.heap.size C) (fun ys => ys = List.finRange (endsN ts wh)) (fun pre => ∃ k, k ≤ endsN ts wh ∧ pre = (List.finRange (endsN ts wh)).take k) (endsN ts wh) w :=
  fun l J Jx W hW hJ _ hY h0 => ends1_in m hm l C w0.heap.size f s mm a c ts hl wh e J Jx W.heap.size hJ W w0 rfl (hb0.trans (hW.mono hb0.size)) hCn hs ((hW.block _ (lt_of_block hC)).trans hC) hY h0
end Go.Proofs.Ytpoifobhbmhelaa
