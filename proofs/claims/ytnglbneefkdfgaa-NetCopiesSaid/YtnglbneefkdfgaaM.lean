import Derived.Test.YtnglbneefkdfgaaL
import Derived.Test.YtnglbneefkdfgaaBlkIn
import Derived.Test.YtnglbneefkdfgaaBw
set_option linter.unusedVariables false
namespace Go.Proofs.Ytnglbneefkdfgaa
open Go.RowKit Go.Shelf
attribute [local go_sem] Oper.semAt_some
/-- The packets of a list: their bytes' slices, the numbers of their first bytes. -/
structure Pks where
  a : Nat → Option Addr
  n : Nat → Nat
  c : Nat → Nat
  f : Nat → Int
abbrev Pks.val (K : Pks) (j : Nat) : Value := .agg #[.slice (K.a j) (K.n j) (K.c j), .int .i64 (K.f j)]
/-- What a pointer to a net (or none) has waiting; all that is old lies below n₀. -/
def Qu (n₀ : Nat) (w : World) (p : Option Addr) (N : Nat) (K : Pks) : Prop :=
  (p = none ∧ N = 0) ∨ ∃ B c a cap, p = some ⟨B, 0, none⟩ ∧ B < n₀ ∧ Nk w B c ∧ c.wv = .slice a N cap ∧ (N = 0 ∨ ∃ g o, a = some ⟨g, o, none⟩ ∧ g < n₀ ∧ ∀ j, j < N → w.cell? ⟨g, o + j * 2, none⟩ = some (.slice (K.a j) (K.n j) (K.c j)) ∧ w.cell? ⟨g, o + j * 2 + 1, none⟩ = some (.int .i64 (K.f j)))
theorem Qu.below {n₀ : Nat} {w w' : World} {p : Option Addr} {N : Nat} {K : Pks} (h : Qu n₀ w p N K) (hb : Below n₀ w w') : Qu n₀ w' p N K := by
  rcases h with h | ⟨B, c, a, cap, rfl, hB, hnk, hwv, hcs⟩
  · exact .inl h
  · refine .inr ⟨B, c, a, cap, rfl, hB, (hb.block B hB).trans hnk, hwv, ?_⟩
    rcases hcs with h | ⟨g, o, rfl, hg, hc⟩
    · exact .inl h
    · exact .inr ⟨g, o, rfl, hg, fun j hj => ⟨(hb.cell (p := ⟨g, _, none⟩) hg).trans (hc j hj).1, (hb.cell (p := ⟨g, _, none⟩) hg).trans (hc j hj).2⟩⟩
theorem finRange_take_succ {N k : Nat} (h : k < N) : (List.finRange N).take (k + 1) = (List.finRange N).take k ++ [⟨k, h⟩] := by
  rw [List.take_succ_eq_append_getElem (by simpa using h)]
  simp
theorem below_cell {n₀ : Nat} {w w' : World} (h : Below n₀ w w') {b o : Nat} (hb : b < n₀) : w'.cell? ⟨b, o, none⟩ = w.cell? ⟨b, o, none⟩ := h.cell (p := ⟨b, o, none⟩) hb
set_option maxRecDepth 100000 in
set_option maxHeartbeats 4000000 in
theorem all1_in (m : Nat) (hm : 1 ≤ m) (l C n₀ : Nat) (p : Option Addr) (N : Nat) (hN : N ≤ 9223372036854775807) (K : Pks) (B0 : Nat) (J Jx : List (Fin N) → World → Prop) (hJ : AbidesFrom B0 J) (W : World) (hn0 : n₀ ≤ W.heap.size) (hq : Qu n₀ W p N K) (hC : W.heap[C]? = some (.cells #[.pointer p] 24 (0, 0)))
    (hY : ∀ pre x W1, J pre W1 → pre.length < N → YieldAt Fence.wide (m - 1) Try.prog l #[K.val (x : Fin N).val] W1 fun e W' =>
      (e = .returned (.bool true) ∧ J (pre ++ [x]) W' ∧ Below n₀ W1 W') ∨ (e = .returned (.bool false) ∧ Jx (pre ++ [x]) W'))
    (h0 : J [] W) :
    CallsIn Fence.wide m Try.prog 43 #[.func (.yield l) #[] #[], .pointer (some ⟨C, 0, none⟩)] W fun e W' => (∃ v, e = .returned v) ∧
      ((∃ ys, ys = List.finRange N ∧ J ys W') ∨ (∃ pre, (∃ k, k ≤ N ∧ pre = (List.finRange N).take k) ∧ Jx pre W')) := by
  have cC : W.cell? ⟨C, 0, none⟩ = some (.pointer p) := cells_all hC 0
  rcases hq with ⟨rfl, rfl⟩ | ⟨B, c, a, cap, rfl, hB, hnk, hwv, hcs⟩
  · clear hC
    refine callsIn_of_wp Try.func43 rfl trivial ?_ rfl
    simp only [Try.ntmps43, List.size_toArray, List.length_cons, List.length_nil, Nat.reduceAdd, Nat.reduceSub, Array.replicate_succ, Array.replicate_zero, List.push_toArray, List.append_toArray, List.nil_append, List.cons_append]
    gi_wp2_with (refine ⟨trivial, ?_⟩; gi_at_call 31; refine (callsIn_wide.2 (none_nil _)).mono ?_; rintro e w' ⟨rfl, rfl⟩)
    gi_wp2
    refine bodyPost_ret (results_none rfl _ _ _) rfl ?_
    exact ⟨⟨_, rfl⟩, .inl ⟨_, rfl, h0⟩⟩
  · have c0 : W.cell? ⟨B, 0, none⟩ = some (.slice a N cap) := (hnk.cell 0).trans (congrArg some hwv)
    have HNK := Lib.hid hnk
    have HC := Lib.hid hcs
    have HY := Lib.hid hY
    clear hC hnk hwv hcs hY
    refine callsIn_of_wp Try.func43 rfl trivial ?_ rfl
    simp only [Try.ntmps43, List.size_toArray, List.length_cons, List.length_nil, Nat.reduceAdd, Nat.reduceSub, Array.replicate_succ, Array.replicate_zero, List.push_toArray, List.append_toArray, List.nil_append, List.cons_append]
    gi_wp2_with (refine ⟨trivial, ?_⟩; gi_at_call 31; refine (callsIn_wide.2 (none_nk B c _ HNK.out)).mono ?_; rintro e w' ⟨rfl, rfl⟩)
    gi_wp2
    gi_loopw [12] (fun i wr => ∃ k : Nat, k ≤ N ∧ i = .int .i64 k ∧ J ((List.finRange N).take k) wr ∧ Below n₀ W wr) (fun i _ => N - (intOf i).toNat)
    case atStart => exact ⟨0, Nat.zero_le _, rfl, h0, Below.refl _ _⟩
    case round =>
      obtain ⟨k, hk, rfl, hJs, hbl⟩ := hrel
      by_cases hlt : k < N
      · obtain ⟨g, o, rfl, hg, hcs⟩ := HC.out.resolve_left (by omega)
        obtain ⟨k0, k1⟩ := hcs k hlt
        have d0 := (below_cell hbl (o := o + k * 2) hg).trans k0
        have d1 := (below_cell hbl (o := o + k * 2 + 1) hg).trans k1
        have hlt' : (k : Int) < (N : Nat) := by omega
        have hwk : IntKind.i64.wrap ((k : Int) + 1) = ((k + 1 : Nat) : Int) := by rw [IntKind.wrap_i64]; omega
        have hJ2 := hJ _ wr (wr.alloc (.cells #[.slice (K.a k) (K.n k) (K.c k), .int .i64 (K.f k)] 65)) none hJs (World.grownBy_alloc _ _ _) (fun r e => by cases e)
        have hb2 := hbl.alloc (o := .cells #[.slice (K.a k) (K.n k) (K.c k), .int .i64 (K.f k)] 65) (by have := hbl.size; omega)
        have hlen : ((List.finRange N).take k).length < N := by simp; omega
        obtain ⟨fn, tmps, assign, body, hy, hR⟩ := HY.out _ ⟨k, hlt⟩ _ hJ2 hlen
        rw [← finRange_take_succ hlt] at hR
        have HB2 := Lib.hid hb2
        clear hcs k0 k1 hJs hJ2 hb2 hlen HY
        gi_wp2
        refine hR.mono ?_
        rintro e W3 (⟨rfl, hJ3, hk3⟩ | ⟨rfl, hJx3⟩)
        · gi_wp2
          go_roundw
          case rel => exact ⟨k + 1, by omega, rfl, hJ3, HB2.out.trans hk3⟩
          case measure => simp [intOf]; omega
        · gi_wp2
          refine bodyPost_ret (results_none rfl _ _ _) rfl ?_
          exact ⟨⟨_, rfl⟩, .inr ⟨_, ⟨k + 1, by omega, rfl⟩, hJx3⟩⟩
      · have hkN : k = N := by omega
        have HJ := Lib.hid (show J (List.finRange N) wr from by rw [hkN, List.take_of_length_le (by simp)] at hJs; exact hJs)
        have hlt' : ¬ (k : Int) < (N : Nat) := by omega
        clear hkN hJs
        gi_wp2
        go_end0
        exact ⟨⟨_, rfl⟩, .inl HJ.out⟩
theorem all1_stops (m : Nat) (hm : 1 ≤ m) (C n₀ : Nat) (p : Option Addr) (N : Nat) (hN : N ≤ 9223372036854775807) (K : Pks) (w : World) (hn0 : n₀ ≤ w.heap.size) (hq : Qu n₀ w p N K) (hC : w.heap[C]? = some (.cells #[.pointer p] 24 (0, 0))) :
    SeqStopsK Fence.wide m Try.prog 43 #[.pointer (some ⟨C, 0, none⟩)] (fun x : Fin N => #[K.val x.val]) (Below n₀) (fun ys => ys = List.finRange N) (fun pre => ∃ k, k ≤ N ∧ pre = (List.finRange N).take k) N w :=
  fun l J Jx W hW hJ _ hY h0 => all1_in m hm l C n₀ p N hN K W.heap.size J Jx hJ W (Nat.le_trans hn0 hW.size) (hq.below (hW.mono hn0)) ((hW.block _ (lt_of_block hC)).trans hC) hY h0
end Go.Proofs.Ytnglbneefkdfgaa
