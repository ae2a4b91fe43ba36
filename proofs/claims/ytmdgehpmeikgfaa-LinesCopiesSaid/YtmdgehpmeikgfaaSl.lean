import Derived.Test.YtmdgehpmeikgfaaA
import Derived.Deep.Upon
namespace Go.Proofs.Ytmdgehpmeikgfaa
open Go.RowKit
theorem info5 : ∃ i, Try.prog.info? 5 = some i ∧ i.zero = some (.int .u8 0) ∧ i.size = 1 ∧ i.bytes = 1 := by
  have h : (Try.prog.info? 5).map (fun i => (i.zero, i.size, i.bytes)) = some (some (.int .u8 0), 1, 1) := by kernel_rfl
  cases hi : Try.prog.info? 5 with
  | none => rw [hi] at h; cases h
  | some i =>
    rw [hi] at h
    simp only [Option.map_some, Option.some.injEq, Prod.mk.injEq] at h
    exact ⟨i, rfl, h.1, h.2.1, h.2.2⟩
/-- A slice of bytes, wherever it begins in its row. -/
def Sl (w : World) (v : Value) (l : List UInt8) : Prop :=
  (v = .slice none 0 0 ∧ l = []) ∨ ∃ (g o cap : Nat) (cur : List Value), v = .slice (some ⟨g, o, none⟩) l.length cap ∧ l.length ≤ cap ∧ cap ≤ maxLen ∧ w.heap[g]? = some (.cells cur.toArray 5 (0, 0)) ∧ o + cap ≤ cur.length ∧ (cur.drop o).take l.length = bsV l
/-- The row of a slice. -/
def rowOf : Value → Option Nat
  | .slice (some a) _ _ => some a.block
  | _ => none
theorem Sl.kept {w w' : World} {v : Value} {l : List UInt8} {row : Option Nat} (h : Sl w v l) (hg : w.grownBy w' row) (hne : ∀ g, rowOf v = some g → some g ≠ row) : Sl w' v l := by
  rcases h with h | ⟨g, o, cap, cur, rfl, h1, h2, h3, h4, h5⟩
  · exact .inl h
  · exact .inr ⟨g, o, cap, cur, rfl, h1, h2, (hg.block g (lt_of_block h3) (hne g rfl)).trans h3, h4, h5⟩
theorem Sl.keptNone {w w' : World} {v : Value} {l : List UInt8} (h : Sl w v l) (hg : w.grownBy w' none) : Sl w' v l := h.kept hg (fun _ _ => by simp)
/-- A row is no block of another type. -/
theorem Sl.ne {w : World} {v : Value} {l : List UInt8} (h : Sl w v l) {b : Nat} {cs : Array Value} {t : TypeId} (hb : w.heap[b]? = some (.cells cs t (0, 0))) (ht : t ≠ 5) : ∀ g, rowOf v = some g → some g ≠ some b := by
  rcases h with ⟨rfl, _⟩ | ⟨g, o, cap, cur, rfl, h1, h2, h3, h4, h5⟩
  · intro g hg; cases hg
  · intro g' hg e
    cases hg
    cases e
    simp only at hb h3
    rw [h3] at hb
    cases hb
    exact ht rfl
theorem Sl.lt {w : World} {v : Value} {l : List UInt8} (h : Sl w v l) : ∀ g, rowOf v = some g → g < w.heap.size := by
  rcases h with ⟨rfl, _⟩ | ⟨g, o, cap, cur, rfl, h1, h2, h3, h4, h5⟩
  · intro g hg; cases hg
  · intro g' hg; cases hg; exact lt_of_block h3
theorem Sl.cell {w : World} {g o n cap : Nat} {l : List UInt8} (h : Sl w (.slice (some ⟨g, o, none⟩) n cap) l) (j : Nat) (v : Value) (hj : (bsV l)[j]? = some v) : w.cell? ⟨g, o + j, none⟩ = some v := by
  rcases h with ⟨h, _⟩ | ⟨g', o', cap', cur, h0, h1, h2, h3, h4, h5⟩
  · cases h
  · cases h0
    rw [cells_all h3]
    have hl : j < l.length := by
      have := (List.getElem?_eq_some_iff.1 hj).1
      simpa [bsV] using this
    rw [← h5, List.getElem?_take_of_lt hl, List.getElem?_drop] at hj
    simpa using hj
theorem Sl.shape {w : World} {v : Value} {l : List UInt8} (h : Sl w v l) : ∃ a cap, v = .slice a l.length cap ∧ l.length ≤ cap := by
  rcases h with ⟨rfl, rfl⟩ | ⟨g, o, cap, cur, rfl, h1, h2, h3, h4, h5⟩
  · exact ⟨none, 0, rfl, Nat.le_refl _⟩
  · exact ⟨_, cap, rfl, h1⟩
theorem bs_one (l : List UInt8) : ∀ u ∈ bsV l, u.oneCell' = true := by
  intro u hu
  obtain ⟨c, _, rfl⟩ := List.mem_map.1 hu
  rfl
/-- What a slice yields to an append. -/
theorem Sl.src {w : World} {v : Value} {l : List UInt8} (h : Sl w v l) : Go.Src Try.prog 1 27 v l.length (bsV l) w := by
  rcases h with ⟨rfl, rfl⟩ | h
  · exact Go.Src.ofNil w Try.underlying27 0
  · obtain ⟨g, o, cap, cur, rfl, h1, h2, h3, h4, h5⟩ := id h
    exact Go.Src.ofSlice w Try.underlying27 ⟨g, o, none⟩ l.length cap (bsV l) (by simp [bsV]) (fun j u hj => by rw [Addr.add_lit]; exact Sl.cell (.inr h) j u hj) (bs_one l)
theorem setMany_mid (vs cur : List Value) (o : Nat) (h : o + vs.length ≤ cur.length) (p n : Nat) (hp : p + n = o) : ((setMany cur o vs).drop p).take (n + vs.length) = (cur.drop p).take n ++ vs := by
  rw [setMany_eq vs cur o h, List.append_assoc, List.drop_append_of_le_length (by simp; omega)]
  have hA : List.drop p (List.take o cur) = List.take n (List.drop p cur) := by rw [List.drop_take]; congr 1; omega
  have hl : (List.take n (List.drop p cur)).length = n := by simp; omega
  rw [hA, List.take_append, hl, List.take_of_length_le (by omega), Nat.add_sub_cancel_left, List.take_left]
theorem bsV_append (l bs : List UInt8) : bsV (l ++ bs) = bsV l ++ bsV bs := by simp [bsV]
/-- 'append' onto a slice of bytes. -/
theorem Sl.append {w : World} {v x : Value} {l bs : List UInt8} (ty : TypeId) (h : Sl w v l) (hs : Go.Src Try.prog 1 27 x bs.length (bsV bs) w) (hlen : l.length + bs.length ≤ 1000000) :
    ∃ v' w', (Builtin.append_ #[27, 27] ty #[v, x]).run Try.prog w = .ok v' w' ∧ Sl w' v' (l ++ bs) ∧ w.grownBy w' (rowOf v) ∧ (rowOf v' = rowOf v ∨ rowOf v' = some w.heap.size) := by
  obtain ⟨i, hi, hz, hsz, hby⟩ := info5
  have hs' : Go.Src Try.prog i.size 27 x bs.length (bsV bs) w := by rw [hsz]; exact hs
  obtain ⟨a, cap, rfl, hle⟩ := h.shape
  by_cases hb : bs = []
  · subst hb
    have hr := run_append_nothing (P := Try.prog) w 27 27 ty 5 i Try.underlying27 hi a l.length cap hle x hs'
    exact ⟨_, _, hr, by rw [List.append_nil]; exact h, World.grownBy.refl _ _, .inl rfl⟩
  by_cases hroom : l.length + bs.length ≤ cap
  · rcases h with ⟨h0, hl0⟩ | ⟨g, o, cap', cur, h0, h1, h2, h3, h4, h5⟩
    · injection h0 with e0 e1 e2
      have : 0 < bs.length := List.length_pos_iff.2 hb
      omega
    · injection h0 with e0 e1 e2
      subst e0 e2
      have hc : ∀ j, j < (bsV bs).length → (w.cell? ⟨g, o + l.length * i.size + j, none⟩).isSome = true := by
        intro j hj
        rw [cells_all h3, hsz]
        simp [bsV] at hj
        simp
        omega
      have hr := run_append_room_src (P := Try.prog) w 27 27 ty 5 i Try.underlying27 hi g o l.length cap x bs.length (bsV bs) hs' hroom hc (fun j _ => frozen_all h3 _)
      rw [hsz, Nat.mul_one] at hr
      have hw := heap_setCells (bsV bs) (o + l.length) cur w h3
      have hbl : (bsV bs).length = bs.length := by simp [bsV]
      refine ⟨_, _, hr, .inr ⟨g, o, cap, setMany cur (o + l.length) (bsV bs), ?_, ?_, h2, hw, ?_, ?_⟩, grown_setCells (bsV bs) (o + l.length) w, .inl rfl⟩
      · rw [List.length_append]
      · rw [List.length_append]; exact hroom
      · rw [setMany_eq _ _ _ (by rw [hbl]; omega)]
        simp
        omega
      · rw [List.length_append, ← hbl, setMany_mid (bsV bs) cur (o + l.length) (by rw [hbl]; omega) o l.length rfl, h5, bsV_append]
  · have hold : (Builtin.firstCells i.size l.length (.slice a l.length cap)).run Try.prog w.drew = .ok (bsV l).toArray w.drew := by
      have := h.src.cellsD
      rw [hsz]
      exact this
    have hr := run_append_grow_src (P := Try.prog) w 27 27 ty 5 i (.int .u8 0) Try.underlying27 hi hz a l.length cap (bsV l) hold x bs.length (bsV bs) hs' (by omega) (by omega) (growslice_fits (by omega) (by rw [hby]; omega))
    have hge := grownCap_ge w (l.length + bs.length) cap 5
    have hcm := grownCap_le_maxLen w (l.length + bs.length) cap 5 (by simp only [maxLen]; omega)
    generalize grownCap w (l.length + bs.length) cap 5 = cap' at *
    refine ⟨_, _, hr, .inr ⟨w.heap.size, 0, cap', bsV l ++ bsV bs ++ (Builtin.zeroCells (Value.int .u8 0).cells (cap' - (l.length + bs.length))).toList, ?_, ?_, hcm, ?_, ?_, ?_⟩, ⟨rfl, rfl, rfl, by simp, fun k hk _ => heap_alloc_old w.drew _ hk⟩, .inr rfl⟩
    · rw [List.length_append]
    · rw [List.length_append]; exact hge
    · have := heap_alloc_new w.drew (.cells ((bsV l ++ bsV bs).toArray ++ Builtin.zeroCells (Value.int .u8 0).cells (cap' - (l.length + bs.length))) 5)
      refine this.trans ?_
      congr 2
      apply Array.ext'
      simp
    · simp [size_zeroCells, bsV, Value.cells]
      omega
    · rw [List.drop_zero, List.length_append, ← bsV_append]
      exact List.take_left' (by simp [bsV])
end Go.Proofs.Ytmdgehpmeikgfaa
