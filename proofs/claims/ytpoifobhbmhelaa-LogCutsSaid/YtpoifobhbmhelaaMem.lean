/- Bytes in memory, as lists: words for the proofs over frames: what a slice that can be read holds, what a row holds. -/
import Derived.WalkKit
import Derived.WalkSpells
import Derived.WalkLawsBesides
import Derived.OwnWalk
import Derived.Maps.AppendAt
import Derived.Laws.CopyOwn
import Derived.Lib.MinMax
set_option linter.unusedVariables false
set_option linter.unusedSimpArgs false
namespace Go.Proofs.Ytpoifobhbmhelaa
open Go.RowKit

/-- A byte as a value; bytes as values. -/
def bV (c : UInt8) : Value := .int .u8 (c.toNat : Int)
def bsV (l : List UInt8) : List Value := l.map bV
theorem bsV_length (l : List UInt8) : (bsV l).length = l.length := by simp [bsV]
theorem bV_get (l : List UInt8) (j : Nat) (h : j < l.length) : (bsV l)[j]? = some (bV l[j]) := by simp [bsV, h]

/-- The slice at 'a' can be read: its elements are the bytes l. -/
def Src (w : World) (a : Option Addr) (l : List UInt8) : Prop :=
  l = [] ∨ ∃ b o, a = some ⟨b, o, none⟩ ∧ ∀ j (h : j < l.length), w.cell? ⟨b, o + j, none⟩ = some (.int .u8 (l[j].toNat : Int))

/-- Block g is a row of bytes that begins with l; 'cap' is its size. -/
def Row (w : World) (g : Nat) (l : List UInt8) (cap : Nat) : Prop :=
  l.length ≤ cap ∧ cap ≤ maxLen ∧ ∃ cur : Array Value, w.heap[g]? = some (.cells cur 5 (0, 0)) ∧ cur.size = cap ∧ cur.toList.take l.length = bsV l

theorem Row.cell {w : World} {g cap : Nat} {l : List UInt8} (h : Row w g l cap) (j : Nat) (hj : j < l.length) : w.cell? ⟨g, j, none⟩ = some (.int .u8 (l[j].toNat : Int)) := by
  obtain ⟨h1, h2, cur, h3, h4, h5⟩ := h
  have : (cur.toList.take l.length)[j]? = some (.int .u8 (l[j].toNat : Int)) := by rw [h5]; exact bV_get l j hj
  rw [List.getElem?_take_of_lt hj] at this
  simpa [World.cell?, h3] using this
theorem Row.frozen {w : World} {g cap : Nat} {l : List UInt8} (h : Row w g l cap) (j : Nat) : w.frozen? ⟨g, j, none⟩ = false := by
  obtain ⟨h1, h2, cur, h3, h4, h5⟩ := h
  simp [World.frozen?, h3]
theorem Row.lt {w : World} {g cap : Nat} {l : List UInt8} (h : Row w g l cap) : g < w.heap.size := by
  obtain ⟨h1, h2, cur, h3, h4, h5⟩ := h
  exact lt_of_block h3
theorem Row.src {w : World} {g cap : Nat} {l : List UInt8} (h : Row w g l cap) : Src w (some ⟨g, 0, none⟩) l :=
  .inr ⟨g, 0, rfl, fun j hj => by rw [Nat.zero_add]; exact h.cell j hj⟩
theorem Row.kept {w w' : World} {g cap : Nat} {l : List UInt8} {row : Option Nat} (h : Row w g l cap) (hg : w.grownBy w' row) (hne : some g ≠ row) : Row w' g l cap := by
  have := h.lt
  obtain ⟨h1, h2, cur, h3, h4, h5⟩ := h
  exact ⟨h1, h2, cur, (hg.block g this hne).trans h3, h4, h5⟩
theorem Row.owns {w : World} {g cap base : Nat} {l : List UInt8} (h : Row w g l cap) (hb : base ≤ g) : w.ownsRow base 5 1 (.slice (some ⟨g, 0, none⟩) l.length cap) l.length (bsV l) := by
  obtain ⟨h1, h2, cur, h3, h4, h5⟩ := h
  exact ⟨by simp [bsV], .inr ⟨g, cap, cur, rfl, hb, h3, h1, h2, by omega, by simpa using h5⟩⟩
theorem Row.of_owns {w : World} {base n : Nat} {v : Value} {l : List UInt8} (h : w.ownsRow base 5 1 v n (bsV l)) (hne : l ≠ []) : ∃ g cap, v = .slice (some ⟨g, 0, none⟩) l.length cap ∧ n = l.length ∧ base ≤ g ∧ Row w g l cap := by
  obtain ⟨h1, h2⟩ := h
  have hl : n = l.length := by simp [bsV] at h1; omega
  subst hl
  rcases h2 with ⟨rfl, h0⟩ | ⟨g, cap, cur, rfl, hg, hh, hn, hc, hs, ht⟩
  · exact absurd (List.length_eq_zero_iff.1 h0) hne
  · exact ⟨g, cap, rfl, rfl, hg, hn, hc, cur, hh, by omega, by simpa using ht⟩

theorem Src.kept {w w' : World} {a : Option Addr} {l : List UInt8} {row : Option Nat} (h : Src w a l) (hg : w.grownBy w' row) (hne : ∀ b o, a = some ⟨b, o, none⟩ → some b ≠ row) : Src w' a l := by
  rcases h with h | ⟨b, o, ha, hc⟩
  · exact .inl h
  · refine .inr ⟨b, o, ha, fun j hj => hg.cell (hc j hj) (hne b o ha)⟩
theorem Src.keptNone {w w' : World} {a : Option Addr} {l : List UInt8} (h : Src w a l) (hg : w.grownBy w' none) : Src w' a l := h.kept hg (fun _ _ _ => by simp)
theorem Src.below {w w' : World} {a : Option Addr} {l : List UInt8} (h : Src w a l) (hb : Below w.heap.size w w') : Src w' a l := by
  rcases h with h | ⟨b, o, ha, hc⟩
  · exact .inl h
  · exact .inr ⟨b, o, ha, fun j hj => (hb.cell (World.block_lt_of_cell? w _ (hc j hj))).trans (hc j hj)⟩
theorem Src.lt {w : World} {b o : Nat} {l : List UInt8} (h : Src w (some ⟨b, o, none⟩) l) (hne : l ≠ []) : b < w.heap.size := by
  rcases h with h | ⟨b', o', ha, hc⟩
  · exact absurd h hne
  · cases ha
    exact World.block_lt_of_cell? w _ (hc 0 (List.length_pos_iff.2 hne))

/-- A new row. -/
theorem Row.new (w : World) (l : List UInt8) (hl : l.length ≤ maxLen) : Row (w.alloc (.cells (bsV l).toArray 5)) w.heap.size l l.length :=
  ⟨Nat.le_refl _, hl, (bsV l).toArray, heap_alloc_new w _, by simp [bsV], by rw [show (bsV l).toArray.toList = bsV l from rfl, List.take_of_length_le (by simp [bsV])]⟩

/-- 'grownBy', one behind the other. -/
theorem grown_trans {a b c : World} {row : Option Nat} (h : a.grownBy b row) (k : b.grownBy c row) : a.grownBy c row := h.trans k
theorem grown_none {a b : World} (h : a.grownBy b none) (row : Option Nat) : a.grownBy b row := ⟨h.os, h.tape, h.output, h.size, fun k hk _ => h.block k hk (by simp)⟩
/-- Writes to a row that the first step has laid are no writes to what was there. -/
theorem grown_new {a b c : World} {g : Nat} (h : a.grownBy b none) (k : b.grownBy c (some g)) (hg : a.heap.size ≤ g) : a.grownBy c none :=
  ⟨k.os.trans h.os, k.tape.trans h.tape, k.output.trans h.output, Nat.le_trans h.size k.size, fun i hi _ => (k.block i (Nat.lt_of_lt_of_le hi h.size) (fun e => by cases e; omega)).trans (h.block i hi (by simp))⟩
theorem below_grown {a b : World} (h : a.grownBy b none) : Below a.heap.size a b := (Below.refl _ _).grown h (Nat.le_refl _) (fun _ e => by cases e)
theorem grown_below {a b : World} (h : Below a.heap.size a b) : a.grownBy b none := ⟨h.os, h.tape, h.output, h.size, fun k hk _ => h.block k hk⟩

theorem heap_setCell_at {w : World} {g j : Nat} {cur : Array Value} {t : TypeId} {fz : Nat × Nat} (v : Value) (h : w.heap[g]? = some (.cells cur t fz)) :
    (w.setCell ⟨g, j, none⟩ v).heap[g]? = some (.cells (cur.setIfInBounds j v) t fz) := by
  simp [World.setCell, Array.getElem?_modify, h]
theorem grown_setCell (w : World) (g j : Nat) (v : Value) : w.grownBy (w.setCell ⟨g, j, none⟩ v) (some g) :=
  ⟨rfl, rfl, rfl, by simp [World.setCell], fun k _ hk => Below.heap_setCell _ _ _ _ (fun e => hk (by rw [e]))⟩
theorem Row.set {w : World} {g cap : Nat} {l : List UInt8} (h : Row w g l cap) (j : Nat) (c : UInt8) : Row (w.setCell ⟨g, j, none⟩ (.int .u8 (c.toNat : Int))) g (l.set j c) cap := by
  obtain ⟨h1, h2, cur, h3, h4, h5⟩ := h
  refine ⟨by simpa using h1, h2, _, heap_setCell_at _ h3, by simpa using h4, ?_⟩
  rw [List.length_set, Array.toList_setIfInBounds, List.take_set, h5]
  simp [bsV, List.map_set, bV]

end Go.Proofs.Ytpoifobhbmhelaa
