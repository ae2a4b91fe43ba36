import Derived.Test.YtcahpmlajfbidaaQ
import Derived.Deep.Slices
import Derived.Deep.Fields
import Derived.ChangeSame
import Derived.OpenShut
namespace Go.Proofs.Ytcahpmlajfbidaa
open Go.RowKit Go.ChangeShapes Go.WideShapes Go.Deep
theorem Try.cells40 : Try.prog.cellsOf 40 = 5 := by kernel_rfl
theorem Try.cells25 : Try.prog.cellsOf 25 = 1 := by kernel_rfl
theorem Try.cells3 : Try.prog.cellsOf 3 = 1 := by kernel_rfl
theorem Try.cells4' : Try.prog.cellsOf 4 = 1 := by kernel_rfl
theorem five_of {α : Type} : ∀ (l : List α), l.length = 5 → ∃ a b c d e, l = [a, b, c, d, e]
  | [a, b, c, d, e], _ => ⟨a, b, c, d, e, rfl⟩
/-- The cells of one act. -/
theorem act_of {H : Type} {enc : TypeId × Value → H} {w : World} {base : Nat} {spare : Nat → Bool} {held : Bool} {fuel : Nat} {cs : List Value} {x : DataW H × List MemPlace}
    (hl : cs.length = 5) (ht : DataW.trod enc Try.prog w base spare held fuel 40 cs = some x) : ∃ t : Ac, cs = t.cells := by
  obtain ⟨v0, v1, v2, v3, v4, rfl⟩ := five_of cs hl
  obtain ⟨xs, k, _, _, _, hxl, hfi⟩ := DataW.trod_struct Try.underlying40 ht
  have f0 := hfi 0 _ rfl
  have f1 := hfi 1 _ rfl
  have f2 := hfi 2 _ rfl
  have f3 := hfi 3 _ rfl
  have f4 := hfi 4 _ rfl
  have g0 : DataW.trod enc Try.prog w base spare held k 3 [v0] = xs[0]? := by rw [← f0]; simp [Try.cells3]
  have g1 : DataW.trod enc Try.prog w base spare held k 25 [v1] = xs[1]? := by rw [← f1]; simp [Try.cells25]
  have g2 : DataW.trod enc Try.prog w base spare held k 25 [v2] = xs[2]? := by rw [← f2]; simp [Try.cells25]
  have g3 : DataW.trod enc Try.prog w base spare held k 4 [v3] = xs[3]? := by rw [← f3]; simp [Try.cells4']
  have g4 : DataW.trod enc Try.prog w base spare held k 4 [v4] = xs[4]? := by rw [← f4]; simp [Try.cells4']
  have hxl' : xs.length = 5 := hxl
  rw [List.getElem?_eq_getElem (by omega)] at g0 g1 g2 g3 g4
  obtain ⟨n0, e0, _, _⟩ := DataW.trod_int Try.underlying3 g0
  obtain ⟨n1, e1, _, _⟩ := DataW.trod_int Try.underlying25 g1
  obtain ⟨n2, e2, _, _⟩ := DataW.trod_int Try.underlying25 g2
  obtain ⟨n3, e3, _⟩ := DataW.trod_bool Try.underlying4 g3
  obtain ⟨n4, e4, _⟩ := DataW.trod_bool Try.underlying4 g4
  simp at e0 e1 e2 e3 e4
  subst e0 e1 e2 e3 e4
  exact ⟨⟨n0, n1, n2, n3, n4⟩, rfl⟩
/-- A slice of calls that came in. -/
theorem src_of_acts {H : Type} {enc : TypeId × Value → H} {w : World} {base : Nat} {spare : Nat → Bool} {held : Bool} {fuel : Nat} {a : Option Addr} {len cap : Nat} {x : DataW H × List MemPlace}
    (hf : DataW.trod enc Try.prog w base spare held fuel 22 [.slice a len cap] = some x) : (∃ l, SrcX w a len l) ∧ len ≤ 9223372036854775807 := by
  rcases open_slice Try.underlying22 hf with ⟨hcs, _⟩ | ⟨ad, len', cap', m, n, D, Pl, hcs, _, hl, hm, hmm, _, hi⟩
  · simp at hcs
    obtain ⟨rfl, rfl, rfl⟩ := hcs
    exact ⟨⟨fun _ => ⟨0, 0, 0, false, false⟩, .inl rfl⟩, by omega⟩
  · simp at hcs
    obtain ⟨rfl, rfl, rfl⟩ := hcs
    refine ⟨?_, by unfold maxLen at hm; omega⟩
    by_cases h0 : len = 0
    · exact ⟨fun _ => ⟨0, 0, 0, false, false⟩, .inl h0⟩
    have hml : len ≤ m := by rw [hmm]; split <;> omega
    have key : ∀ i, i < len → ∃ t : Ac, ∀ j, j < 5 → w.cell? ((ad.add (i * 5)).add j) = t.cells[j]? := by
      intro i hil
      obtain ⟨cs', hc, ht⟩ := hi i (by omega)
      rw [Try.cells40] at hc
      obtain ⟨_, hcl, hat⟩ := World.cells?_some hc
      obtain ⟨t, rfl⟩ := act_of hcl ht
      exact ⟨t, hat⟩
    obtain ⟨b, o, spot⟩ := ad
    obtain ⟨t0, ht0⟩ := key 0 (by omega)
    have hspot : spot = none := by
      have h00 := ht0 0 (by omega)
      simpa [Addr.add] using World.cell?_spot (h00.trans (show t0.cells[0]? = some (.int .i64 t0.what) from rfl))
    subst hspot
    refine ⟨fun i => if h : i < len then (key i h).choose else ⟨0, 0, 0, false, false⟩, .inr ⟨b, o, rfl, fun j hj => ?_⟩⟩
    have hk := (key j hj).choose_spec
    simp only [dif_pos hj]
    intro i v hv
    have hi5 : i < 5 := by
      have := (List.getElem?_eq_some_iff.1 hv).1
      exact this
    have := hk i hi5
    rw [Go.Deep.add_add, Addr.add_lit] at this
    rw [Nat.add_assoc, this]
    exact hv
end Go.Proofs.Ytcahpmlajfbidaa
