import Derived.Test.YtmdgehpmeikgfaaOpenX
import Derived.Test.YtmdgehpmeikgfaaAC
set_option linter.unusedVariables false
namespace Go.Proofs.Ytmdgehpmeikgfaa
open Go.RowKit Go.ChangeShapes Go.WideShapes Go.Deep
/-- A slice of lists of bytes that came in. -/
theorem src_of_lists {H : Type} {enc : TypeId × Value → H} {w : World} {base : Nat} {spare : Nat → Bool} {held : Bool} {fuel : Nat} {a : Option Addr} {len cap : Nat} {x : DataW H × List MemPlace}
    (hf : DataW.trod enc Try.prog w base spare held fuel 58 [.slice a len cap] = some x) : (∃ aa cc ll, SrcLL w a len aa cc ll) ∧ len ≤ 9223372036854775807 := by
  rcases open_slice Try.underlying58 hf with ⟨hcs, _⟩ | ⟨ad, len', cap', m, n, D, Pl, hcs, _, hl, hm, hmm, hx, hi⟩
  · simp at hcs
    obtain ⟨rfl, rfl, rfl⟩ := hcs
    exact ⟨⟨fun _ => none, fun _ => 0, fun _ => [], .inl rfl⟩, by omega⟩
  · simp at hcs
    obtain ⟨rfl, rfl, rfl⟩ := hcs
    refine ⟨?_, by unfold maxLen at hm; omega⟩
    by_cases h0 : len = 0
    · exact ⟨fun _ => none, fun _ => 0, fun _ => [], .inl h0⟩
    have hml : len ≤ m := by rw [hmm]; split <;> omega
    have key : ∀ i, i < len → ∃ t : Option Addr × Nat × List UInt8, w.cell? (ad.add i) = some (.slice t.1 t.2.2.length t.2.1) ∧ Go.Proofs.Ytmdgehpmeikgfaa.Src w t.1 t.2.2 := by
      intro i hil
      obtain ⟨cs', hc, ht⟩ := hi i (by omega)
      rw [Try.cells27, Nat.mul_one] at hc
      obtain ⟨_, hcl, hat⟩ := World.cells?_some hc
      obtain ⟨v, rfl⟩ := List.length_eq_one_iff.1 hcl
      obtain ⟨a', c', bs, rfl, h1, _⟩ := bytes_of ht
      have h00 := hat 0 (by omega)
      rw [Go.Deep.add_add] at h00
      exact ⟨(a', c', bs), by simpa using h00, h1⟩
    obtain ⟨b, o, spot⟩ := ad
    obtain ⟨t0, ht0, _⟩ := key 0 (by omega)
    have hspot : spot = none := by simpa [Addr.add] using World.cell?_spot ht0
    subst hspot
    refine ⟨fun i => if h : i < len then (key i h).choose.1 else none, fun i => if h : i < len then (key i h).choose.2.1 else 0, fun i => if h : i < len then (key i h).choose.2.2 else [], .inr ⟨b, o, rfl, fun j hj => ?_⟩⟩
    have hk := (key j hj).choose_spec
    simp only [dif_pos hj]
    refine ⟨?_, hk.2⟩
    have h1 := hk.1
    generalize (key j hj).choose = t at h1 ⊢
    rwa [Addr.add_lit] at h1
/-- A slice of numbers that came in. -/
theorem src_of_nums {H : Type} {enc : TypeId × Value → H} {w : World} {base : Nat} {spare : Nat → Bool} {held : Bool} {fuel : Nat} {a : Option Addr} {len cap : Nat} {x : DataW H × List MemPlace}
    (hf : DataW.trod enc Try.prog w base spare held fuel 59 [.slice a len cap] = some x) : (∃ tk, SrcI w a len tk) ∧ len ≤ 9223372036854775807 := by
  rcases open_ints Try.underlying59 Try.underlying3 (by kernel_rfl) hf with ⟨hcs, _⟩ | ⟨x, l, c, zs, hcs, _, hl, hm, hz, _, hcell, hwz⟩
  · simp at hcs
    obtain ⟨rfl, rfl, rfl⟩ := hcs
    exact ⟨⟨fun _ => 0, .inl rfl⟩, by omega⟩
  · simp at hcs
    obtain ⟨rfl, rfl, rfl⟩ := hcs
    refine ⟨?_, by unfold maxLen at hm; omega⟩
    have hlz : len ≤ zs.length := by rw [hz]; split <;> omega
    by_cases h0 : len = 0
    · exact ⟨fun _ => 0, .inl h0⟩
    obtain ⟨b, o, spot⟩ := x
    have hc0 := hcell 0 (by omega)
    have hspot : spot = none := by simpa [Addr.add] using World.cell?_spot hc0
    subst hspot
    exact ⟨fun i => zs.getD i 0, .inr ⟨b, o, rfl, fun j hj => by have := hcell j (by omega); rwa [Addr.add_lit] at this⟩⟩
end Go.Proofs.Ytmdgehpmeikgfaa
