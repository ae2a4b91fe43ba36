import Derived.Test.YtcahpmlajfbidaaU
import Derived.Deep.Slices
import Derived.ChangeSame
import Derived.OpenShut
namespace Go.Proofs.Ytcahpmlajfbidaa
open Go.RowKit Go.ChangeShapes Go.WideShapes Go.Deep
/-- A slice of pages that came in. -/
theorem src_of_pages {H : Type} {enc : TypeId × Value → H} {w : World} {base : Nat} {spare : Nat → Bool} {held : Bool} {fuel : Nat} {a : Option Addr} {len cap : Nat} {x : DataW H × List MemPlace}
    (hf : DataW.trod enc Try.prog w base spare held fuel 35 [.slice a len cap] = some x) : (∃ l, SrcP w a len l) ∧ len ≤ 9223372036854775807 := by
  rcases open_ints Try.underlying35 Try.underlying25 (by kernel_rfl) hf with ⟨hcs, _⟩ | ⟨x, l, c, zs, hcs, _, hl, hm, hz, _, hcell, _⟩
  · simp at hcs
    obtain ⟨rfl, rfl, rfl⟩ := hcs
    exact ⟨⟨fun _ => 0, .inl rfl⟩, by omega⟩
  · simp at hcs
    obtain ⟨rfl, rfl, rfl⟩ := hcs
    refine ⟨⟨fun j => zs.getD j 0, ?_⟩, by unfold maxLen at hm; omega⟩
    by_cases h0 : len = 0
    · exact .inl h0
    have hz' : len ≤ zs.length := by rw [hz]; split <;> omega
    obtain ⟨b, o, spot⟩ := x
    have hc0 := hcell 0 (by omega)
    have hspot : spot = none := by simpa [Addr.add] using World.cell?_spot hc0
    subst hspot
    refine .inr ⟨b, o, rfl, fun j hj => ?_⟩
    have := hcell j (by omega)
    rwa [Addr.add_lit] at this
end Go.Proofs.Ytcahpmlajfbidaa
