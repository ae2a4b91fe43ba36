import Derived.Test.YtnglbneefkdfgaaOpenX
set_option linter.unusedVariables false
namespace Go.Proofs.Ytnglbneefkdfgaa
open Go.RowKit Go.ChangeShapes Go.WideShapes Go.Deep
/-- A slice of lists of bytes that came in, and how long they are at most. -/
theorem src_of_listsS {H : Type} {enc : TypeId × Value → H} {w : World} {base : Nat} {spare : Nat → Bool} {held : Bool} {fuel : Nat} {a : Option Addr} {len cap : Nat} {x : DataW H × List MemPlace}
    (hf : DataW.trod enc Try.prog w base spare held fuel 34 [.slice a len cap] = some x) (hw : ∀ n ∈ x.1.weights Try.prog 34, n ≤ reachBytes) : (∃ aa cc ll, SrcLL w a len aa cc ll ∧ ∀ j, j < len → (ll j).length ≤ 140737488355328) ∧ len ≤ 9223372036854775807 := by
  rcases open_slice Try.underlying34 hf with ⟨hcs, _⟩ | ⟨ad, len', cap', m, n, D, Pl, hcs, _, hl, hm, hmm, hx, hi⟩
  · simp at hcs
    obtain ⟨rfl, rfl, rfl⟩ := hcs
    exact ⟨⟨fun _ => none, fun _ => 0, fun _ => [], .inl rfl, fun j hj => by omega⟩, by omega⟩
  · simp at hcs
    obtain ⟨rfl, rfl, rfl⟩ := hcs
    refine ⟨?_, by unfold maxLen at hm; omega⟩
    by_cases h0 : len = 0
    · exact ⟨fun _ => none, fun _ => 0, fun _ => [], .inl h0, fun j hj => by omega⟩
    have hml : len ≤ m := by rw [hmm]; split <;> omega
    have key : ∀ i, i < len → ∃ t : Option Addr × Nat × List UInt8, w.cell? (ad.add i) = some (.slice t.1 t.2.2.length t.2.1) ∧ Go.Proofs.Ytnglbneefkdfgaa.Src w t.1 t.2.2 ∧ t.2.2.length ≤ 140737488355328 := by
      intro i hil
      obtain ⟨cs', hc, ht⟩ := hi i (by omega)
      rw [Try.cells22, Nat.mul_one] at hc
      obtain ⟨_, hcl, hat⟩ := World.cells?_some hc
      obtain ⟨v, rfl⟩ := List.length_eq_one_iff.1 hcl
      obtain ⟨a', c', bs, rfl, h1, h2⟩ := bytes_of ht
      have h00 := hat 0 (by omega)
      rw [Go.Deep.add_add] at h00
      refine ⟨(a', c', bs), by simpa using h00, h1, h2 (fun n hn => hw n ?_)⟩
      rw [hx]
      simp only [DataW.weights, Try.underlying34]
      refine List.mem_cons_of_mem _ (List.mem_append_left _ (weightsAll_mem (d := D i) ?_ n hn))
      exact List.mem_map.2 ⟨i, List.mem_range.2 hil, rfl⟩
    obtain ⟨b, o, spot⟩ := ad
    obtain ⟨t0, ht0, _⟩ := key 0 (by omega)
    have hspot : spot = none := by simpa [Addr.add] using World.cell?_spot ht0
    subst hspot
    refine ⟨fun i => if h : i < len then (key i h).choose.1 else none, fun i => if h : i < len then (key i h).choose.2.1 else 0, fun i => if h : i < len then (key i h).choose.2.2 else [], .inr ⟨b, o, rfl, fun j hj => ?_⟩, fun j hj => ?_⟩
    · have hk := (key j hj).choose_spec
      simp only [dif_pos hj]
      refine ⟨?_, hk.2.1⟩
      have h1 := hk.1
      generalize (key j hj).choose = t at h1 ⊢
      rwa [Addr.add_lit] at h1
    · simp only [dif_pos hj]
      exact (key j hj).choose_spec.2.2
end Go.Proofs.Ytnglbneefkdfgaa
