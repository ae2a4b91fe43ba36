import Derived.Test.YtfldcclnfagmpaaPlaysW
import Derived.Deep.Slices
import Derived.Deep.Fields
import Derived.ChangeSame
import Derived.OpenShut
namespace Go.Proofs.Ytfldcclnfagmpaa
open Go.RowKit Go.ChangeShapes Go.WideShapes Go.Deep
theorem Try.cells25 : Try.prog.cellsOf 25 = 3 := by kernel_rfl
theorem Try.cells23 : Try.prog.cellsOf 23 = 1 := by kernel_rfl
theorem Try.cells3 : Try.prog.cellsOf 3 = 1 := by kernel_rfl
theorem three_of {α : Type} : ∀ (l : List α), l.length = 3 → ∃ a b c, l = [a, b, c]
  | [a, b, c], _ => ⟨a, b, c, rfl⟩
/-- A slice of accesses that came in. -/
theorem src_of_accs {H : Type} {enc : TypeId × Value → H} {w : World} {base : Nat} {spare : Nat → Bool} {held : Bool} {fuel : Nat} {a : Option Addr} {len cap : Nat} {x : DataW H × List MemPlace}
    (hf : DataW.trod enc Try.prog w base spare held fuel 38 [.slice a len cap] = some x) : (∃ l, SrcA w a len l) ∧ len ≤ 9223372036854775807 := by
  rcases open_slice Try.underlying38 hf with ⟨hcs, _⟩ | ⟨ad, len', cap', m, n, D, Pl, hcs, _, hl, hm, hmm, _, hi⟩
  · simp at hcs
    obtain ⟨rfl, rfl, rfl⟩ := hcs
    exact ⟨⟨fun _ => (0, 0, 0), .inl rfl⟩, by omega⟩
  · simp at hcs
    obtain ⟨rfl, rfl, rfl⟩ := hcs
    refine ⟨?_, by unfold maxLen at hm; omega⟩
    by_cases h0 : len = 0
    · exact ⟨fun _ => (0, 0, 0), .inl h0⟩
    have hml : len ≤ m := by rw [hmm]; split <;> omega
    have key : ∀ i, i < len → ∃ t : Nat × Int × Nat, w.cell? (ad.add (i * 3)) = some (.int .u32 t.1) ∧ w.cell? (ad.add (i * 3 + 1)) = some (.int .i64 t.2.1) ∧ w.cell? (ad.add (i * 3 + 2)) = some (.int .u32 t.2.2) ∧ t.1 < 4294967296 ∧ (Lit.int .i64 t.2.1).wf = true ∧ t.2.2 < 4294967296 := by
      intro i hil
      obtain ⟨cs', hc, ht⟩ := hi i (by omega)
      rw [Try.cells25] at hc
      obtain ⟨_, hcl, hat⟩ := World.cells?_some hc
      obtain ⟨v0, v1, v2, rfl⟩ := three_of cs' hcl
      obtain ⟨xs, k, _, _, _, hxl, hfi⟩ := DataW.trod_struct Try.underlying25 ht
      have f0 := hfi 0 _ rfl
      have f1 := hfi 1 _ rfl
      have f2 := hfi 2 _ rfl
      have g0 : DataW.trod enc Try.prog w base spare held k 23 [v0] = xs[0]? := by rw [← f0]; simp [Try.cells23]
      have g1 : DataW.trod enc Try.prog w base spare held k 3 [v1] = xs[1]? := by rw [← f1]; simp [Try.cells3]
      have g2 : DataW.trod enc Try.prog w base spare held k 23 [v2] = xs[2]? := by rw [← f2]; simp [Try.cells23]
      have hxl' : xs.length = 3 := hxl
      rw [List.getElem?_eq_getElem (by omega)] at g0 g1 g2
      obtain ⟨n0, e0, _, w0⟩ := DataW.trod_int Try.underlying23 g0
      obtain ⟨n1, e1, _, w1⟩ := DataW.trod_int Try.underlying3 g1
      obtain ⟨n2, e2, _, w2⟩ := DataW.trod_int Try.underlying23 g2
      simp at e0 e1 e2
      subst e0 e1 e2
      obtain ⟨m0, rfl, b0⟩ := wf_u32 w0
      obtain ⟨m2, rfl, b2⟩ := wf_u32 w2
      have c0 := hat 0 (by omega)
      have c1 := hat 1 (by omega)
      have c2 := hat 2 (by omega)
      rw [Go.Deep.add_add] at c0 c1 c2
      exact ⟨(m0, n1, m2), by simpa using c0, by simpa using c1, by simpa using c2, b0, w1, b2⟩
    obtain ⟨b, o, spot⟩ := ad
    obtain ⟨t0, ht0, _⟩ := key 0 (by omega)
    have hspot : spot = none := by simpa [Addr.add] using World.cell?_spot ht0
    subst hspot
    have key' : ∀ i, i < len → ∃ t : Nat × Int × Nat, w.cell? ⟨b, o + i * 3, none⟩ = some (.int .u32 t.1) ∧ w.cell? ⟨b, o + i * 3 + 1, none⟩ = some (.int .i64 t.2.1) ∧ w.cell? ⟨b, o + i * 3 + 2, none⟩ = some (.int .u32 t.2.2) ∧ t.1 < 4294967296 ∧ (Lit.int .i64 t.2.1).wf = true ∧ t.2.2 < 4294967296 := by
      intro i hil
      obtain ⟨t, k0, k1, k2, k3⟩ := key i hil
      rw [Addr.add_lit] at k0 k1 k2
      exact ⟨t, k0, by rw [Nat.add_assoc]; exact k1, by rw [Nat.add_assoc]; exact k2, k3⟩
    refine ⟨fun i => if h : i < len then (key' i h).choose else (0, 0, 0), .inr ⟨b, o, rfl, fun j hj => ?_⟩⟩
    have hk := (key' j hj).choose_spec
    simp only [dif_pos hj]
    exact hk
end Go.Proofs.Ytfldcclnfagmpaa
