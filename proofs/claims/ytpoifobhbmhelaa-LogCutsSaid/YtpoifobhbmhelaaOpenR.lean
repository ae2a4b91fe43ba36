/- Records and logs that came in. -/
import Derived.Test.YtpoifobhbmhelaaOpen
import Derived.Test.YtpoifobhbmhelaaM
import Derived.Deep.Slices
import Derived.Deep.Fields
import Derived.ChangeSame
import Derived.OpenShut
set_option linter.unusedVariables false
set_option linter.unusedSimpArgs false
namespace Go.Proofs.Ytpoifobhbmhelaa
open Go.RowKit Go.ChangeShapes Go.WideShapes Go.Deep
theorem Try.cells25 : Try.prog.cellsOf 25 = 4 := by kernel_rfl
theorem Try.cells31 : Try.prog.cellsOf 31 = 6 := by kernel_rfl
theorem Try.cells28 : Try.prog.cellsOf 28 = 2 := by kernel_rfl
theorem Try.cells29 : Try.prog.cellsOf 29 = 1 := by kernel_rfl
theorem Try.cells2 : Try.prog.cellsOf 2 = 1 := by kernel_rfl
theorem Try.cells3 : Try.prog.cellsOf 3 = 1 := by kernel_rfl
theorem Try.cells4 : Try.prog.cellsOf 4 = 1 := by kernel_rfl
theorem Try.cells22 : Try.prog.cellsOf 22 = 1 := by kernel_rfl
theorem Try.cells23 : Try.prog.cellsOf 23 = 1 := by kernel_rfl
theorem four_of {α : Type} : ∀ (l : List α), l.length = 4 → ∃ a b c d, l = [a, b, c, d]
  | [a, b, c, d], _ => ⟨a, b, c, d, rfl⟩
theorem six_of {α : Type} : ∀ (l : List α), l.length = 6 → ∃ a b c d e f, l = [a, b, c, d, e, f]
  | [a, b, c, d, e, f], _ => ⟨a, b, c, d, e, f, rfl⟩
/-- The bytes of a slice that came in. -/
theorem bytes_of {H : Type} {enc : TypeId × Value → H} {w : World} {base : Nat} {spare : Nat → Bool} {held : Bool} {fuel : Nat} {v : Value} {x : DataW H × List MemPlace}
    (ht : DataW.trod enc Try.prog w base spare held fuel 23 [v] = some x) : ∃ a c, ∃ bs : List UInt8, v = .slice a bs.length c ∧ Go.Proofs.Ytpoifobhbmhelaa.Src w a bs ∧ bs.length ≤ c := by
  rcases open_ints Try.underlying23 Try.underlying5 (by kernel_rfl) ht with ⟨hcs, _⟩ | ⟨a, len, cap, zs, hcs, _, hl, hm, hz, hx, hcell, hwz⟩
  · simp at hcs
    subst hcs
    exact ⟨none, 0, [], rfl, .inl rfl, by simp⟩
  · simp at hcs
    subst hcs
    have hlz : len ≤ zs.length := by rw [hz]; split <;> omega
    obtain ⟨l, h1, h2⟩ := src_of_ints a len zs.length zs hlz rfl hcell hwz
    subst h1
    exact ⟨some a, cap, l, rfl, h2, hl⟩
/-- The cells of one record. -/
theorem rec_of {H : Type} {enc : TypeId × Value → H} {w : World} {base : Nat} {spare : Nat → Bool} {held : Bool} {fuel : Nat} {cs : List Value} {x : DataW H × List MemPlace}
    (hl : cs.length = 4) (ht : DataW.trod enc Try.prog w base spare held fuel 25 cs = some x) : ∃ t : Rv, cs = t.cells ∧ Go.Proofs.Ytpoifobhbmhelaa.Src w t.x t.b ∧ t.b.length ≤ t.c := by
  obtain ⟨v0, v1, v2, v3, rfl⟩ := four_of cs hl
  obtain ⟨xs, k, _, hx, _, hxl, hfi⟩ := DataW.trod_struct Try.underlying25 ht
  have f0 := hfi 0 _ rfl
  have f1 := hfi 1 _ rfl
  have f2 := hfi 2 _ rfl
  have f3 := hfi 3 _ rfl
  have g0 : DataW.trod enc Try.prog w base spare held k 2 [v0] = xs[0]? := by rw [← f0]; simp [Try.cells2]
  have g1 : DataW.trod enc Try.prog w base spare held k 22 [v1] = xs[1]? := by rw [← f1]; simp [Try.cells22]
  have g2 : DataW.trod enc Try.prog w base spare held k 3 [v2] = xs[2]? := by rw [← f2]; simp [Try.cells3]
  have g3 : DataW.trod enc Try.prog w base spare held k 23 [v3] = xs[3]? := by rw [← f3]; simp [Try.cells23]
  have hxl' : xs.length = 4 := hxl
  rw [List.getElem?_eq_getElem (by omega)] at g0 g1 g2 g3
  obtain ⟨n0, e0, _, _⟩ := DataW.trod_int Try.underlying2 g0
  obtain ⟨n1, e1, _, _⟩ := DataW.trod_int Try.underlying22 g1
  obtain ⟨n2, e2, _, _⟩ := DataW.trod_int Try.underlying3 g2
  obtain ⟨a3, c3, bs, e3, hs, hle⟩ := bytes_of g3
  simp at e0 e1 e2
  subst e0 e1 e2 e3
  exact ⟨⟨n0, n1, n2, bs, a3, c3⟩, rfl, hs, hle⟩
/-- A slice of records that came in. -/
theorem src_of_recs {H : Type} {enc : TypeId × Value → H} {w : World} {base : Nat} {spare : Nat → Bool} {held : Bool} {fuel : Nat} {v : Value} {x : DataW H × List MemPlace}
    (hf : DataW.trod enc Try.prog w base spare held fuel 29 [v] = some x) : ∃ a c, ∃ ts : List Rv, v = .slice a ts.length c ∧ RL w a ts ∧ ts.length ≤ 9223372036854775807 := by
  rcases open_slice Try.underlying29 hf with ⟨hcs, _⟩ | ⟨ad, len, cap, m, n, D, Pl, hcs, _, hl, hm, hmm, hx, hi⟩
  · simp at hcs
    subst hcs
    exact ⟨none, 0, [], rfl, .inl rfl, by simp⟩
  · simp at hcs
    subst hcs
    have hb : len ≤ 9223372036854775807 := by unfold maxLen at hm; omega
    by_cases h0 : len = 0
    · subst h0
      exact ⟨some ad, cap, [], rfl, .inl rfl, by simp⟩
    have hml : len ≤ m := by rw [hmm]; split <;> omega
    have key : ∀ i, i < len → ∃ t : Rv, (∀ j, j < 4 → w.cell? ((ad.add (i * 4)).add j) = t.cells[j]?) ∧ Go.Proofs.Ytpoifobhbmhelaa.Src w t.x t.b ∧ t.b.length ≤ t.c := by
      intro i hil
      obtain ⟨cs', hc, ht⟩ := hi i (by omega)
      rw [Try.cells25] at hc
      obtain ⟨_, hcl, hat⟩ := World.cells?_some hc
      obtain ⟨t, rfl, h1, h2⟩ := rec_of hcl ht
      exact ⟨t, hat, h1, h2⟩
    obtain ⟨b, o, spot⟩ := ad
    obtain ⟨t0, ht0, _⟩ := key 0 (by omega)
    have hspot : spot = none := by
      have h00 := ht0 0 (by omega)
      simpa [Addr.add] using World.cell?_spot (h00.trans (show t0.cells[0]? = some (.int .i64 t0.a) from rfl))
    subst hspot
    obtain ⟨F, hF⟩ : ∃ F : Nat → Rv, ∀ i, i < len → (∀ j, j < 4 → w.cell? (((⟨b, o, none⟩ : Addr).add (i * 4)).add j) = (F i).cells[j]?) ∧ Go.Proofs.Ytpoifobhbmhelaa.Src w (F i).x (F i).b ∧ (F i).b.length ≤ (F i).c :=
      ⟨fun i => if h : i < len then (key i h).choose else t0, fun i hi => by simp only [dif_pos hi]; exact (key i hi).choose_spec⟩
    refine ⟨some ⟨b, o, none⟩, cap, (List.range len).map F, by simp, .inr ⟨b, o, rfl, fun j hj => ?_⟩, by simpa using hb⟩
    have hj' : j < len := by simpa using hj
    simp only [List.getElem_map, List.getElem_range]
    obtain ⟨h1, h2, h3⟩ := hF j hj'
    have at4 : ∀ i, i < 4 → w.cell? ⟨b, o + j * 4 + i, none⟩ = (F j).cells[i]? := fun i hi => by
      rw [← h1 i hi, Addr.add_lit, Addr.add_lit]
    exact ⟨at4 0 (by omega), at4 1 (by omega), at4 2 (by omega), at4 3 (by omega), h2, h3⟩
/-- A log that came in. -/
theorem log_of {H : Type} {enc : TypeId × Value → H} {w : World} {base : Nat} {spare : Nat → Bool} {held : Bool} {fuel : Nat} {cs : List Value} {x : DataW H × List MemPlace}
    (hl : cs.length = 6) (ht : DataW.trod enc Try.prog w base spare held fuel 31 cs = some x) : ∃ f s m a c, ∃ ts : List Rv, ∃ wh e, cs = [.int .i64 f, .int .i64 s, .int .i64 m, .slice a ts.length c, .bool wh, .int .i64 e] ∧ RL w a ts ∧ ts.length ≤ 9223372036854775807 := by
  obtain ⟨v0, v1, v2, v3, v4, v5, rfl⟩ := six_of cs hl
  obtain ⟨xs, k, _, hx, _, hxl, hfi⟩ := DataW.trod_struct Try.underlying31 ht
  have f0 := hfi 0 _ rfl
  have f1 := hfi 1 _ rfl
  have f2 := hfi 2 _ rfl
  have f3 := hfi 3 _ rfl
  have f4 := hfi 4 _ rfl
  have g0 : DataW.trod enc Try.prog w base spare held k 28 [v0, v1] = xs[0]? := by rw [← f0]; simp [Try.cells28]
  have g1 : DataW.trod enc Try.prog w base spare held k 3 [v2] = xs[1]? := by rw [← f1]; simp [Try.cells3]
  have g2 : DataW.trod enc Try.prog w base spare held k 29 [v3] = xs[2]? := by rw [← f2]; simp [Try.cells29]
  have g3 : DataW.trod enc Try.prog w base spare held k 4 [v4] = xs[3]? := by rw [← f3]; simp [Try.cells4]
  have g4 : DataW.trod enc Try.prog w base spare held k 2 [v5] = xs[4]? := by rw [← f4]; simp [Try.cells2]
  have hxl' : xs.length = 5 := hxl
  rw [List.getElem?_eq_getElem (by omega)] at g0 g1 g2 g3 g4
  obtain ⟨ys, k', _, _, _, hyl, hgi⟩ := DataW.trod_struct Try.underlying28 g0
  have q0 := hgi 0 _ rfl
  have q1 := hgi 1 _ rfl
  have p0 : DataW.trod enc Try.prog w base spare held k' 3 [v0] = ys[0]? := by rw [← q0]; simp [Try.cells3]
  have p1 : DataW.trod enc Try.prog w base spare held k' 3 [v1] = ys[1]? := by rw [← q1]; simp [Try.cells3]
  have hyl' : ys.length = 2 := hyl
  rw [List.getElem?_eq_getElem (by omega)] at p0 p1
  obtain ⟨n0, e0, _, _⟩ := DataW.trod_int Try.underlying3 p0
  obtain ⟨n1, e1, _, _⟩ := DataW.trod_int Try.underlying3 p1
  obtain ⟨n2, e2, _, _⟩ := DataW.trod_int Try.underlying3 g1
  obtain ⟨a, c, ts, e3, hs, hm⟩ := src_of_recs g2
  obtain ⟨b4, e4, _⟩ := DataW.trod_bool Try.underlying4 g3
  obtain ⟨n5, e5, _, _⟩ := DataW.trod_int Try.underlying2 g4
  simp at e0 e1 e2 e4 e5
  subst e0 e1 e2 e3 e4 e5
  exact ⟨n0, n1, n2, a, c, ts, b4, n5, rfl, hs, hm⟩
end Go.Proofs.Ytpoifobhbmhelaa
