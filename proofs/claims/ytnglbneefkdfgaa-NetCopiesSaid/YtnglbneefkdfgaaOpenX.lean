import Derived.Test.YtnglbneefkdfgaaV
import Derived.Deep.Slices
import Derived.Deep.Fields
import Derived.ChangeSame
import Derived.OpenShut
import Derived.SizedLaws
set_option linter.unusedVariables false
namespace Go.Proofs.Ytnglbneefkdfgaa
open Go.RowKit Go.ChangeShapes Go.WideShapes Go.Deep
theorem wf_u32 {x : Int} (h : (Lit.int .u32 x).wf = true) : ∃ n : Nat, x = n ∧ n < 4294967296 := by
  have hmin : IntKind.u32.min = 0 := rfl
  have hmax : IntKind.u32.max = 4294967295 := rfl
  simp only [Lit.wf, Bool.and_eq_true, decide_eq_true_eq] at h
  exact ⟨x.toNat, by omega, by omega⟩
theorem wf_u8 {x : Int} (h : (Lit.int .u8 x).wf = true) : ∃ n : Nat, x = n ∧ n < 256 := by
  have hmin : IntKind.u8.min = 0 := rfl
  have hmax : IntKind.u8.max = 255 := rfl
  simp only [Lit.wf, Bool.and_eq_true, decide_eq_true_eq] at h
  exact ⟨x.toNat, by omega, by omega⟩
theorem src_of_ints {w : World} (x : Addr) (len cap : Nat) (zs : List Int) (hl : len ≤ cap) (hz : zs.length = cap) (hcell : ∀ i, i < zs.length → w.cell? (x.add i) = some (.int .u8 (zs.getD i 0))) (hwz : ∀ n ∈ zs, (Lit.int .u8 n).wf = true) :
    ∃ l : List UInt8, len = l.length ∧ Go.Proofs.Ytnglbneefkdfgaa.Src w (some x) l := by
  refine ⟨(zs.take len).map (fun z => UInt8.ofNat z.toNat), by simp; omega, ?_⟩
  by_cases h0 : len = 0
  · subst h0; exact .inl rfl
  · obtain ⟨b, o, spot⟩ := x
    have hc0 := hcell 0 (by omega)
    have hspot : spot = none := by simpa [Addr.add] using World.cell?_spot hc0
    subst hspot
    refine .inr ⟨b, o, rfl, fun j hj => ?_⟩
    have hj' : j < len := by simp at hj; omega
    have hjz : j < zs.length := by omega
    have := hcell j hjz
    rw [Addr.add_lit] at this
    rw [this]
    have hw := hwz (zs[j]) (List.getElem_mem hjz)
    obtain ⟨m, hm, hlt⟩ := wf_u8 hw
    simp [List.getD, hjz, hm]
    omega
theorem weightsAll_mem {H : Type} {P : Program} {e : TypeId} : ∀ {l : List (DataW H)} {d : DataW H}, d ∈ l → ∀ n ∈ d.weights P e, n ∈ DataW.weightsAll P e l
  | d0 :: r, d, hd, n, hn => by
    simp only [DataW.weightsAll, List.mem_append]
    rcases List.mem_cons.1 hd with rfl | hd
    · exact .inl hn
    · exact .inr (weightsAll_mem hd n hn)
theorem Try.cells36 : Try.prog.cellsOf 36 = 2 := by kernel_rfl
theorem Try.cells3 : Try.prog.cellsOf 3 = 1 := by kernel_rfl
theorem Try.cells22 : Try.prog.cellsOf 22 = 1 := by kernel_rfl
theorem Try.bytes5 : Try.prog.bytesOf 5 = 1 := by kernel_rfl
theorem two_of {α : Type} : ∀ (l : List α), l.length = 2 → ∃ a b, l = [a, b]
  | [a, b], _ => ⟨a, b, rfl⟩
/-- The bytes of a slice that came in. -/
theorem bytes_of {H : Type} {enc : TypeId × Value → H} {w : World} {base : Nat} {spare : Nat → Bool} {held : Bool} {fuel : Nat} {v : Value} {x : DataW H × List MemPlace}
    (ht : DataW.trod enc Try.prog w base spare held fuel 22 [v] = some x) : ∃ a c, ∃ bs : List UInt8, v = .slice a bs.length c ∧ Go.Proofs.Ytnglbneefkdfgaa.Src w a bs ∧ ((∀ n ∈ x.1.weights Try.prog 22, n ≤ reachBytes) → bs.length ≤ 140737488355328) := by
  rcases open_ints Try.underlying22 Try.underlying5 (by kernel_rfl) ht with ⟨hcs, _⟩ | ⟨a, len, cap, zs, hcs, _, hl, hm, hz, hx, hcell, hwz⟩
  · simp at hcs
    subst hcs
    exact ⟨none, 0, [], rfl, .inl rfl, fun _ => by simp⟩
  · simp at hcs
    subst hcs
    have hlz : len ≤ zs.length := by rw [hz]; split <;> omega
    obtain ⟨l, h1, h2⟩ := src_of_ints a len zs.length zs hlz rfl hcell hwz
    subst h1
    refine ⟨some a, cap, l, rfl, h2, fun hw => ?_⟩
    have := hw ((zs.take l.length).length + (zs.drop l.length).length) (by
      rw [hx]
      simp [DataW.weights, Try.underlying22, Try.bytes5, lits])
    have h3 := reachBytes_lt
    simp at this
    omega
/-- The cells of one act. -/
theorem act_of {H : Type} {enc : TypeId × Value → H} {w : World} {base : Nat} {spare : Nat → Bool} {held : Bool} {fuel : Nat} {cs : List Value} {x : DataW H × List MemPlace}
    (hl : cs.length = 2) (ht : DataW.trod enc Try.prog w base spare held fuel 36 cs = some x) : ∃ (t : Ac) (bs : List UInt8), cs = t.cells.toList ∧ t.bn = bs.length ∧ Go.Proofs.Ytnglbneefkdfgaa.Src w t.ba bs ∧ ((∀ n ∈ x.1.weights Try.prog 36, n ≤ reachBytes) → bs.length ≤ 140737488355328) := by
  obtain ⟨v0, v1, rfl⟩ := two_of cs hl
  obtain ⟨xs, k, _, hx, _, hxl, hfi⟩ := DataW.trod_struct Try.underlying36 ht
  have f0 := hfi 0 _ rfl
  have f1 := hfi 1 _ rfl
  have g0 : DataW.trod enc Try.prog w base spare held k 3 [v0] = xs[0]? := by rw [← f0]; simp [Try.cells3]
  have g1 : DataW.trod enc Try.prog w base spare held k 22 [v1] = xs[1]? := by rw [← f1]; simp [Try.cells22]
  have hxl' : xs.length = 2 := hxl
  rw [List.getElem?_eq_getElem (by omega)] at g0 g1
  obtain ⟨n0, e0, _, _⟩ := DataW.trod_int Try.underlying3 g0
  obtain ⟨a2, c2, bs, e2, hs, hbd⟩ := bytes_of g1
  simp at e0
  subst e0 e2
  refine ⟨⟨n0, a2, bs.length, c2⟩, bs, rfl, rfl, hs, fun hw => hbd (fun n hn => hw n ?_)⟩
  rw [hx]
  simp only [DataW.weights, Try.underlying36]
  refine DataW.weights_mem_each (j := 1) (t := 22) (d := xs[1].1) rfl ?_ n hn
  simp [hxl']
/-- A slice of calls that came in. -/
theorem src_of_acts {H : Type} {enc : TypeId × Value → H} {w : World} {base : Nat} {spare : Nat → Bool} {held : Bool} {fuel : Nat} {a : Option Addr} {len cap : Nat} {x : DataW H × List MemPlace}
    (hf : DataW.trod enc Try.prog w base spare held fuel 32 [.slice a len cap] = some x) (hw : ∀ n ∈ x.1.weights Try.prog 32, n ≤ reachBytes) : (∃ l bs, SrcX w a len l bs) ∧ len ≤ 9223372036854775807 := by
  rcases open_slice Try.underlying32 hf with ⟨hcs, _⟩ | ⟨ad, len', cap', m, n, D, Pl, hcs, _, hl, hm, hmm, hx, hi⟩
  · simp at hcs
    obtain ⟨rfl, rfl, rfl⟩ := hcs
    exact ⟨⟨fun _ => ⟨0, none, 0, 0⟩, fun _ => [], .inl rfl⟩, by omega⟩
  · simp at hcs
    obtain ⟨rfl, rfl, rfl⟩ := hcs
    refine ⟨?_, by unfold maxLen at hm; omega⟩
    by_cases h0 : len = 0
    · exact ⟨fun _ => ⟨0, none, 0, 0⟩, fun _ => [], .inl h0⟩
    have hml : len ≤ m := by rw [hmm]; split <;> omega
    have key : ∀ i, i < len → ∃ t : Ac × List UInt8, (∀ j, j < 2 → w.cell? ((ad.add (i * 2)).add j) = t.1.cells.toList[j]?) ∧ t.1.bn = t.2.length ∧ Go.Proofs.Ytnglbneefkdfgaa.Src w t.1.ba t.2 ∧ t.2.length ≤ 140737488355328 := by
      intro i hil
      obtain ⟨cs', hc, ht⟩ := hi i (by omega)
      rw [Try.cells36] at hc
      obtain ⟨_, hcl, hat⟩ := World.cells?_some hc
      obtain ⟨t, bs, rfl, h1, h2, h4⟩ := act_of hcl ht
      refine ⟨(t, bs), hat, h1, h2, h4 (fun n hn => hw n ?_)⟩
      rw [hx]
      simp only [DataW.weights, Try.underlying32]
      refine List.mem_cons_of_mem _ (List.mem_append_left _ (weightsAll_mem (d := D i) ?_ n hn))
      exact List.mem_map.2 ⟨i, List.mem_range.2 hil, rfl⟩
    obtain ⟨b, o, spot⟩ := ad
    obtain ⟨t0, ht0, _⟩ := key 0 (by omega)
    have hspot : spot = none := by
      have h00 := ht0 0 (by omega)
      simpa [Addr.add] using World.cell?_spot (h00.trans (show t0.1.cells.toList[0]? = some (.int .i64 t0.1.what) from rfl))
    subst hspot
    refine ⟨fun i => if h : i < len then (key i h).choose.1 else ⟨0, none, 0, 0⟩, fun i => if h : i < len then (key i h).choose.2 else [], .inr ⟨b, o, rfl, fun j hj => ?_⟩⟩
    have hk := (key j hj).choose_spec
    simp only [dif_pos hj]
    refine ⟨?_, hk.2⟩
    intro i v hv
    have hi5 : i < 2 := by
      have := (List.getElem?_eq_some_iff.1 hv).1
      exact this
    have := hk.1 i hi5
    rw [Go.Deep.add_add, Addr.add_lit] at this
    rw [Nat.add_assoc, this]
    exact hv

/-- A list of lists of bytes that can be read. -/
def SrcLL (w : World) (a : Option Addr) (n : Nat) (aa : Nat → Option Addr) (cc : Nat → Nat) (ll : Nat → List UInt8) : Prop :=
  n = 0 ∨ ∃ b o, a = some ⟨b, o, none⟩ ∧ ∀ j, j < n → w.cell? ⟨b, o + j, none⟩ = some (.slice (aa j) (ll j).length (cc j)) ∧ Go.Proofs.Ytnglbneefkdfgaa.Src w (aa j) (ll j)
/-- A slice of lists of bytes that came in. -/
theorem src_of_lists {H : Type} {enc : TypeId × Value → H} {w : World} {base : Nat} {spare : Nat → Bool} {held : Bool} {fuel : Nat} {a : Option Addr} {len cap : Nat} {x : DataW H × List MemPlace}
    (hf : DataW.trod enc Try.prog w base spare held fuel 34 [.slice a len cap] = some x) : (∃ aa cc ll, SrcLL w a len aa cc ll) ∧ len ≤ 9223372036854775807 := by
  rcases open_slice Try.underlying34 hf with ⟨hcs, _⟩ | ⟨ad, len', cap', m, n, D, Pl, hcs, _, hl, hm, hmm, hx, hi⟩
  · simp at hcs
    obtain ⟨rfl, rfl, rfl⟩ := hcs
    exact ⟨⟨fun _ => none, fun _ => 0, fun _ => [], .inl rfl⟩, by omega⟩
  · simp at hcs
    obtain ⟨rfl, rfl, rfl⟩ := hcs
    refine ⟨?_, by unfold maxLen at hm; omega⟩
    by_cases h0 : len = 0
    · exact ⟨fun _ => none, fun _ => 0, fun _ => [], .inl h0⟩
    have hml : len ≤ m := by rw [hmm]; split <;> omega
    have key : ∀ i, i < len → ∃ t : Option Addr × Nat × List UInt8, w.cell? (ad.add i) = some (.slice t.1 t.2.2.length t.2.1) ∧ Go.Proofs.Ytnglbneefkdfgaa.Src w t.1 t.2.2 := by
      intro i hil
      obtain ⟨cs', hc, ht⟩ := hi i (by omega)
      rw [Try.cells22, Nat.mul_one] at hc
      obtain ⟨_, hcl, hat⟩ := World.cells?_some hc
      obtain ⟨v, rfl⟩ := List.length_eq_one_iff.1 hcl
      obtain ⟨a', c', bs, rfl, h1, _⟩ := bytes_of ht
      have h00 := hat 0 (by omega)
      rw [Go.Deep.add_add] at h00
      exact ⟨(a', c', bs), by simpa using h00, h1⟩
    obtain ⟨b, o, spot⟩ := ad
    obtain ⟨t0, ht0, _⟩ := key 0 (by omega)
    have hspot : spot = none := by simpa [Addr.add] using World.cell?_spot ht0
    subst hspot
    refine ⟨fun i => if h : i < len then (key i h).choose.1 else none, fun i => if h : i < len then (key i h).choose.2.1 else 0, fun i => if h : i < len then (key i h).choose.2.2 else [], .inr ⟨b, o, rfl, fun j hj => ?_⟩⟩
    have hk := (key j hj).choose_spec
    simp only [dif_pos hj]
    refine ⟨?_, hk.2⟩
    have h1 := hk.1
    generalize (key j hj).choose = t at h1 ⊢
    rwa [Addr.add_lit] at h1
end Go.Proofs.Ytnglbneefkdfgaa
