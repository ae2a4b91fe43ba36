import Derived.Test.YtmdgehpmeikgfaaU
set_option linter.unusedVariables false
namespace Go.Proofs.Ytmdgehpmeikgfaa
open Go.RowKit
/-- 'act', whatever it is told. -/
theorem act_any (B : Nat) (c : Lc) (r : Rf) (g : Gh) (x : Ac) (bs : List UInt8) (w : World) (hL : LS w B c g) (hR : RS w r g) (hS : ∀ k, own c B k → ¬ rrow r k) (hWG : WG g) (hbn : x.bn = bs.length) (hX : Src w x.ba bs) (hXn : bs ≠ [] → ∀ b o, x.ba = some ⟨b, o, none⟩ → ¬ own c B b)
    (hbs : bs.length ≤ 500000) (hpl : g.pushed.length ≤ 500000) (htl : g.told.length ≤ 500000) (hwd : x.word < 4294967296) :
    Calls Try.prog 30 #[.pointer (some ⟨B, 0, none⟩), r.val, x.val] w fun e w' => ∃ c' r', e = .returned (.tuple #[r'.val, .bool true]) ∧ Post w w' B c c' r r' (g.step x bs) := by
  by_cases h0 : x.what = 0
  · exact act_alarm B c r g x bs w hL hR hS h0
  by_cases h1 : x.what = 1
  · by_cases hf : g.pushed.length - g.taken + bs.length ≤ 256
    · exact act_push_ok B c r g x bs w hL hR hS h1 hWG hbn hX hXn hbs hpl hf
    · exact act_push_long B c r g x bs w hL hR hS h1 hWG hbn hX hXn hbs hpl (by omega)
  by_cases h2 : x.what = 2
  · by_cases hk : g.taken < g.pushed.length
    · exact act_take_one B c r g x bs w hL hR hS h2 hk (by omega)
    · exact act_take_none B c r g x bs w hL hR hS h2 (by have := hWG.tk; omega)
  by_cases h3 : x.what = 3
  · exact act_tell B c r g x bs w hL hR hS h3 (by omega)
  by_cases h4 : x.what = 4
  · exact act_mask B c r g x bs w hL hR hS h4 hwd
  have hne : (x.what == 0) = false ∧ (x.what == 1) = false ∧ (x.what == 2) = false ∧ (x.what == 3) = false ∧ (x.what == 4) = false := by simp [h0, h1, h2, h3, h4]
  by_cases l2 : x.line = 2
  · exact act_raise_2 B c r g x bs w hL hR hS hne trivial l2
  by_cases l3 : x.line = 3
  · exact act_raise_3 B c r g x bs w hL hR hS hne trivial l3
  exact act_raise_bad B c r g x bs w hL hR hS hne trivial ⟨l2, l3⟩
theorem Gh.step_pushed (g : Gh) (x : Ac) (bs : List UInt8) : (g.step x bs).pushed.length ≤ g.pushed.length + 256 ∧ g.pushed.length ≤ (g.step x bs).pushed.length := by
  unfold Gh.step
  repeat' split
  all_goals simp
  omega
theorem Gh.step_told (g : Gh) (x : Ac) (bs : List UInt8) : (g.step x bs).told.length ≤ g.told.length + 1 := by
  unfold Gh.step
  repeat' split
  all_goals simp
end Go.Proofs.Ytmdgehpmeikgfaa
