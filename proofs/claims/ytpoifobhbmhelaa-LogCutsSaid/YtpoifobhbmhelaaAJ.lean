/- The laws' own log, there and back: what it is; 'works'. -/
import Derived.Test.YtpoifobhbmhelaaAI
import Derived.Test.YtpoifobhbmhelaaQ
set_option linter.unusedVariables false
set_option linter.unusedSimpArgs false
namespace Go.Proofs.Ytpoifobhbmhelaa
open Go.RowKit
abbrev someB : List UInt8 := [80, 77, 68, 82, 2, 1, 4, 6, 3, 172, 2, 0, 104, 105, 3, 8, 1, 0]
theorem some_ok : someL.Ok := by decide
theorem some_enc : encL someL = someB := by
  have e0 := enc_lt (n := 0) (by omega)
  have e1 := enc_lt (n := 1) (by omega)
  have e2 := enc_lt (n := 2) (by omega)
  have e3 := enc_lt (n := 3) (by omega)
  have e4 := enc_lt (n := 4) (by omega)
  have e6 := enc_lt (n := 6) (by omega)
  have e300 : enc 300 = [172, 2] := by rw [enc_ge (by omega), show 300 / 128 = 2 from rfl, e2]; rfl
  simp [encL, headOf, recsOf, endOf, recOf, bodyOf, lastOf, someL, hi, magic, e0, e1, e2, e3, e4, e6, e300]
theorem some_dec : decL someB = (someL, 18, 0) := by
  have := decL_encL some_ok
  rw [some_enc] at this
  exact this
theorem some_cut : decL (someB.take 17) = (⟨2, 1, 4, someL.rs, false, 0⟩, 14, 0) := by
  rw [decL_ok (f := 2) (s := 1) (m := 4) (by rfl) (by rfl) (by rfl) (by rfl) (by decide)]
  rw [decR_ok (n := 6) (r := ⟨300, 3, 0, hi⟩) (by simp) rfl (by rfl) (by simp) (by rfl) (by decide)]
  rw [decR_short (n := 3) (by simp) rfl (by rfl) (by simp)]
  rfl
end Go.Proofs.Ytpoifobhbmhelaa
