import Derived.Test.YtnglbneefkdfgaaE
set_option linter.unusedVariables false
namespace Go.Proofs.Ytnglbneefkdfgaa
open Go.RowKit
set_option maxHeartbeats 4000000 in
theorem bytes_any (M : Nat → Prop) (a : Option Addr) (cap : Nat) (vs : List Value) (ls : List (List UInt8)) (w : World) (h : Gs eL w (.slice a ls.length cap) ls.length vs) (hb : BL M w vs ls) (hm : ls.length ≤ 1000000) (hbd : tot ls ≤ 1000000000) :
    Calls Try.prog 37 #[.slice a ls.length cap] w fun e w' => e = .returned (.int .i64 (tot ls : Nat)) ∧ w = w' := by
  go_enter Try.func37, Try.ntmps37
  go_wp2
  go_loop [3, 4] (fun s i => ∃ k : Nat, k ≤ ls.length ∧ i = .int .i64 k ∧ s = .int .i64 (tot (ls.take k) : Nat)) (fun _ i => ls.length - (intOf i).toNat)
  case atStart => exact ⟨0, Nat.zero_le _, rfl, by simp [tot]⟩
  case round =>
    obtain ⟨k, hk, rfl, rfl⟩ := hrel
    by_cases hlt : k < ls.length
    · obtain ⟨g, o, rfl⟩ := h.some_of (by omega)
      obtain ⟨v, hv, hi⟩ := hb.2 k hlt
      obtain ⟨va, vc, rfl, _⟩ := hi
      have c0 := h.cell k _ hv
      have hlt' : (k : Int) < (ls.length : Nat) := by omega
      have hts := tot_succ ls k hlt
      have htl := tot_take_le ls (k + 1)
      have hw1 : IntKind.i64.wrap ((tot (ls.take k) : Nat) + ((ls[k]'hlt).length : Nat)) = ((tot (ls.take (k + 1)) : Nat) : Int) := by rw [IntKind.wrap_i64]; omega
      have hwk : IntKind.i64.wrap ((k : Int) + 1) = ((k + 1 : Nat) : Int) := by rw [IntKind.wrap_i64]; omega
      clear hv hts htl h hb hbd
      go_wp2
      go_round
      case rel => exact ⟨k + 1, by omega, rfl, rfl⟩
      case measure => simp [intOf]; omega
    · obtain rfl : k = ls.length := by omega
      rw [List.take_length]
      clear h hb
      go_wp2
      go_ret
      exact ⟨rfl, rfl⟩
theorem sent_nil (w : World) : Calls Try.prog 26 #[.pointer none] w fun e w' => e = .returned (.slice none 0 0) ∧ w = w' := by
  go_enter Try.func26, Try.ntmps26
  go_wp2_with fail
  refine (none_nil _).mono ?_; rintro e w' ⟨rfl, rfl⟩
  go_wp2
  go_ret
  exact ⟨rfl, rfl⟩
end Go.Proofs.Ytnglbneefkdfgaa
