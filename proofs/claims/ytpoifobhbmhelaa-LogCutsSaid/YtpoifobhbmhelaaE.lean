import Derived.Test.YtpoifobhbmhelaaPl
set_option linter.unusedVariables false
set_option linter.unusedSimpArgs false
namespace Go.Proofs.Ytpoifobhbmhelaa
open Go.RowKit
def tkRes (len : Nat) : Tk → Value
  | .no => .tuple #[.int .i64 0, .int .i64 (-1)]
  | .soon => .tuple #[.int .i64 0, .int .i64 0]
  | .num n r => .tuple #[.int .i64 (n : Nat), .int .i64 ((len - r.length : Nat) : Int)]
theorem src_some {w : World} {a : Option Addr} {l : List UInt8} (h : Go.Proofs.Ytpoifobhbmhelaa.Src w a l) (hne : l ≠ []) : ∃ b o, a = some ⟨b, o, none⟩ ∧ ∀ j (h : j < l.length), w.cell? ⟨b, o + j, none⟩ = some (.int .u8 (l[j].toNat : Int)) := h.resolve_left hne
theorem tk_no {k N : Nat} {c : UInt8} {r : List UInt8} (h : (8 ≤ k ∧ 128 ≤ c.toNat) ∨ (0 < k ∧ c.toNat = 0)) : tk k N (c :: r) = .no := by rw [tk, if_pos h]
theorem tk_ret {k N : Nat} {c : UInt8} {r : List UInt8} (h : ¬ (0 < k ∧ c.toNat = 0)) (hd : c.toNat < 128) : tk k N (c :: r) = .num (N + c.toNat * 128 ^ k) r := by rw [tk, if_neg (by omega), if_pos hd]
theorem tk_go {k N : Nat} {c : UInt8} {r : List UInt8} (h : k < 8) (hd : ¬ c.toNat < 128) : tk k N (c :: r) = tk (k + 1) (N + c.toNat % 128 * 128 ^ k) r := by rw [tk, if_neg (by omega), if_neg hd]
/-- One byte more: what the machine reckons. -/
theorem tk_num {k N d U : Nat} (hk : k ≤ 8) (hN : N < 128 ^ k) (hU : U = 128 ^ k) : wrap64 ((d : Int) % 128 * (U : Int)) = ((d % 128 * U : Nat) : Int) ∧ wrap64 ((N : Int) + ((d % 128 * U : Nat) : Int)) = ((N + d % 128 * U : Nat) : Int) ∧ (k < 8 → wrap64 ((U : Int) * 128) = ((128 ^ (k + 1) : Nat) : Int)) ∧ N + d % 128 * U < 128 ^ (k + 1) := by
  have h8 : 128 ^ k ≤ 128 ^ 8 := Nat.pow_le_pow_right (by decide) hk
  have hb : d % 128 * U ≤ 127 * U := Nat.mul_le_mul_right _ (by omega)
  have hp : 128 ^ (k + 1) = 128 * 128 ^ k := by rw [Nat.pow_succ, Nat.mul_comm]
  have hc : (d : Int) % 128 * (U : Int) = ((d % 128 * U : Nat) : Int) := by push_cast; rfl
  refine ⟨?_, ?_, fun hk8 => ?_, ?_⟩
  · rw [hc]; exact IntWalk.wrap64_in _ ⟨by omega, by omega⟩
  · exact IntWalk.wrap64_in _ ⟨by omega, by omega⟩
  · have h7 : 128 ^ k ≤ 128 ^ 7 := Nat.pow_le_pow_right (by decide) (by omega)
    rw [hp, ← hU, IntWalk.wrap64_in _ ⟨by omega, by omega⟩]
    push_cast
    omega
  · omega
set_option maxRecDepth 100000 in
set_option maxHeartbeats 1000000 in
theorem rtake_any (x : Option Addr) (cap : Nat) (l : List UInt8) (at_ : Nat) (w : World) (hs : Go.Proofs.Ytpoifobhbmhelaa.Src w x l) (hat : at_ ≤ l.length) (hl : l.length ≤ 1000000) : Calls Try.prog 37 #[.slice x l.length cap, .int .i64 (at_ : Nat)] w fun e w' => e = .returned (tkRes l.length (take (l.drop at_))) ∧ w = w' := by
  have HS := Lib.hid hs
  clear hs
  go_enter Try.func37, Try.ntmps37
  go_wp2
  go_loopw [6, 7, 8] (fun n u i wr => ∃ (j k N U : Nat), j ≤ l.length ∧ j = at_ + k ∧ k ≤ 8 ∧ i = .int .i64 j ∧ u = .int .i64 (U : Nat) ∧ n = .int .i64 (N : Nat) ∧ U = 128 ^ k ∧ N < 128 ^ k ∧ tk k N (l.drop j) = take (l.drop at_) ∧ w = wr) (fun _ _ i _ => l.length - (intOf i).toNat)
  case atStart => exact ⟨at_, 0, 0, 1, hat, rfl, by omega, rfl, rfl, rfl, rfl, by simp, rfl, rfl⟩
  case round =>
    obtain ⟨j, k, N, U, hj, hjk, hk, rfl, rfl, rfl, hU, hN, htk, rfl⟩ := hrel
    by_cases hlt : j < l.length
    · obtain ⟨b, o, rfl, hc⟩ := src_some HS.out (fun e => by subst e; simp at hlt)
      have hcj := hc j hlt
      rw [List.drop_eq_getElem_cons hlt] at htk
      obtain ⟨c, hcc⟩ : ∃ c, c = l[j] := ⟨_, rfl⟩
      rw [← hcc] at hcj htk
      clear hcc
      obtain ⟨d, hd⟩ : ∃ d : Nat, d = c.toNat := ⟨_, rfl⟩
      rw [← hd] at hcj
      obtain ⟨m1, m2, m3, m4⟩ := tk_num (d := d) hk hN hU
      obtain ⟨T, hT⟩ : ∃ T : Nat, T = d % 128 * U := ⟨_, rfl⟩
      rw [← hT] at m1 m2 m4
      obtain ⟨M, hM⟩ : ∃ M : Nat, M = N + T := ⟨_, rfl⟩
      rw [← hM] at m2 m4
      have hd256 : d < 256 := by rw [hd]; exact c.toNat_lt
      have hlt' : (j : Int) < (l.length : Nat) := by omega
      have hsub : IntKind.i64.wrap ((j : Int) - (at_ : Int)) = (k : Int) := by rw [IntKind.wrap_i64]; omega
      have hwj : IntKind.i64.wrap ((j : Int) + 1) = ((j + 1 : Nat) : Int) := by rw [IntKind.wrap_i64]; omega
      have HJ := Lib.hid hjk
      have HD := Lib.hid hd
      have HT := Lib.hid htk
      have HN := Lib.hid hN
      have HU := Lib.hid hU
      have HTT := Lib.hid hT
      have HM := Lib.hid hM
      have HM4 := Lib.hid m4
      clear hc hjk hd htk hN hU hT hM m4
      by_cases hk8 : k = 8
      · have h8 : ((k : Int) == 8) = true := by simp; omega
        have h0 : (at_ : Int) < (j : Int) := by have := HJ.out; omega
        by_cases hdg : 128 ≤ d
        · have hge : (128 : Int) ≤ (d : Int) := by omega
          have hlt2 : ¬ (d : Int) < 128 := by omega
          have hz : ((d : Int) == 0) = false := by simp; omega
          have HR := Lib.hid (show tkRes l.length (take (l.drop at_)) = .tuple #[.int .i64 0, .int .i64 (-1)] from by rw [← HT.out, tk_no (by have := HD.out; omega)]; rfl)
          clear HT HM4 HM HTT HU HN
          go_wp2
          go_ret2
          exact ⟨congrArg Ending.returned HR.out.symm, rfl⟩
        · by_cases hd0 : d = 0
          · have hge : ¬ (128 : Int) ≤ (d : Int) := by omega
            have hz : ((d : Int) == 0) = true := by simp; omega
            have HR := Lib.hid (show tkRes l.length (take (l.drop at_)) = .tuple #[.int .i64 0, .int .i64 (-1)] from by rw [← HT.out, tk_no (by have := HD.out; omega)]; rfl)
            clear HT HM4 HM HTT HU HN
            go_wp2
            go_ret2
            exact ⟨congrArg Ending.returned HR.out.symm, rfl⟩
          · have hge : ¬ (128 : Int) ≤ (d : Int) := by omega
            have hlt2 : (d : Int) < 128 := by omega
            have hz : ((d : Int) == 0) = false := by simp; omega
            have HR := Lib.hid (show tkRes l.length (take (l.drop at_)) = .tuple #[.int .i64 (M : Nat), .int .i64 ((j : Int) + 1)] from by
              rw [← HT.out, tk_ret (by have := HD.out; omega) (by have := HD.out; omega), tkRes, ← HD.out, HM.out, HTT.out, HU.out, Nat.mod_eq_of_lt (by omega)]
              have e : l.length - (l.drop (j + 1)).length = j + 1 := by simp; omega
              rw [e]
              rfl)
            clear HT HM4 HM HTT HU HN
            go_wp2
            go_ret2
            exact ⟨congrArg Ending.returned HR.out.symm, rfl⟩
      · have h8 : ((k : Int) == 8) = false := by simp; omega
        by_cases hk0 : k = 0
        · have h0 : ¬ (at_ : Int) < (j : Int) := by have := HJ.out; omega
          by_cases hdg : 128 ≤ d
          · have hge : (128 : Int) ≤ (d : Int) := by omega
            have hlt2 : ¬ (d : Int) < 128 := by omega
            have hz : ((d : Int) == 0) = false := by simp; omega
            have m3 := m3 (by have := HJ.out; omega)
            obtain ⟨V, hV⟩ : ∃ V : Nat, V = 128 ^ (k + 1) := ⟨_, rfl⟩
            rw [← hV] at m3
            have HR := Lib.hid (show tk (k + 1) M (l.drop (j + 1)) = take (l.drop at_) from by rw [← HT.out, tk_go (by omega) (by have := HD.out; omega), ← HD.out, HM.out, HTT.out, HU.out])
            have HV := Lib.hid hV
            have HK := Lib.hid (show k + 1 ≤ 8 from by omega)
            clear HT HM HTT HU HN hV
            go_wp2
            go_roundw
            case rel => exact ⟨j + 1, k + 1, M, V, by omega, by have := HJ.out; omega, HK.out, rfl, by first | rfl | exact congrArg (Value.int .i64) m3, by first | rfl | exact congrArg (Value.int .i64) m2, HV.out, HM4.out, HR.out, by first | trivial | rfl⟩
            case measure => simp [intOf]; omega
          · have hge : ¬ (128 : Int) ≤ (d : Int) := by omega
            have hlt2 : (d : Int) < 128 := by omega
            have HR := Lib.hid (show tkRes l.length (take (l.drop at_)) = .tuple #[.int .i64 (M : Nat), .int .i64 ((j : Int) + 1)] from by
              rw [← HT.out, tk_ret (by have := HD.out; omega) (by have := HD.out; omega), tkRes, ← HD.out, HM.out, HTT.out, HU.out, Nat.mod_eq_of_lt (by omega)]
              have e : l.length - (l.drop (j + 1)).length = j + 1 := by simp; omega
              rw [e]
              rfl)
            clear HT HM4 HM HTT HU HN
            go_wp2
            go_ret2
            exact ⟨congrArg Ending.returned HR.out.symm, rfl⟩
        · have h0 : (at_ : Int) < (j : Int) := by have := HJ.out; omega
          by_cases hdg : 128 ≤ d
          · have hge : (128 : Int) ≤ (d : Int) := by omega
            have hlt2 : ¬ (d : Int) < 128 := by omega
            have hz : ((d : Int) == 0) = false := by simp; omega
            have m3 := m3 (by have := HJ.out; omega)
            obtain ⟨V, hV⟩ : ∃ V : Nat, V = 128 ^ (k + 1) := ⟨_, rfl⟩
            rw [← hV] at m3
            have HR := Lib.hid (show tk (k + 1) M (l.drop (j + 1)) = take (l.drop at_) from by rw [← HT.out, tk_go (by omega) (by have := HD.out; omega), ← HD.out, HM.out, HTT.out, HU.out])
            have HV := Lib.hid hV
            have HK := Lib.hid (show k + 1 ≤ 8 from by omega)
            clear HT HM HTT HU HN hV
            go_wp2
            go_roundw
            case rel => exact ⟨j + 1, k + 1, M, V, by omega, by have := HJ.out; omega, HK.out, rfl, by first | rfl | exact congrArg (Value.int .i64) m3, by first | rfl | exact congrArg (Value.int .i64) m2, HV.out, HM4.out, HR.out, by first | trivial | rfl⟩
            case measure => simp [intOf]; omega
          · by_cases hd0 : d = 0
            · have hge : ¬ (128 : Int) ≤ (d : Int) := by omega
              have hz : ((d : Int) == 0) = true := by simp; omega
              have HR := Lib.hid (show tkRes l.length (take (l.drop at_)) = .tuple #[.int .i64 0, .int .i64 (-1)] from by rw [← HT.out, tk_no (by have := HD.out; omega)]; rfl)
              clear HT HM4 HM HTT HU HN
              go_wp2
              go_ret2
              exact ⟨congrArg Ending.returned HR.out.symm, rfl⟩
            · have hge : ¬ (128 : Int) ≤ (d : Int) := by omega
              have hlt2 : (d : Int) < 128 := by omega
              have hz : ((d : Int) == 0) = false := by simp; omega
              have HR := Lib.hid (show tkRes l.length (take (l.drop at_)) = .tuple #[.int .i64 (M : Nat), .int .i64 ((j : Int) + 1)] from by
                rw [← HT.out, tk_ret (by have := HD.out; omega) (by have := HD.out; omega), tkRes, ← HD.out, HM.out, HTT.out, HU.out, Nat.mod_eq_of_lt (by omega)]
                have e : l.length - (l.drop (j + 1)).length = j + 1 := by simp; omega
                rw [e]
                rfl)
              clear HT HM4 HM HTT HU HN
              go_wp2
              go_ret2
              exact ⟨congrArg Ending.returned HR.out.symm, rfl⟩
    · have HR := Lib.hid (show tkRes l.length (take (l.drop at_)) = .tuple #[.int .i64 0, .int .i64 0] from by rw [← htk, show l.drop j = [] from List.drop_of_length_le (by omega)]; rfl)
      have hlt' : ¬ (j : Int) < (l.length : Nat) := by omega
      clear hjk htk hN hU
      go_wp2
      go_ret2
      exact ⟨congrArg Ending.returned HR.out.symm, rfl⟩
end Go.Proofs.Ytpoifobhbmhelaa
