import Derived.Test.YtfldcclnfagmpaaLoadsW
import Derived.Test.YtfldcclnfagmpaaReg
namespace Go.Proofs.Ytfldcclnfagmpaa
open Go.RowKit
theorem Src.pre {w : World} {a : Option Addr} {l m : List UInt8} (h : Src w a (l ++ m)) : Src w a l := by
  rcases h with h | ⟨b, o, ha, hc⟩
  · exact .inl (by simp at h; exact h.1)
  · exact .inr ⟨b, o, ha, fun j hj => by have := hc j (by simp; omega); rwa [List.getElem_append_left hj] at this⟩
theorem of_bad (a : Option Addr) (n cap : Nat) (w : World) (hn : n ≤ 9223372036854775807) (h : n < 64 ∨ 2048 < n ∨ n % 64 ≠ 0) :
    Calls Try.prog 12 #[.slice a n cap] w fun e w' => e = .returned (.tuple #[.pointer none, .int .i64 2]) ∧ w.grownBy w' none := by
  by_cases hp : 1 ≤ ((n : Int) / 64) ∧ ((n : Int) / 64) ≤ 32
  · by_cases hr : n % 64 = 0
    · omega
    · have q : (((n : Int) % 64) != 0) = true := by simp; omega
      go_enter Try.func12, Try.ntmps12
      go_wp2_with fail
      refine (new_good _ _ hp.1 hp.2).mono ?_; rintro e w1 ⟨B, g, rfl, hB, hg, hF, hg1⟩
      go_wp2
      go_ret2
      exact ⟨rfl, hg1⟩
  · go_enter Try.func12, Try.ntmps12
    go_wp2_with fail
    refine (new_bad _ _ (by omega)).mono ?_; rintro e w1 ⟨rfl, rfl⟩
    go_wp2
    go_ret2
    exact ⟨rfl, World.grownBy.refl _ _⟩
def sizeB (n : Nat) : Bool := decide (64 ≤ n ∧ n ≤ 2048 ∧ n % 64 = 0)
theorem ref_size (n : Nat) (w : World) : Calls Try.prog 22 #[.int .i64 n] w fun e w' => e = .returned (.bool (sizeB n)) ∧ w = w' := by
  unfold sizeB
  by_cases h1 : 64 ≤ n
  · by_cases h2 : n ≤ 2048
    · by_cases h3 : n % 64 = 0
      · have q1 : (64 : Int) ≤ n := by omega
        have q2 : (n : Int) ≤ 2048 := by omega
        have q3 : ((n : Int) % 64 == 0) = true := by simp; omega
        have q4 : decide (64 ≤ n ∧ n ≤ 2048 ∧ n % 64 = 0) = true := by simp; omega
        go_enter Try.func22, Try.ntmps22
        go_wp2
        go_ret
        exact ⟨by first | rfl | (rw [q4]; rfl), rfl⟩
      · have q1 : (64 : Int) ≤ n := by omega
        have q2 : (n : Int) ≤ 2048 := by omega
        have q3 : ((n : Int) % 64 == 0) = false := by simp; omega
        have q4 : decide (64 ≤ n ∧ n ≤ 2048 ∧ n % 64 = 0) = false := by simp; omega
        go_enter Try.func22, Try.ntmps22
        go_wp2
        go_ret
        exact ⟨by first | rfl | (rw [q4]; rfl), rfl⟩
    · have q1 : (64 : Int) ≤ n := by omega
      have q2 : ¬ (n : Int) ≤ 2048 := by omega
      have q4 : decide (64 ≤ n ∧ n ≤ 2048 ∧ n % 64 = 0) = false := by simp; omega
      go_enter Try.func22, Try.ntmps22
      go_wp2
      go_ret
      exact ⟨by first | rfl | (rw [q4]; rfl), rfl⟩
  · have q1 : ¬ (64 : Int) ≤ n := by omega
    have q4 : decide (64 ≤ n ∧ n ≤ 2048 ∧ n % 64 = 0) = false := by simp; omega
    go_enter Try.func22, Try.ntmps22
    go_wp2
    go_ret
    exact ⟨by first | rfl | (rw [q4]; rfl), rfl⟩
/-- 'New', whatever it is told. -/
theorem new_any (p : Int) (w : World) : Calls Try.prog 17 #[.int .i64 p] w fun e w' => ∃ ptr no, e = .returned (.tuple #[.pointer ptr, .int .i64 no]) ∧ w.grownBy w' none ∧
    ((1 ≤ p ∧ p ≤ 32 ∧ no = 0 ∧ ∃ B g, ptr = some ⟨B, 0, none⟩ ∧ w.heap.size ≤ B ∧ w.heap.size ≤ g ∧ Fr w' B g (List.replicate (p.toNat * 64) 0)) ∨ ((p < 1 ∨ 32 < p) ∧ no = 2 ∧ ptr = none)) := by
  by_cases h : p < 1 ∨ 32 < p
  · exact (new_bad p w h).mono fun e w' ⟨he, hw⟩ => ⟨_, _, he, by subst hw; exact World.grownBy.refl _ _, .inr ⟨h, rfl, rfl⟩⟩
  · exact (new_good p w (by omega) (by omega)).mono fun e w' ⟨B, g, he, hB, hg, hF, hgr⟩ => ⟨_, _, he, hgr, .inl ⟨by omega, by omega, rfl, B, g, rfl, hB, hg, hF⟩⟩
end Go.Proofs.Ytfldcclnfagmpaa
