import Derived.Test.YtfldcclnfagmpaaG
namespace Go.Proofs.Ytfldcclnfagmpaa
open Go.RowKit

set_option maxHeartbeats 1000000 in
theorem works_any (w : World) : Calls Try.prog 10 #[] w fun e w' => e = .returned (.bool true) ∧ w.grownBy w' none := by
  obtain ⟨z, hz⟩ : ∃ z : List UInt8, z = List.replicate 64 0 := ⟨_, rfl⟩
  have hzl : z.length = 64 := by rw [hz]; rfl
  have r1 : refusedS z.length 4 4 = 0 := by rw [hzl]; decide
  have l1 : (writeS z 4 4 258).length = 64 := by rw [hz]; decide
  have v1 : readS (writeS z 4 4 258) 4 1 = 2 ∧ readS (writeS z 4 4 258) 5 1 = 1 := by rw [hz]; decide
  have q1 : refusedS 64 4 1 = 0 ∧ refusedS 64 5 1 = 0 ∧ refusedS 64 2 4 = 150 := by decide
  obtain ⟨z1, hz1⟩ : ∃ z1, z1 = writeS z 4 4 258 := ⟨_, rfl⟩
  rw [← hz1] at v1 l1
  obtain ⟨rv, hrv⟩ : ∃ rv, rv = readS z1 2 4 := ⟨_, rfl⟩
  go_enter Try.func10, Try.ntmps10
  go_wp2_with fail
  refine (new_good 1 _ (by omega) (by omega)).mono ?_; rintro e w1 ⟨B, g, rfl, hB, hg, hF, hg1⟩
  have hF : Fr w1 B g z := by rw [hz]; exact hF
  have C2 := write_any B g 4 258 4 z w1 hF (by rw [hzl]) (by omega) (by decide) (by decide)
  rw [r1, ← hz1] at C2
  clear r1 hz hz1
  go_wp2_with fail
  refine C2.mono ?_; rintro e w2 ⟨rfl, hF2, hg2⟩
  clear C2
  have C3 := read_any B g 4 1 z1 w2 hF2 (by rw [l1]) (by omega) (by decide) (by decide)
  rw [l1, q1.1, v1.1] at C3
  go_wp2_with fail
  refine C3.mono ?_; rintro e w3 ⟨rfl, hg3⟩
  clear C3
  have C4 := read_any B g 5 1 z1 w3 (hF2.keptNone hg3) (by rw [l1]) (by omega) (by decide) (by decide)
  rw [l1, q1.2.1, v1.2] at C4
  go_wp2_with fail
  refine C4.mono ?_; rintro e w4 ⟨rfl, hg4⟩
  clear C4
  have C5 := read_any B g 2 4 z1 w4 ((hF2.keptNone hg3).keptNone hg4) (by rw [l1]) (by omega) (by decide) (by decide)
  rw [l1, q1.2.2, ← hrv] at C5
  clear hrv
  go_wp2_with fail
  refine C5.mono ?_; rintro e w5 ⟨rfl, hg5⟩
  clear C5
  have C6 := size_any B g z1 w5 (((hF2.keptNone hg3).keptNone hg4).keptNone hg5)
  rw [l1] at C6
  clear v1 q1 l1
  go_wp2_with fail
  refine (num_any _ _).mono ?_; rintro e w' ⟨rfl, rfl⟩
  go_wp2_with fail
  refine (num_any _ _).mono ?_; rintro e w' ⟨rfl, rfl⟩
  go_wp2_with fail
  refine (num_any _ _).mono ?_; rintro e w' ⟨rfl, rfl⟩
  go_wp2_with fail
  refine (num_any _ _).mono ?_; rintro e w' ⟨rfl, rfl⟩
  go_wp2_with fail
  refine (num_any _ _).mono ?_; rintro e w' ⟨rfl, rfl⟩
  go_wp2_with fail
  refine C6.mono ?_; rintro e w' ⟨rfl, rfl⟩
  go_wp2_with fail
  go_ret
  exact ⟨rfl, ((grown_new hg1 hg2 hg).trans hg3).trans (hg4.trans hg5)⟩
end Go.Proofs.Ytfldcclnfagmpaa
