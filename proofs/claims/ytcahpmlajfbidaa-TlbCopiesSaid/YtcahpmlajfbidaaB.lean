import Derived.Test.YtcahpmlajfbidaaA
import Derived.Test.YtcahpmlajfbidaaBlk
namespace Go.Proofs.Ytcahpmlajfbidaa
open Go.RowKit
def Ent.one (e : Ent) : Int := if e.th then 1 else 0
def Tl.many (T : Tl) : Int := T.a.one + T.b.one + T.c.one + T.d.one
def Tl.upTo (T : Tl) (k : Nat) : Int := (if 0 < k then T.a.one else 0) + (if 1 < k then T.b.one else 0) + (if 2 < k then T.c.one else 0) + (if 3 < k then T.d.one else 0)
theorem Ent.one_cases (e : Ent) : e.one = 0 ∨ e.one = 1 := by unfold Ent.one; split <;> simp
set_option maxHeartbeats 2000000 in
theorem ref_many (T : Tl) (w : World) : Calls Try.prog 24 #[T.val] w fun e w' => e = .returned (.int .i64 T.many) ∧ w.grownBy w' none := by
  have HG := Lib.hid (World.grownBy_alloc w (.cells T.cells 30) none)
  go_enter Try.func24, Try.ntmps24
  go_wp2
  go_loopw [3, 4] (fun n i wr => ∃ k : Nat, k ≤ 4 ∧ i = .int .i64 k ∧ n = .int .i64 (T.upTo k) ∧ wr = w.alloc (.cells T.cells 30)) (fun _ i _ => 4 - (intOf i).toNat)
  case atStart => exact ⟨0, by omega, rfl, by simp [Tl.upTo], rfl⟩
  case round =>
    obtain ⟨k, hk, rfl, rfl, rfl⟩ := hrel
    have ea := T.a.one_cases
    have eb := T.b.one_cases
    have ec := T.c.one_cases
    have ed := T.d.one_cases
    obtain rfl | rfl | rfl | rfl | rfl : k = 0 ∨ k = 1 ∨ k = 2 ∨ k = 3 ∨ k = 4 := by omega
    · obtain ⟨u, hu⟩ : ∃ u, u = T.upTo 0 := ⟨_, rfl⟩
      have hu0 : 0 ≤ u ∧ u ≤ 4 := by rw [hu]; simp only [Tl.upTo]; repeat' split
                                     all_goals omega
      rw [← hu]
      by_cases ht : T.a.th = true
      · have hn : T.upTo 1 = u + 1 := by rw [hu]; simp [Tl.upTo, Ent.one, ht]
        have HU := Lib.hid hu
        clear hu ea eb ec ed
        go_wp2
        go_roundw
        case rel => exact ⟨1, by omega, rfl, by first | rw [hn] | (rw [hn, HU.out]), by first | rfl | trivial⟩
        case measure => simp [intOf]
      · have ht : T.a.th = false := by simpa using ht
        have hn : T.upTo 1 = u := by rw [hu]; simp [Tl.upTo, Ent.one, ht]
        have HU := Lib.hid hu
        clear hu ea eb ec ed
        go_wp2
        go_roundw
        case rel => exact ⟨1, by omega, rfl, by first | rw [hn] | (rw [hn, HU.out]), by first | rfl | trivial⟩
        case measure => simp [intOf]
    · obtain ⟨u, hu⟩ : ∃ u, u = T.upTo 1 := ⟨_, rfl⟩
      have hu0 : 0 ≤ u ∧ u ≤ 4 := by rw [hu]; simp only [Tl.upTo]; repeat' split
                                     all_goals omega
      rw [← hu]
      by_cases ht : T.b.th = true
      · have hn : T.upTo 2 = u + 1 := by rw [hu]; simp [Tl.upTo, Ent.one, ht]
        have HU := Lib.hid hu
        clear hu ea eb ec ed
        go_wp2
        go_roundw
        case rel => exact ⟨2, by omega, rfl, by first | rw [hn] | (rw [hn, HU.out]), by first | rfl | trivial⟩
        case measure => simp [intOf]
      · have ht : T.b.th = false := by simpa using ht
        have hn : T.upTo 2 = u := by rw [hu]; simp [Tl.upTo, Ent.one, ht]
        have HU := Lib.hid hu
        clear hu ea eb ec ed
        go_wp2
        go_roundw
        case rel => exact ⟨2, by omega, rfl, by first | rw [hn] | (rw [hn, HU.out]), by first | rfl | trivial⟩
        case measure => simp [intOf]
    · obtain ⟨u, hu⟩ : ∃ u, u = T.upTo 2 := ⟨_, rfl⟩
      have hu0 : 0 ≤ u ∧ u ≤ 4 := by rw [hu]; simp only [Tl.upTo]; repeat' split
                                     all_goals omega
      rw [← hu]
      by_cases ht : T.c.th = true
      · have hn : T.upTo 3 = u + 1 := by rw [hu]; simp [Tl.upTo, Ent.one, ht]
        have HU := Lib.hid hu
        clear hu ea eb ec ed
        go_wp2
        go_roundw
        case rel => exact ⟨3, by omega, rfl, by first | rw [hn] | (rw [hn, HU.out]), by first | rfl | trivial⟩
        case measure => simp [intOf]
      · have ht : T.c.th = false := by simpa using ht
        have hn : T.upTo 3 = u := by rw [hu]; simp [Tl.upTo, Ent.one, ht]
        have HU := Lib.hid hu
        clear hu ea eb ec ed
        go_wp2
        go_roundw
        case rel => exact ⟨3, by omega, rfl, by first | rw [hn] | (rw [hn, HU.out]), by first | rfl | trivial⟩
        case measure => simp [intOf]
    · obtain ⟨u, hu⟩ : ∃ u, u = T.upTo 3 := ⟨_, rfl⟩
      have hu0 : 0 ≤ u ∧ u ≤ 4 := by rw [hu]; simp only [Tl.upTo]; repeat' split
                                     all_goals omega
      rw [← hu]
      by_cases ht : T.d.th = true
      · have hn : T.upTo 4 = u + 1 := by rw [hu]; simp [Tl.upTo, Ent.one, ht]
        have HU := Lib.hid hu
        clear hu ea eb ec ed
        go_wp2
        go_roundw
        case rel => exact ⟨4, by omega, rfl, by first | rw [hn] | (rw [hn, HU.out]), by first | rfl | trivial⟩
        case measure => simp [intOf]
      · have ht : T.d.th = false := by simpa using ht
        have hn : T.upTo 4 = u := by rw [hu]; simp [Tl.upTo, Ent.one, ht]
        have HU := Lib.hid hu
        clear hu ea eb ec ed
        go_wp2
        go_roundw
        case rel => exact ⟨4, by omega, rfl, by first | rw [hn] | (rw [hn, HU.out]), by first | rfl | trivial⟩
        case measure => simp [intOf]
    · have hm : T.upTo 4 = T.many := by simp [Tl.upTo, Tl.many]
      rw [hm]
      clear ea eb ec ed
      go_wp2
      go_ret
      exact ⟨rfl, HG.out⟩
end Go.Proofs.Ytcahpmlajfbidaa
