import Derived.Test.YtpoifobhbmhelaaGs
set_option linter.unusedVariables false
set_option linter.unusedSimpArgs false
namespace Go.Proofs.Ytpoifobhbmhelaa
open Go.RowKit
theorem within_yes (n l g : Int) (h1 : l ≤ n) (h2 : n ≤ g) (w : World) : Calls Try.prog 28 #[.int .i64 n, .int .i64 l, .int .i64 g] w fun e w' => e = .returned (.bool true) ∧ w = w' := by
  go_enter Try.func28, Try.ntmps28
  go_wp2
  go_ret
  exact ⟨rfl, rfl⟩
theorem within_no (n l g : Int) (h : ¬ (l ≤ n ∧ n ≤ g)) (w : World) : Calls Try.prog 28 #[.int .i64 n, .int .i64 l, .int .i64 g] w fun e w' => e = .returned (.bool false) ∧ w = w' := by
  by_cases h1 : l ≤ n
  · have h2 : ¬ n ≤ g := fun h2 => h ⟨h1, h2⟩
    clear h
    go_enter Try.func28, Try.ntmps28
    go_wp2
    go_ret
    exact ⟨rfl, rfl⟩
  · clear h
    go_enter Try.func28, Try.ntmps28
    go_wp2
    go_ret
    exact ⟨rfl, rfl⟩
/-- May a form and a bound be? -/
def Hd (f s b : Int) : Prop := ((1 ≤ f ∧ f ≤ 32) ∧ (1 ≤ s ∧ s ≤ 32)) ∧ (1 ≤ b ∧ b ≤ 65536)
instance (f s b : Int) : Decidable (Hd f s b) := by unfold Hd; infer_instance
theorem head_yes (f s b : Int) (h : Hd f s b) (w : World) : Calls Try.prog 38 #[.agg #[.int .i64 f, .int .i64 s], .int .i64 b] w fun e w' => e = .returned (.bool true) ∧ w.grownBy w' none := by
  obtain ⟨⟨⟨h1, h2⟩, ⟨h3, h4⟩⟩, ⟨h5, h6⟩⟩ := h
  have HF := Lib.hid h1; have HF2 := Lib.hid h2; have HS := Lib.hid h3; have HS2 := Lib.hid h4; have HB := Lib.hid h5; have HB2 := Lib.hid h6
  clear h1 h2 h3 h4 h5 h6
  go_enter Try.func38, Try.ntmps38
  go_wp2_with fail
  refine (within_yes _ _ _ HF.out HF2.out _).mono ?_; rintro e w' ⟨rfl, rfl⟩
  go_wp2_with fail
  refine (within_yes _ _ _ HS.out HS2.out _).mono ?_; rintro e w' ⟨rfl, rfl⟩
  go_wp2_with fail
  refine (within_yes _ _ _ HB.out HB2.out _).mono ?_; rintro e w' ⟨rfl, rfl⟩
  go_wp2
  go_ret
  exact ⟨rfl, World.grownBy_alloc _ _ _⟩
theorem head_no (f s b : Int) (h : ¬ Hd f s b) (w : World) : Calls Try.prog 38 #[.agg #[.int .i64 f, .int .i64 s], .int .i64 b] w fun e w' => e = .returned (.bool false) ∧ w.grownBy w' none := by
  by_cases h1 : 1 ≤ f ∧ f ≤ 32
  · have HF := Lib.hid h1.1; have HF2 := Lib.hid h1.2
    by_cases h2 : 1 ≤ s ∧ s ≤ 32
    · have HS := Lib.hid h2.1; have HS2 := Lib.hid h2.2
      have HB := Lib.hid (show ¬ (1 ≤ b ∧ b ≤ 65536) from fun h3 => h ⟨⟨h1, h2⟩, h3⟩)
      clear h1 h2 h
      go_enter Try.func38, Try.ntmps38
      go_wp2_with fail
      refine (within_yes _ _ _ HF.out HF2.out _).mono ?_; rintro e w' ⟨rfl, rfl⟩
      go_wp2_with fail
      refine (within_yes _ _ _ HS.out HS2.out _).mono ?_; rintro e w' ⟨rfl, rfl⟩
      go_wp2_with fail
      refine (within_no _ _ _ HB.out _).mono ?_; rintro e w' ⟨rfl, rfl⟩
      go_wp2
      go_ret
      exact ⟨rfl, World.grownBy_alloc _ _ _⟩
    · have HS := Lib.hid h2
      clear h1 h2 h
      go_enter Try.func38, Try.ntmps38
      go_wp2_with fail
      refine (within_yes _ _ _ HF.out HF2.out _).mono ?_; rintro e w' ⟨rfl, rfl⟩
      go_wp2_with fail
      refine (within_no _ _ _ HS.out _).mono ?_; rintro e w' ⟨rfl, rfl⟩
      go_wp2
      go_ret
      exact ⟨rfl, World.grownBy_alloc _ _ _⟩
  · have HF := Lib.hid h1
    clear h1 h
    go_enter Try.func38, Try.ntmps38
    go_wp2_with fail
    refine (within_no _ _ _ HF.out _).mono ?_; rintro e w' ⟨rfl, rfl⟩
    go_wp2
    go_ret
    exact ⟨rfl, World.grownBy_alloc _ _ _⟩
theorem headed_yes (f s b : Int) (h : Hd f s b) (w : World) : Calls Try.prog 35 #[.agg #[.int .i64 f, .int .i64 s], .int .i64 b] w fun e w' => e = .returned (.bool true) ∧ w.grownBy w' none := by
  obtain ⟨⟨⟨h1, h2⟩, ⟨h3, h4⟩⟩, ⟨h5, h6⟩⟩ := h
  go_enter Try.func35, Try.ntmps35
  go_wp2
  go_ret
  exact ⟨rfl, World.grownBy_alloc _ _ _⟩
theorem headed_no (f s b : Int) (h : ¬ Hd f s b) (w : World) : Calls Try.prog 35 #[.agg #[.int .i64 f, .int .i64 s], .int .i64 b] w fun e w' => e = .returned (.bool false) ∧ w.grownBy w' none := by
  by_cases h1 : 1 ≤ f
  · by_cases h2 : f ≤ 32
    · by_cases h3 : 1 ≤ s
      · by_cases h4 : s ≤ 32
        · by_cases h5 : 1 ≤ b
          · have h6 : ¬ b ≤ 65536 := fun h6 => h ⟨⟨⟨h1, h2⟩, ⟨h3, h4⟩⟩, ⟨h5, h6⟩⟩
            clear h
            go_enter Try.func35, Try.ntmps35
            go_wp2
            go_ret
            exact ⟨rfl, World.grownBy_alloc _ _ _⟩
          · clear h
            go_enter Try.func35, Try.ntmps35
            go_wp2
            go_ret
            exact ⟨rfl, World.grownBy_alloc _ _ _⟩
        · clear h
          go_enter Try.func35, Try.ntmps35
          go_wp2
          go_ret
          exact ⟨rfl, World.grownBy_alloc _ _ _⟩
      · clear h
        go_enter Try.func35, Try.ntmps35
        go_wp2
        go_ret
        exact ⟨rfl, World.grownBy_alloc _ _ _⟩
    · clear h
      go_enter Try.func35, Try.ntmps35
      go_wp2
      go_ret
      exact ⟨rfl, World.grownBy_alloc _ _ _⟩
  · clear h
    go_enter Try.func35, Try.ntmps35
    go_wp2
    go_ret
    exact ⟨rfl, World.grownBy_alloc _ _ _⟩
theorem num_any (e : Int) (w : World) : Calls Try.prog 13 #[.int .i64 e] w fun x w' => x = .returned (.int .i64 e) ∧ w = w' := by
  go_enter Try.func13, Try.ntmps13
  go_wp2
  go_ret
  exact ⟨rfl, rfl⟩
theorem must_yes (e : Int) (w : World) : Calls Try.prog 33 #[.bool true, .int .i64 e] w fun x w' => (∃ v, x = .returned v) ∧ w = w' := by
  go_enter Try.func33, Try.ntmps33
  go_wp2
  go_end0
  exact ⟨⟨_, rfl⟩, rfl⟩
theorem must_no (e : Int) (w : World) : Calls Try.prog 33 #[.bool false, .int .i64 e] w fun x w' => x = .panicked [{ v := .iface 66 (.agg #[.int .i64 e]), recovered := false }] ∧ w = w' := by
  go_enter Try.func33, Try.ntmps33
  go_wp2
  exact ⟨rfl, rfl, rfl⟩
end Go.Proofs.Ytpoifobhbmhelaa
