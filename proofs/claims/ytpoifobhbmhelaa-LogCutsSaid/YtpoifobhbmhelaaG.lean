import Derived.Test.YtpoifobhbmhelaaF
set_option linter.unusedVariables false
set_option linter.unusedSimpArgs false
namespace Go.Proofs.Ytpoifobhbmhelaa
open Go.RowKit
theorem equal_any (a1 a2 : Option Addr) (n1 n2 cap1 cap2 : Nat) (l1 l2 : List UInt8) (w : World) (hn1 : n1 = l1.length) (hn2 : n2 = l2.length) (h1 : Go.Proofs.Ytpoifobhbmhelaa.Src w a1 l1) (h2 : Go.Proofs.Ytpoifobhbmhelaa.Src w a2 l2) :
    Calls Try.prog 42 #[.slice a1 n1 cap1, .slice a2 n2 cap2] w fun e w' => e = .returned (.bool (decide (l1 = l2))) ∧ w = w' := by
  have c1 := conv_srcn (c := cap1) hn1 h1
  have c2 := conv_srcn (c := cap2) hn2 h2
  have hd : (l1 == l2) = decide (l1 = l2) := by
    by_cases h : l1 = l2
    · rw [decide_eq_true h]; simpa using h
    · rw [decide_eq_false h]; simpa using h
  clear h1 h2 hn1 hn2
  obtain ⟨d, hdd⟩ : ∃ d, d = decide (l1 = l2) := ⟨_, rfl⟩
  rw [← hdd] at hd ⊢
  clear hdd
  go_enter Try.func42, Try.ntmps42
  go_wp2
  go_ret
  exact ⟨rfl, rfl⟩
theorem hasPrefix_any (a1 a2 : Option Addr) (n1 n2 cap1 cap2 : Nat) (l1 l2 : List UInt8) (w : World) (hn1 : n1 = l1.length) (hn2 : n2 = l2.length) (hc1 : n1 ≤ cap1) (h1 : Go.Proofs.Ytpoifobhbmhelaa.Src w a1 l1) (h2 : Go.Proofs.Ytpoifobhbmhelaa.Src w a2 l2) :
    Calls Try.prog 45 #[.slice a1 n1 cap1, .slice a2 n2 cap2] w fun e w' => e = .returned (.bool (decide (l1.take n2 = l2))) ∧ w = w' := by
  by_cases hle : n2 ≤ n1
  · have hle' : (n2 : Int) ≤ (n1 : Nat) := by omega
    have C := equal_any a1 a2 n2 n2 cap1 cap2 (l1.take n2) l2 w (by simp; omega) hn2 (by
      rcases h1 with rfl | ⟨b, o, ha, hc⟩
      · exact .inl (by simp)
      · exact .inr ⟨b, o, ha, fun j hj => by simp at hj; simpa using hc j (by omega)⟩) h2
    clear h1 h2 hn1 hn2
    have HC := Lib.hid hc1
    have HL := Lib.hid hle
    clear hc1 hle
    go_enter Try.func45, Try.ntmps45
    go_wp2_with (with_reducible refine hold_sl 23 _ _ _ _ rfl ?_)
    apply Lib.hid
    refine wpList_val (by rfl) (exec_sl_hi eB elemB (x := .tmp 11) (y := .tmp 13) rfl a1 n1 cap1 n2 (by rfl) (by rfl) (Nat.le_trans HL.out HC.out) _) ?_
    go_wp2_with fail
    refine C.mono ?_; rintro e w2 ⟨rfl, rfl⟩
    go_wp2
    go_ret
    exact ⟨rfl, rfl⟩
  · have hle' : ¬ (n2 : Int) ≤ (n1 : Nat) := by omega
    have HR := Lib.hid (show decide (l1.take n2 = l2) = false from by
      rw [decide_eq_false_iff_not]; intro e
      have := congrArg List.length e
      simp at this
      omega)
    rw [HR.out]
    clear h1 h2 hn1 hn2 hle hc1
    go_enter Try.func45, Try.ntmps45
    go_wp2
    go_ret
    exact ⟨rfl, rfl⟩
theorem cutPrefix_no (a1 a2 : Option Addr) (n1 n2 cap1 cap2 : Nat) (l1 l2 : List UInt8) (w : World) (hn1 : n1 = l1.length) (hn2 : n2 = l2.length) (hc1 : n1 ≤ cap1) (h1 : Go.Proofs.Ytpoifobhbmhelaa.Src w a1 l1) (h2 : Go.Proofs.Ytpoifobhbmhelaa.Src w a2 l2) (hne : l1.take n2 ≠ l2) :
    Calls Try.prog 32 #[.slice a1 n1 cap1, .slice a2 n2 cap2] w fun e w' => e = .returned (.tuple #[.slice a1 n1 cap1, .bool false]) ∧ w = w' := by
  have C := hasPrefix_any a1 a2 n1 n2 cap1 cap2 l1 l2 w hn1 hn2 hc1 h1 h2
  rw [decide_eq_false hne] at C
  clear h1 h2 hn1 hn2 hne hc1
  go_enter Try.func32, Try.ntmps32
  go_wp2_with fail
  refine C.mono ?_; rintro e w2 ⟨rfl, rfl⟩
  clear C
  go_wp2
  go_ret2
  exact ⟨rfl, rfl⟩
theorem cutPrefix_yes (a1 a2 : Option Addr) (n1 n2 cap1 cap2 : Nat) (l1 l2 : List UInt8) (w : World) (hn1 : n1 = l1.length) (hn2 : n2 = l2.length) (hc1 : n1 ≤ cap1) (h1 : Go.Proofs.Ytpoifobhbmhelaa.Src w a1 l1) (h2 : Go.Proofs.Ytpoifobhbmhelaa.Src w a2 l2) (hne : l1.take n2 = l2) :
    Calls Try.prog 32 #[.slice a1 n1 cap1, .slice a2 n2 cap2] w fun e w' => e = .returned (.tuple #[sliced a1 n2 n1 cap1 1, .bool true]) ∧ w = w' := by
  have C := hasPrefix_any a1 a2 n1 n2 cap1 cap2 l1 l2 w hn1 hn2 hc1 h1 h2
  rw [decide_eq_true hne] at C
  have HL := Lib.hid (show n2 ≤ n1 from by
    have := congrArg List.length hne
    simp at this
    omega)
  obtain ⟨v, hv⟩ : ∃ v, v = sliced a1 n2 n1 cap1 1 := ⟨_, rfl⟩
  have HV := Lib.hid hv
  rw [← hv]
  clear h1 h2 hn1 hn2 hne hc1 hv
  go_enter Try.func32, Try.ntmps32
  go_wp2_with fail
  refine C.mono ?_; rintro e w2 ⟨rfl, rfl⟩
  clear C
  go_wp2_with (with_reducible refine hold_sl 23 _ _ _ _ rfl ?_)
  apply Lib.hid
  refine wpList_val (by rfl) (exec_sl eB elemB (x := .tmp 11) (y := .tmp 13) rfl a1 n1 cap1 n2 (by rfl) (by rfl) HL.out _ v HV.out) ?_
  go_wp2
  go_ret2
  exact ⟨rfl, rfl⟩
theorem Gs.empty (w : World) : Gs eB (w.alloc (.cells #[] 5)) (.slice (some ⟨w.heap.size, 0, none⟩) 0 0) 0 [] :=
  ⟨by simp, by simp, .inr ⟨w.heap.size, 0, 0, [], rfl, Nat.le_refl _, Nat.zero_le _, heap_alloc_new w _, by simp, by simp⟩⟩
theorem clone_any (a : Option Addr) (n cap : Nat) (l : List UInt8) (w : World) (hn : n = l.length) (hs : Go.Proofs.Ytpoifobhbmhelaa.Src w a l) (hl : n ≤ 1000000) : Calls Try.prog 47 #[.slice a n cap] w fun e w' => ∃ v', e = .returned v' ∧ Gs eB w' v' n (bsV l) ∧ w.grownBy w' none ∧ (∀ k, rowOf v' = some k → w.heap.size ≤ k) := by
  have hone := bs_one l
  cases a with
  | none =>
    have he : (binOp .eql 23 (.slice none n cap) (.slice none 0 0)).run Try.prog w = .ok (.bool true) w := by kernel_rfl
    have hl0 : l = [] := by
      rcases hs with h | ⟨b, o, e, _⟩
      · exact h
      · cases e
    subst hl0
    simp at hn
    subst hn
    go_enter Try.func47, Try.ntmps47
    go_wp2
    go_ret
    exact ⟨_, rfl, Gs.nil eB _, World.grownBy.refl _ _, fun k h => by cases h⟩
  | some a =>
    have he : (binOp .eql 23 (.slice (some a) n cap) (.slice none 0 0)).run Try.prog w = .ok (.bool false) w := by kernel_rfl
    have HG := Gs.empty w
    have HS := src_gon (c := cap) hn (hs.keptNone (World.grownBy_alloc w (.cells #[] 5) none))
    have HA := Lib.hid (World.grownBy_alloc w (.cells #[] 5) none)
    clear hs hn
    go_enter Try.func47, Try.ntmps47
    go_wp2_with (at_builtin; refine wpList_gs eB rfl _ _ 23 rfl _ 0 n [] (bsV l) rfl rfl HG HS hone (by omega) ?_)
    intro v2 w2 hQ2 hg2 hr2
    have hQ3 : Gs eB w2 v2 n (bsV l) := by simpa using hQ2
    have HQ := Lib.hid hQ3
    have HG2 := Lib.hid (show w.grownBy w2 none from grown_new HA.out (show (w.alloc (.cells #[] 5)).grownBy w2 (some w.heap.size) from hg2) (Nat.le_refl _))
    have HR := Lib.hid (show ∀ k, rowOf v2 = some k → w.heap.size ≤ k from fun k hk => by
      rcases hr2 with h | h
      · rw [h] at hk; cases hk; exact Nat.le_refl _
      · rw [h] at hk; cases hk; simp)
    clear hQ2 hQ3 hg2 hr2 HS HG
    go_wp2
    go_ret
    exact ⟨v2, rfl, HQ.out, HG2.out, HR.out⟩
end Go.Proofs.Ytpoifobhbmhelaa
