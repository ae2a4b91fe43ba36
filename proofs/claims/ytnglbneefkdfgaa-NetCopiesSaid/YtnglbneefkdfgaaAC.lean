import Derived.Test.YtnglbneefkdfgaaAA
set_option linter.unusedVariables false
namespace Go.Proofs.Ytnglbneefkdfgaa
open Go.RowKit
theorem Src.at {w : World} {a : Option Addr} {l : List UInt8} (h : Go.Proofs.Ytnglbneefkdfgaa.Src w a l) (hne : l ≠ []) : ∃ g o, a = some ⟨g, o, none⟩ ∧ ∀ j (hj : j < l.length), w.cell? ⟨g, o + j, none⟩ = some (.int .u8 (l[j].toNat : Int)) := by
  rcases h with h | ⟨b, o, e, h⟩
  · exact absurd h hne
  · exact ⟨b, o, e, h⟩
set_option maxRecDepth 100000 in
set_option maxHeartbeats 4000000 in
theorem equal_any (a1 a2 : Option Addr) (n1 n2 cap1 cap2 : Nat) (l1 l2 : List UInt8) (w : World) (hn1 : n1 = l1.length) (hn2 : n2 = l2.length) (h1 : Go.Proofs.Ytnglbneefkdfgaa.Src w a1 l1) (h2 : Go.Proofs.Ytnglbneefkdfgaa.Src w a2 l2) (hm : n1 ≤ 1000000) :
    Calls Try.prog 42 #[.slice a1 n1 cap1, .slice a2 n2 cap2] w fun e w' => e = .returned (.bool (decide (l1 = l2))) ∧ w.grownBy w' none := by
  by_cases hne : n1 = n2
  rotate_left
  · have hd : decide (l1 = l2) = false := by
      rw [decide_eq_false_iff_not]; intro e; subst e; omega
    have hb : ((n1 : Int) == (n2 : Nat)) = false := by simp; omega
    have hb2 : ((n1 : Int) != (n2 : Nat)) = true := by simp; omega
    rw [hd]
    clear h1 h2 hd hne hn1 hn2
    go_enter Try.func42, Try.ntmps42
    go_wp2
    go_ret
    exact ⟨rfl, World.grownBy.refl _ _⟩
  subst hne
  obtain ⟨d, hdd⟩ : ∃ d, d = decide (l1 = l2) := ⟨_, rfl⟩
  rw [← hdd]
  have HDD := Lib.hid hdd
  have HN1 := Lib.hid hn1
  have HN2 := Lib.hid hn2
  have H1 := Lib.hid h1
  have H2 := Lib.hid h2
  clear hn1 hn2 h1 h2 hdd
  go_enter Try.func42, Try.ntmps42
  go_wp2
  go_loopw [13] (fun i wr => ∃ k : Nat, k ≤ n1 ∧ i = .int .i64 k ∧ l1.take k = l2.take k ∧ w.grownBy wr none) (fun i _ => n1 - (intOf i).toNat)
  case atStart => exact ⟨0, Nat.zero_le _, rfl, rfl, World.grownBy.refl _ _⟩
  case round =>
    obtain ⟨k, hk, rfl, hpf, hgr⟩ := hrel
    have HGr := Lib.hid hgr
    have HPF := Lib.hid hpf
    clear hpf hgr
    by_cases hlt : k < n1
    · have hl1 : k < l1.length := by have := HN1.out; omega
      have hl2 : k < l2.length := by have := HN2.out; omega
      obtain ⟨g1, o1, e1, hc1⟩ := H1.out.at (fun e => by rw [e] at hl1; simp at hl1)
      obtain ⟨g2, o2, e2, hc2⟩ := H2.out.at (fun e => by rw [e] at hl2; simp at hl2)
      subst e1 e2
      have HC1 := Lib.hid (keep_cell HGr.out (hc1 k hl1))
      have HC2 := Lib.hid (keep_cell HGr.out (hc2 k hl2))
      have hlt' : (k : Int) < (n1 : Nat) := by omega
      have hwk : IntKind.i64.wrap ((k : Int) + 1) = ((k + 1 : Nat) : Int) := by rw [IntKind.wrap_i64]; omega
      clear hc1 hc2
      by_cases he : l1[k]'hl1 = l2[k]'hl2
      · have HEQ := Lib.hid (show (((l1[k]'hl1).toNat : Int) != ((l2[k]'hl2).toNat : Int)) = false from by simp [he])
        have HPF2 := Lib.hid (take_eq_of_snoc hl1 hl2 HPF.out he)
        clear he
        generalize (l1[k]'hl1) = x1 at *
        generalize (l2[k]'hl2) = x2 at *
        go_wp2
        refine reg_open (none) (n := 9) rfl (by kernel_rfl) ?_
        refine reg_take 0 (some 16) (v := ?_) rfl rfl (by kernel_rfl) (by kernel_rfl) (by kernel_rfl) (fun _ _ _ h => h) (by rfl) ?_ ?_
        rotate_left
        · intro W hW; go_simp; first | done | with_reducible rfl
        try simp only [Act.put, List.setIfInBounds_toArray, List.set_cons_zero, List.set_cons_succ]
        refine reg_take 1 (some 17) (v := ?_) rfl rfl (by kernel_rfl) (by kernel_rfl) (by kernel_rfl) (fun _ _ _ h => h) (by rfl) ?_ ?_
        rotate_left
        · intro W hW; go_simp; first | done | with_reducible rfl
        try simp only [Act.put, List.setIfInBounds_toArray, List.set_cons_zero, List.set_cons_succ]
        refine reg_take 2 (some 18) (v := ?_) rfl rfl (by kernel_rfl) (by kernel_rfl) (by kernel_rfl) (fun _ _ _ h => h) (by rfl) ?_ ?_
        rotate_left
        · intro W hW; go_simp; first | done | with_reducible rfl
        try simp only [Act.put, List.setIfInBounds_toArray, List.set_cons_zero, List.set_cons_succ]
        refine reg_take 3 (some 19) (v := ?_) rfl rfl (by kernel_rfl) (by kernel_rfl) (by kernel_rfl) (fun _ _ _ h => h) (by rfl) ?_ ?_
        rotate_left
        · intro W hW; have k1 := keep_cell (drewl hW) HC1.out; go_simp; first | done | with_reducible rfl
        try simp only [Act.put, List.setIfInBounds_toArray, List.set_cons_zero, List.set_cons_succ]
        refine reg_take 4 (some 20) (v := ?_) rfl rfl (by kernel_rfl) (by kernel_rfl) (by kernel_rfl) (fun _ _ _ h => h) (by rfl) ?_ ?_
        rotate_left
        · intro W hW; go_simp; first | done | with_reducible rfl
        try simp only [Act.put, List.setIfInBounds_toArray, List.set_cons_zero, List.set_cons_succ]
        refine reg_take 5 (some 21) (v := ?_) rfl rfl (by kernel_rfl) (by kernel_rfl) (by kernel_rfl) (fun _ _ _ h => h) (by rfl) ?_ ?_
        rotate_left
        · intro W hW; go_simp; first | done | with_reducible rfl
        try simp only [Act.put, List.setIfInBounds_toArray, List.set_cons_zero, List.set_cons_succ]
        refine reg_take 6 (some 22) (v := ?_) rfl rfl (by kernel_rfl) (by kernel_rfl) (by kernel_rfl) (fun _ _ _ h => h) (by rfl) ?_ ?_
        rotate_left
        · intro W hW; go_simp; first | done | with_reducible rfl
        try simp only [Act.put, List.setIfInBounds_toArray, List.set_cons_zero, List.set_cons_succ]
        refine reg_take 7 (some 23) (v := ?_) rfl rfl (by kernel_rfl) (by kernel_rfl) (by kernel_rfl) (fun _ _ _ h => h) (by rfl) ?_ ?_
        rotate_left
        · intro W hW; have k1 := keep_cell (drewl hW) HC2.out; go_simp; first | done | with_reducible rfl
        try simp only [Act.put, List.setIfInBounds_toArray, List.set_cons_zero, List.set_cons_succ]
        refine reg_take 8 (some 24) (v := ?_) rfl rfl (by kernel_rfl) (by kernel_rfl) (by kernel_rfl) (fun _ _ _ h => h) (by rfl) ?_ ?_
        rotate_left
        · intro W hW; have k3 := HEQ.out; go_simp; first | done | with_reducible rfl
        try simp only [Act.put, List.setIfInBounds_toArray, List.set_cons_zero, List.set_cons_succ]
        refine wpAnyH_done (by kernel_rfl) ?_ _
        have HG := Lib.hid (HGr.out.trans (drewl (World.grownBy.refl _ _)))
        go_wp2
        go_roundw
        case rel => exact ⟨k + 1, by omega, rfl, HPF2.out, HG.out⟩
        case measure => simp [intOf]; omega
      · have HEQ := Lib.hid (show (((l1[k]'hl1).toNat : Int) != ((l2[k]'hl2).toNat : Int)) = true from by
          simp only [bne_iff_ne, ne_eq]
          intro e
          exact he (UInt8.toNat_inj.1 (by omega)))
        have HD := Lib.hid (show d = false from by
          rw [HDD.out, decide_eq_false_iff_not]; intro e; subst e; exact he rfl)
        clear he
        generalize (l1[k]'hl1) = x1 at *
        generalize (l2[k]'hl2) = x2 at *
        go_wp2
        refine reg_open (none) (n := 9) rfl (by kernel_rfl) ?_
        refine reg_take 0 (some 16) (v := ?_) rfl rfl (by kernel_rfl) (by kernel_rfl) (by kernel_rfl) (fun _ _ _ h => h) (by rfl) ?_ ?_
        rotate_left
        · intro W hW; go_simp; first | done | with_reducible rfl
        try simp only [Act.put, List.setIfInBounds_toArray, List.set_cons_zero, List.set_cons_succ]
        refine reg_take 1 (some 17) (v := ?_) rfl rfl (by kernel_rfl) (by kernel_rfl) (by kernel_rfl) (fun _ _ _ h => h) (by rfl) ?_ ?_
        rotate_left
        · intro W hW; go_simp; first | done | with_reducible rfl
        try simp only [Act.put, List.setIfInBounds_toArray, List.set_cons_zero, List.set_cons_succ]
        refine reg_take 2 (some 18) (v := ?_) rfl rfl (by kernel_rfl) (by kernel_rfl) (by kernel_rfl) (fun _ _ _ h => h) (by rfl) ?_ ?_
        rotate_left
        · intro W hW; go_simp; first | done | with_reducible rfl
        try simp only [Act.put, List.setIfInBounds_toArray, List.set_cons_zero, List.set_cons_succ]
        refine reg_take 3 (some 19) (v := ?_) rfl rfl (by kernel_rfl) (by kernel_rfl) (by kernel_rfl) (fun _ _ _ h => h) (by rfl) ?_ ?_
        rotate_left
        · intro W hW; have k1 := keep_cell (drewl hW) HC1.out; go_simp; first | done | with_reducible rfl
        try simp only [Act.put, List.setIfInBounds_toArray, List.set_cons_zero, List.set_cons_succ]
        refine reg_take 4 (some 20) (v := ?_) rfl rfl (by kernel_rfl) (by kernel_rfl) (by kernel_rfl) (fun _ _ _ h => h) (by rfl) ?_ ?_
        rotate_left
        · intro W hW; go_simp; first | done | with_reducible rfl
        try simp only [Act.put, List.setIfInBounds_toArray, List.set_cons_zero, List.set_cons_succ]
        refine reg_take 5 (some 21) (v := ?_) rfl rfl (by kernel_rfl) (by kernel_rfl) (by kernel_rfl) (fun _ _ _ h => h) (by rfl) ?_ ?_
        rotate_left
        · intro W hW; go_simp; first | done | with_reducible rfl
        try simp only [Act.put, List.setIfInBounds_toArray, List.set_cons_zero, List.set_cons_succ]
        refine reg_take 6 (some 22) (v := ?_) rfl rfl (by kernel_rfl) (by kernel_rfl) (by kernel_rfl) (fun _ _ _ h => h) (by rfl) ?_ ?_
        rotate_left
        · intro W hW; go_simp; first | done | with_reducible rfl
        try simp only [Act.put, List.setIfInBounds_toArray, List.set_cons_zero, List.set_cons_succ]
        refine reg_take 7 (some 23) (v := ?_) rfl rfl (by kernel_rfl) (by kernel_rfl) (by kernel_rfl) (fun _ _ _ h => h) (by rfl) ?_ ?_
        rotate_left
        · intro W hW; have k1 := keep_cell (drewl hW) HC2.out; go_simp; first | done | with_reducible rfl
        try simp only [Act.put, List.setIfInBounds_toArray, List.set_cons_zero, List.set_cons_succ]
        refine reg_take 8 (some 24) (v := ?_) rfl rfl (by kernel_rfl) (by kernel_rfl) (by kernel_rfl) (fun _ _ _ h => h) (by rfl) ?_ ?_
        rotate_left
        · intro W hW; have k3 := HEQ.out; go_simp; first | done | with_reducible rfl
        try simp only [Act.put, List.setIfInBounds_toArray, List.set_cons_zero, List.set_cons_succ]
        refine wpAnyH_done (by kernel_rfl) ?_ _
        have HG := Lib.hid (HGr.out.trans (drewl (World.grownBy.refl _ _)))
        go_wp2
        go_ret
        exact ⟨congrArg (fun b => Ending.returned (.bool b)) HD.out.symm, HG.out⟩
    · have hkn : k = n1 := by omega
      have HD := Lib.hid (show d = true from by
        rw [HDD.out]
        have h := HPF.out
        rw [List.take_of_length_le (by have := HN1.out; omega), List.take_of_length_le (by have := HN2.out; omega)] at h
        simp [h])
      have hlt' : ¬ (k : Int) < (n1 : Nat) := by omega
      clear hkn
      go_wp2
      go_ret
      exact ⟨congrArg (fun b => Ending.returned (.bool b)) HD.out.symm, HGr.out⟩
set_option maxRecDepth 100000 in
set_option maxHeartbeats 4000000 in
theorem eqf_any (a1 a2 : Option Addr) (n1 n2 cap1 cap2 : Nat) (vs1 vs2 : List Value) (ls1 ls2 : List (List UInt8)) (w : World) (hn1 : n1 = ls1.length) (hn2 : n2 = ls2.length) (h1 : Gs eL w (.slice a1 n1 cap1) n1 vs1) (b1 : RB w vs1 ls1) (h2 : Gs eL w (.slice a2 n2 cap2) n2 vs2) (b2 : RB w vs2 ls2) (hm : n1 ≤ 1000000) (hle : ∀ x ∈ ls1, x.length ≤ 1000000) :
    Calls Try.prog 41 #[.slice a1 n1 cap1, .slice a2 n2 cap2, .func (.func 42) #[] #[]] w fun e w' => e = .returned (.bool (decide (ls1 = ls2))) ∧ w.grownBy w' none := by
  by_cases hne : n1 = n2
  rotate_left
  · have hd : decide (ls1 = ls2) = false := by
      rw [decide_eq_false_iff_not]; intro e; subst e; omega
    have hb : ((n1 : Int) == (n2 : Nat)) = false := by simp; omega
    have hb2 : ((n1 : Int) != (n2 : Nat)) = true := by simp; omega
    rw [hd]
    clear h1 h2 b1 b2 hd hne hn1 hn2
    go_enter Try.func41, Try.ntmps41
    go_wp2
    go_ret
    exact ⟨rfl, World.grownBy.refl _ _⟩
  subst hne
  obtain ⟨d, hdd⟩ : ∃ d, d = decide (ls1 = ls2) := ⟨_, rfl⟩
  rw [← hdd]
  have HDD := Lib.hid hdd
  have HN1 := Lib.hid hn1
  have HN2 := Lib.hid hn2
  have H1 := Lib.hid h1
  have H2 := Lib.hid h2
  have B1 := Lib.hid b1
  have B2 := Lib.hid b2
  have HLE := Lib.hid hle
  clear hn1 hn2 h1 h2 b1 b2 hdd hle
  go_enter Try.func41, Try.ntmps41
  go_wp2
  go_loopw [17] (fun i wr => ∃ k : Nat, k ≤ n1 ∧ i = .int .i64 k ∧ ls1.take k = ls2.take k ∧ w.grownBy wr none) (fun i _ => n1 - (intOf i).toNat)
  case atStart => exact ⟨0, Nat.zero_le _, rfl, rfl, World.grownBy.refl _ _⟩
  case round =>
    obtain ⟨k, hk, rfl, hpf, hgr⟩ := hrel
    have HGr := Lib.hid hgr
    have HPF := Lib.hid hpf
    clear hpf hgr
    by_cases hlt : k < n1
    · have hl1 : k < ls1.length := by have := HN1.out; omega
      have hl2 : k < ls2.length := by have := HN2.out; omega
      obtain ⟨g1, o1, rfl⟩ := H1.out.some_of (by omega)
      obtain ⟨g2, o2, rfl⟩ := H2.out.some_of (by omega)
      obtain ⟨v1, e1, i1⟩ := B1.out.2 k hl1
      obtain ⟨va1, vc1, rfl, s1, _⟩ := i1
      obtain ⟨v2, e2, i2⟩ := B2.out.2 k hl2
      obtain ⟨va2, vc2, rfl, s2, _⟩ := i2
      have c1 := (H1.out.keptNone HGr.out).cell k _ e1
      have c2 := (H2.out.keptNone HGr.out).cell k _ e2
      have HS1 := Lib.hid (s1.keptNone HGr.out)
      have HS2 := Lib.hid (s2.keptNone HGr.out)
      have hlt' : (k : Int) < (n1 : Nat) := by omega
      have hwk : IntKind.i64.wrap ((k : Int) + 1) = ((k + 1 : Nat) : Int) := by rw [IntKind.wrap_i64]; omega
      have hx := HLE.out _ (List.getElem_mem hl1)
      have C := equal_any va1 va2 (ls1[k]'hl1).length (ls2[k]'hl2).length vc1 vc2 (ls1[k]'hl1) (ls2[k]'hl2) wr rfl rfl HS1.out HS2.out hx
      clear e1 e2 s1 s2 hx
      by_cases he : ls1[k]'hl1 = ls2[k]'hl2
      · have HPF2 := Lib.hid (take_eq_of_snoc hl1 hl2 HPF.out he)
        rw [show decide (ls1[k]'hl1 = ls2[k]'hl2) = true from by simpa using he] at C
        clear he
        generalize (ls1[k]'hl1).length = x1 at *
        generalize (ls2[k]'hl2).length = x2 at *
        go_wp2_with fail
        refine C.mono ?_; rintro e w2 ⟨rfl, h2⟩
        have HG := Lib.hid (HGr.out.trans h2)
        clear h2 C c1 c2
        go_wp2
        go_roundw
        case rel => exact ⟨k + 1, by omega, rfl, HPF2.out, HG.out⟩
        case measure => simp [intOf]; omega
      · have HD := Lib.hid (show d = false from by
          rw [HDD.out, decide_eq_false_iff_not]; intro e; subst e; exact he rfl)
        rw [show decide (ls1[k]'hl1 = ls2[k]'hl2) = false from by simpa using he] at C
        clear he
        generalize (ls1[k]'hl1).length = x1 at *
        generalize (ls2[k]'hl2).length = x2 at *
        go_wp2_with fail
        refine C.mono ?_; rintro e w2 ⟨rfl, h2⟩
        have HG := Lib.hid (HGr.out.trans h2)
        clear h2 C c1 c2
        go_wp2
        go_ret
        exact ⟨congrArg (fun b => Ending.returned (.bool b)) HD.out.symm, HG.out⟩
    · have hkn : k = n1 := by omega
      have HD := Lib.hid (show d = true from by
        rw [HDD.out]
        have h := HPF.out
        rw [List.take_of_length_le (by have := HN1.out; omega), List.take_of_length_le (by have := HN2.out; omega)] at h
        simp [h])
      have hlt' : ¬ (k : Int) < (n1 : Nat) := by omega
      clear hkn
      go_wp2
      go_ret
      exact ⟨congrArg (fun b => Ending.returned (.bool b)) HD.out.symm, HGr.out⟩
theorem like_any (a1 a2 : Option Addr) (n1 n2 cap1 cap2 : Nat) (vs1 vs2 : List Value) (ls1 ls2 : List (List UInt8)) (w : World) (hn1 : n1 = ls1.length) (hn2 : n2 = ls2.length) (h1 : Gs eL w (.slice a1 n1 cap1) n1 vs1) (b1 : RB w vs1 ls1) (h2 : Gs eL w (.slice a2 n2 cap2) n2 vs2) (b2 : RB w vs2 ls2) (hm : n1 ≤ 1000000) (hle : ∀ x ∈ ls1, x.length ≤ 1000000) :
    Calls Try.prog 40 #[.slice a1 n1 cap1, .slice a2 n2 cap2] w fun e w' => e = .returned (.bool (decide (ls1 = ls2))) ∧ w.grownBy w' none := by
  have C := eqf_any a1 a2 n1 n2 cap1 cap2 vs1 vs2 ls1 ls2 w hn1 hn2 h1 b1 h2 b2 hm hle
  generalize decide (ls1 = ls2) = d at *
  clear hn1 hn2 h1 b1 h2 b2 hle
  go_enter Try.func40, Try.ntmps40
  go_wp2_with fail
  refine C.mono ?_; rintro e w2 ⟨rfl, h2⟩
  have HG := Lib.hid h2
  clear h2 C
  go_wp2
  go_ret
  exact ⟨rfl, HG.out⟩
end Go.Proofs.Ytnglbneefkdfgaa
