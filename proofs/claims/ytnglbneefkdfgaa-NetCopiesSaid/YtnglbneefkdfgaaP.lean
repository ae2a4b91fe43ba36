import Derived.Test.YtnglbneefkdfgaaO
set_option linter.unusedVariables false
namespace Go.Proofs.Ytnglbneefkdfgaa
open Go.RowKit
theorem conv_src {w : World} {a : Option Addr} {c : Nat} {l : List UInt8} (h : Go.Proofs.Ytnglbneefkdfgaa.Src w a l) : (convert 22 9 (.slice a l.length c)).run Try.prog w = .ok (.string ⟨l.toArray⟩) w := by
  cases a with
  | some a =>
    refine run_convert_bytes_back (P := Try.prog) w 22 9 5 a c l Try.underlying22 Try.underlying5 Try.underlying9 ?_
    intro j hj
    rcases h with rfl | ⟨g, o, h0, h⟩
    · simp at hj
    · cases h0
      rw [Addr.add_lit]
      exact h j hj
  | none =>
    obtain rfl : l = [] := by
      rcases h with h | ⟨g, o, h0, _⟩
      · exact h
      · cases h0
    exact run_convert_bytes_nil (P := Try.prog) w 22 5 Try.underlying22 Try.underlying5 0 c 9 Try.underlying9
theorem ba_ne (l m : List UInt8) : ((⟨l.toArray⟩ : ByteArray) == ⟨m.toArray⟩) = decide (l = m) := by
  have h : ((⟨l.toArray⟩ : ByteArray) == ⟨m.toArray⟩) = (l.toArray == m.toArray) := rfl
  rw [h]
  by_cases h : l = m
  · subst h; simp
  · simp [h]
/-- Lists of bytes that can be read. -/
abbrev RB (w : World) (vs : List Value) (ls : List (List UInt8)) : Prop := BL (fun _ => False) w vs ls
theorem RB.kept {w w' : World} {vs : List Value} {ls : List (List UInt8)} (h : RB w vs ls) (hg : w.grownBy w' none) : RB w' vs ls := h.keeps (X := fun _ => False) (Keeps.keep hg) (fun _ _ h => h)
theorem CV.rb {S : Nat} {w : World} {vs : List Value} {ls : List (List UInt8)} (h : CV S w vs ls) : RB w vs ls :=
  ⟨h.1, fun j hj => by
    obtain ⟨u, h1, h2, _⟩ := h.2 j hj
    obtain ⟨a, c, rfl, _⟩ := h2.shape
    exact ⟨_, h1, a, c, rfl, h2.toSrc, fun _ _ _ _ h => h⟩⟩
theorem take_eq_of_snoc {α : Type} {l m : List α} {k : Nat} (h : k < l.length) (h' : k < m.length) (hp : l.take k = m.take k) (he : l[k]'h = m[k]'h') : l.take (k + 1) = m.take (k + 1) := by
  rw [List.take_succ_eq_append_getElem h, List.take_succ_eq_append_getElem h', hp, he]
set_option maxRecDepth 100000 in
set_option maxHeartbeats 4000000 in
theorem same_lists (a1 a2 : Option Addr) (n1 n2 cap1 cap2 : Nat) (vs1 vs2 : List Value) (ls1 ls2 : List (List UInt8)) (w : World) (hn1 : n1 = ls1.length) (hn2 : n2 = ls2.length) (h1 : Gs eL w (.slice a1 n1 cap1) n1 vs1) (b1 : RB w vs1 ls1) (h2 : Gs eL w (.slice a2 n2 cap2) n2 vs2) (b2 : RB w vs2 ls2) (hm : n1 ≤ 1000000) :
    Calls Try.prog 36 #[.slice a1 n1 cap1, .slice a2 n2 cap2] w fun e w' => e = .returned (.bool (decide (ls1 = ls2))) ∧ w.grownBy w' none := by
  by_cases hne : n1 = n2
  rotate_left
  · have hd : decide (ls1 = ls2) = false := by
      rw [decide_eq_false_iff_not]; intro e; subst e; omega
    have hb : ((n1 : Int) == (n2 : Nat)) = false := by simp; omega
    have hb2 : ((n1 : Int) != (n2 : Nat)) = true := by simp; omega
    rw [hd]
    clear h1 h2 b1 b2 hd hne hn1 hn2
    go_enter Try.func36, Try.ntmps36
    go_wp2
    go_ret
    exact ⟨rfl, World.grownBy.refl _ _⟩
  subst hne
  obtain ⟨d, hdd⟩ : ∃ d, d = decide (ls1 = ls2) := ⟨_, rfl⟩
  rw [← hdd]
  have HDD := Lib.hid hdd
  clear hdd
  have HN1 := Lib.hid hn1
  have HN2 := Lib.hid hn2
  have H1 := Lib.hid h1
  have H2 := Lib.hid h2
  have B1 := Lib.hid b1
  have B2 := Lib.hid b2
  clear hn1 hn2 h1 h2 b1 b2
  go_enter Try.func36, Try.ntmps36
  go_wp2
  go_loopw [5] (fun i wr => ∃ k : Nat, k ≤ n1 ∧ i = .int .i64 k ∧ ls1.take k = ls2.take k ∧ w.grownBy wr none) (fun i _ => n1 - (intOf i).toNat)
  case atStart => exact ⟨0, Nat.zero_le _, rfl, rfl, World.grownBy.refl _ _⟩
  case round =>
    obtain ⟨k, hk, rfl, hpf, hgr⟩ := hrel
    have HGr := Lib.hid hgr
    have HPF := Lib.hid hpf
    clear hpf hgr
    by_cases hlt : k < n1
    · have hl1 : k < ls1.length := by have := HN1.out; omega
      have hl2 : k < ls2.length := by have := HN2.out; omega
      obtain ⟨g1, o1, rfl⟩ := H1.out.some_of (by omega)
      obtain ⟨g2, o2, rfl⟩ := H2.out.some_of (by omega)
      obtain ⟨v1, e1, i1⟩ := B1.out.2 k hl1
      obtain ⟨va1, vc1, rfl, s1, _⟩ := i1
      obtain ⟨v2, e2, i2⟩ := B2.out.2 k hl2
      obtain ⟨va2, vc2, rfl, s2, _⟩ := i2
      have HC1 := Lib.hid ((H1.out.keptNone HGr.out).cell k _ e1)
      have HC2 := Lib.hid ((H2.out.keptNone HGr.out).cell k _ e2)
      have HS1 := Lib.hid (s1.keptNone HGr.out)
      have HS2 := Lib.hid (s2.keptNone HGr.out)
      have hlt' : (k : Int) < (n1 : Nat) := by omega
      have hwk : IntKind.i64.wrap ((k : Int) + 1) = ((k + 1 : Nat) : Int) := by rw [IntKind.wrap_i64]; omega
      clear e1 e2 s1 s2
      by_cases he : ls1[k]'hl1 = ls2[k]'hl2
      · have HEQ := Lib.hid (show ((ls1[k]'hl1) == (ls2[k]'hl2)) = true from by simp [he])
        have HPF2 := Lib.hid (take_eq_of_snoc hl1 hl2 HPF.out he)
        clear he
        go_wp2
        refine reg_open (none) (n := 11) rfl (by kernel_rfl) ?_
        refine reg_take 0 (some 17) (v := ?_) rfl rfl (by kernel_rfl) (by kernel_rfl) (by kernel_rfl) (fun _ _ _ h => h) (by rfl) ?_ ?_
        rotate_left
        · intro W hW; go_simp; first | done | with_reducible rfl
        try simp only [Act.put, List.setIfInBounds_toArray, List.set_cons_zero, List.set_cons_succ]
        refine reg_take 1 (some 18) (v := ?_) rfl rfl (by kernel_rfl) (by kernel_rfl) (by kernel_rfl) (fun _ _ _ h => h) (by rfl) ?_ ?_
        rotate_left
        · intro W hW; go_simp; first | done | with_reducible rfl
        try simp only [Act.put, List.setIfInBounds_toArray, List.set_cons_zero, List.set_cons_succ]
        refine reg_take 2 (some 19) (v := ?_) rfl rfl (by kernel_rfl) (by kernel_rfl) (by kernel_rfl) (fun _ _ _ h => h) (by rfl) ?_ ?_
        rotate_left
        · intro W hW; go_simp; first | done | with_reducible rfl
        try simp only [Act.put, List.setIfInBounds_toArray, List.set_cons_zero, List.set_cons_succ]
        refine reg_take 3 (some 20) (v := ?_) rfl rfl (by kernel_rfl) (by kernel_rfl) (by kernel_rfl) (fun _ _ _ h => h) (by rfl) ?_ ?_
        rotate_left
        · intro W hW; have k1 := keep_cell (drewl hW) HC1.out; go_simp; first | done | with_reducible rfl
        try simp only [Act.put, List.setIfInBounds_toArray, List.set_cons_zero, List.set_cons_succ]
        refine reg_take 4 (some 21) (v := ?_) rfl rfl (by kernel_rfl) (by kernel_rfl) (by kernel_rfl) (fun _ _ _ h => h) (by rfl) ?_ ?_
        rotate_left
        · intro W hW; have k2 := conv_src (c := vc1) (HS1.out.keptNone (drewl hW)); go_simp; first | done | with_reducible rfl
        try simp only [Act.put, List.setIfInBounds_toArray, List.set_cons_zero, List.set_cons_succ]
        refine reg_take 5 (some 22) (v := ?_) rfl rfl (by kernel_rfl) (by kernel_rfl) (by kernel_rfl) (fun _ _ _ h => h) (by rfl) ?_ ?_
        rotate_left
        · intro W hW; go_simp; first | done | with_reducible rfl
        try simp only [Act.put, List.setIfInBounds_toArray, List.set_cons_zero, List.set_cons_succ]
        refine reg_take 6 (some 23) (v := ?_) rfl rfl (by kernel_rfl) (by kernel_rfl) (by kernel_rfl) (fun _ _ _ h => h) (by rfl) ?_ ?_
        rotate_left
        · intro W hW; go_simp; first | done | with_reducible rfl
        try simp only [Act.put, List.setIfInBounds_toArray, List.set_cons_zero, List.set_cons_succ]
        refine reg_take 7 (some 24) (v := ?_) rfl rfl (by kernel_rfl) (by kernel_rfl) (by kernel_rfl) (fun _ _ _ h => h) (by rfl) ?_ ?_
        rotate_left
        · intro W hW; go_simp; first | done | with_reducible rfl
        try simp only [Act.put, List.setIfInBounds_toArray, List.set_cons_zero, List.set_cons_succ]
        refine reg_take 8 (some 25) (v := ?_) rfl rfl (by kernel_rfl) (by kernel_rfl) (by kernel_rfl) (fun _ _ _ h => h) (by rfl) ?_ ?_
        rotate_left
        · intro W hW; have k1 := keep_cell (drewl hW) HC2.out; go_simp; first | done | with_reducible rfl
        try simp only [Act.put, List.setIfInBounds_toArray, List.set_cons_zero, List.set_cons_succ]
        refine reg_take 9 (some 26) (v := ?_) rfl rfl (by kernel_rfl) (by kernel_rfl) (by kernel_rfl) (fun _ _ _ h => h) (by rfl) ?_ ?_
        rotate_left
        · intro W hW; have k2 := conv_src (c := vc2) (HS2.out.keptNone (drewl hW)); go_simp; first | done | with_reducible rfl
        try simp only [Act.put, List.setIfInBounds_toArray, List.set_cons_zero, List.set_cons_succ]
        refine reg_take 10 (some 27) (v := ?_) rfl rfl (by kernel_rfl) (by kernel_rfl) (by kernel_rfl) (fun _ _ _ h => h) (by rfl) ?_ ?_
        rotate_left
        · intro W hW; have k3 := HEQ.out; go_simp; first | done | with_reducible rfl
        try simp only [Act.put, List.setIfInBounds_toArray, List.set_cons_zero, List.set_cons_succ]
        refine wpAnyH_done (by kernel_rfl) ?_ _
        have HG := Lib.hid (HGr.out.trans (drewl (World.grownBy.refl _ _)))
        go_wp2
        go_roundw
        case rel => exact ⟨k + 1, by omega, rfl, HPF2.out, HG.out⟩
        case measure => simp [intOf]; omega
      · have HEQ := Lib.hid (show ((ls1[k]'hl1) == (ls2[k]'hl2)) = false from by simp [he])
        have HD := Lib.hid (show d = false from by
          rw [HDD.out, decide_eq_false_iff_not]; intro e; subst e; exact he rfl)
        clear he
        go_wp2
        refine reg_open (none) (n := 11) rfl (by kernel_rfl) ?_
        refine reg_take 0 (some 17) (v := ?_) rfl rfl (by kernel_rfl) (by kernel_rfl) (by kernel_rfl) (fun _ _ _ h => h) (by rfl) ?_ ?_
        rotate_left
        · intro W hW; go_simp; first | done | with_reducible rfl
        try simp only [Act.put, List.setIfInBounds_toArray, List.set_cons_zero, List.set_cons_succ]
        refine reg_take 1 (some 18) (v := ?_) rfl rfl (by kernel_rfl) (by kernel_rfl) (by kernel_rfl) (fun _ _ _ h => h) (by rfl) ?_ ?_
        rotate_left
        · intro W hW; go_simp; first | done | with_reducible rfl
        try simp only [Act.put, List.setIfInBounds_toArray, List.set_cons_zero, List.set_cons_succ]
        refine reg_take 2 (some 19) (v := ?_) rfl rfl (by kernel_rfl) (by kernel_rfl) (by kernel_rfl) (fun _ _ _ h => h) (by rfl) ?_ ?_
        rotate_left
        · intro W hW; go_simp; first | done | with_reducible rfl
        try simp only [Act.put, List.setIfInBounds_toArray, List.set_cons_zero, List.set_cons_succ]
        refine reg_take 3 (some 20) (v := ?_) rfl rfl (by kernel_rfl) (by kernel_rfl) (by kernel_rfl) (fun _ _ _ h => h) (by rfl) ?_ ?_
        rotate_left
        · intro W hW; have k1 := keep_cell (drewl hW) HC1.out; go_simp; first | done | with_reducible rfl
        try simp only [Act.put, List.setIfInBounds_toArray, List.set_cons_zero, List.set_cons_succ]
        refine reg_take 4 (some 21) (v := ?_) rfl rfl (by kernel_rfl) (by kernel_rfl) (by kernel_rfl) (fun _ _ _ h => h) (by rfl) ?_ ?_
        rotate_left
        · intro W hW; have k2 := conv_src (c := vc1) (HS1.out.keptNone (drewl hW)); go_simp; first | done | with_reducible rfl
        try simp only [Act.put, List.setIfInBounds_toArray, List.set_cons_zero, List.set_cons_succ]
        refine reg_take 5 (some 22) (v := ?_) rfl rfl (by kernel_rfl) (by kernel_rfl) (by kernel_rfl) (fun _ _ _ h => h) (by rfl) ?_ ?_
        rotate_left
        · intro W hW; go_simp; first | done | with_reducible rfl
        try simp only [Act.put, List.setIfInBounds_toArray, List.set_cons_zero, List.set_cons_succ]
        refine reg_take 6 (some 23) (v := ?_) rfl rfl (by kernel_rfl) (by kernel_rfl) (by kernel_rfl) (fun _ _ _ h => h) (by rfl) ?_ ?_
        rotate_left
        · intro W hW; go_simp; first | done | with_reducible rfl
        try simp only [Act.put, List.setIfInBounds_toArray, List.set_cons_zero, List.set_cons_succ]
        refine reg_take 7 (some 24) (v := ?_) rfl rfl (by kernel_rfl) (by kernel_rfl) (by kernel_rfl) (fun _ _ _ h => h) (by rfl) ?_ ?_
        rotate_left
        · intro W hW; go_simp; first | done | with_reducible rfl
        try simp only [Act.put, List.setIfInBounds_toArray, List.set_cons_zero, List.set_cons_succ]
        refine reg_take 8 (some 25) (v := ?_) rfl rfl (by kernel_rfl) (by kernel_rfl) (by kernel_rfl) (fun _ _ _ h => h) (by rfl) ?_ ?_
        rotate_left
        · intro W hW; have k1 := keep_cell (drewl hW) HC2.out; go_simp; first | done | with_reducible rfl
        try simp only [Act.put, List.setIfInBounds_toArray, List.set_cons_zero, List.set_cons_succ]
        refine reg_take 9 (some 26) (v := ?_) rfl rfl (by kernel_rfl) (by kernel_rfl) (by kernel_rfl) (fun _ _ _ h => h) (by rfl) ?_ ?_
        rotate_left
        · intro W hW; have k2 := conv_src (c := vc2) (HS2.out.keptNone (drewl hW)); go_simp; first | done | with_reducible rfl
        try simp only [Act.put, List.setIfInBounds_toArray, List.set_cons_zero, List.set_cons_succ]
        refine reg_take 10 (some 27) (v := ?_) rfl rfl (by kernel_rfl) (by kernel_rfl) (by kernel_rfl) (fun _ _ _ h => h) (by rfl) ?_ ?_
        rotate_left
        · intro W hW; have k3 := HEQ.out; go_simp; first | done | with_reducible rfl
        try simp only [Act.put, List.setIfInBounds_toArray, List.set_cons_zero, List.set_cons_succ]
        refine wpAnyH_done (by kernel_rfl) ?_ _
        have HG := Lib.hid (HGr.out.trans (drewl (World.grownBy.refl _ _)))
        go_wp2
        go_ret
        exact ⟨congrArg (fun b => Ending.returned (.bool b)) HD.out.symm, HG.out⟩
    · have hkn : k = n1 := by omega
      have HD := Lib.hid (show d = true from by
        rw [HDD.out]
        have h := HPF.out
        rw [List.take_of_length_le (by have := HN1.out; omega), List.take_of_length_le (by have := HN2.out; omega)] at h
        simp [h])
      have hlt' : ¬ (k : Int) < (n1 : Nat) := by omega
      clear hkn
      go_wp2
      go_ret
      exact ⟨congrArg (fun b => Ending.returned (.bool b)) HD.out.symm, HGr.out⟩
end Go.Proofs.Ytnglbneefkdfgaa
