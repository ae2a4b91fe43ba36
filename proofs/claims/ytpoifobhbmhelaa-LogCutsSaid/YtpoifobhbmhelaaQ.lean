/- Logs that are the same: ref.Same. -/
import Derived.Test.YtpoifobhbmhelaaP
set_option linter.unusedVariables false
set_option linter.unusedSimpArgs false
namespace Go.Proofs.Ytpoifobhbmhelaa
open Go.RowKit
set_option maxHeartbeats 8000000 in
set_option maxRecDepth 100000 in
theorem rsame_any (f1 s1 m1 : Int) (a1 : Option Addr) (c1 : Nat) (ts : List Rv) (w1 : Bool) (e1 : Int) (f2 s2 m2 : Int) (a2 : Option Addr) (c2 : Nat) (us : List Rv) (w2 : Bool) (e2 : Int) (w : World) (h1 : RL w a1 ts) (h2 : RL w a2 us) (hl : ts.length ≤ 1000000) : Calls Try.prog 17 #[lgV f1 s1 m1 a1 ts.length c1 w1 e1, lgV f2 s2 m2 a2 us.length c2 w2 e2] w fun e w' => e = .returned (.bool (decide (LgEq f1 s1 m1 ts w1 e1 f2 s2 m2 us w2 e2))) ∧ w.grownBy w' none := by
  have HG := Lib.hid ((World.grownBy_alloc w (.cells #[.int .i64 f1, .int .i64 s1, .int .i64 m1, .slice a1 ts.length c1, .bool w1, .int .i64 e1] 31) none).trans (World.grownBy_alloc _ (.cells #[.int .i64 f2, .int .i64 s2, .int .i64 m2, .slice a2 us.length c2, .bool w2, .int .i64 e2] 31) none))
  have H1 := Lib.hid (h1.kept HG.out)
  have H2 := Lib.hid (h2.kept HG.out)
  have HL := Lib.hid hl
  clear h1 h2 hl
  by_cases g1 : f1 = f2
  · have b1 : (f1 == f2) = true := by simp [g1]
    by_cases g6 : s1 = s2
    · have b6 : (s1 == s2) = true := by simp [g6]
      by_cases g2 : m1 = m2
      · have b2 : (m1 != m2) = false := by simp [g2]
        by_cases g3 : w1 = w2
        · subst g3
          by_cases g4 : e1 = e2
          · have b4 : (e1 != e2) = false := by simp [g4]
            have H0 := Lib.hid (And.intro g1 (And.intro g6 (And.intro g2 (And.intro (Eq.refl w1) g4))))
            have HK1 := Lib.hid (show ((w.alloc (.cells #[.int .i64 f1, .int .i64 s1, .int .i64 m1, .slice a1 ts.length c1, .bool w1, .int .i64 e1] 31)).alloc (.cells #[.int .i64 f2, .int .i64 s2, .int .i64 m2, .slice a2 us.length c2, .bool w1, .int .i64 e2] 31)).cell? ⟨w.heap.size, 3, none⟩ = some (.slice a1 ts.length c1) from keep_cell (World.grownBy_alloc _ _ none) (cells_all (heap_alloc_new w _) 3))
            have HK2 := Lib.hid (show ((w.alloc (.cells #[.int .i64 f1, .int .i64 s1, .int .i64 m1, .slice a1 ts.length c1, .bool w1, .int .i64 e1] 31)).alloc (.cells #[.int .i64 f2, .int .i64 s2, .int .i64 m2, .slice a2 us.length c2, .bool w1, .int .i64 e2] 31)).cell? ⟨w.heap.size + 1, 3, none⟩ = some (.slice a2 us.length c2) from by have := cells_all (heap_alloc_new (w.alloc (.cells #[.int .i64 f1, .int .i64 s1, .int .i64 m1, .slice a1 ts.length c1, .bool w1, .int .i64 e1] 31)) (.cells #[.int .i64 f2, .int .i64 s2, .int .i64 m2, .slice a2 us.length c2, .bool w1, .int .i64 e2] 31)) 3; rw [World.size_alloc] at this; exact this)
            clear g1 g6 g2 g4
            by_cases hlen : ts.length = us.length
            · have HLN := Lib.hid hlen
              obtain ⟨n, hn⟩ : ∃ n, n = ts.length := ⟨_, rfl⟩
              have HN := Lib.hid hn
              have HNL := Lib.hid (show n ≤ 1000000 from by have := HL.out; omega)
              have hb7 : ((n : Int) != (n : Int)) = false := by simp
              have HR0 := Lib.hid (show (⟨f1, s1, m1, rsOf ts, w1, e1⟩ : Lg) = ⟨f2, s2, m2, rsOf us, w1, e2⟩ ↔ rsOf ts = rsOf us from (lgEq_iff (ts := ts) (us := us)).trans ⟨fun h => h.2.2.2.2, fun h => ⟨⟨H0.out.1, H0.out.2.1⟩, H0.out.2.2.1, H0.out.2.2.2.1, H0.out.2.2.2.2, h⟩⟩)
              obtain ⟨r, hr⟩ : ∃ r : Bool, r = decide (LgEq f1 s1 m1 ts w1 e1 f2 s2 m2 us w1 e2) := ⟨_, rfl⟩
              rw [← hr]
              have HRR := Lib.hid (show r = decide (rsOf ts = rsOf us) from hr.trans (decide_eq_decide.2 HR0.out))
              clear hr HR0
              rw [← hlen, ← hn] at HK1 HK2 HG H1 H2
              rw [← hlen, ← hn]
              clear hlen hn
              go_enter Try.func17, Try.ntmps17
              go_wp2
              obtain ⟨W2, hW2⟩ : ∃ W2, W2 = ((w.alloc (.cells #[.int .i64 f1, .int .i64 s1, .int .i64 m1, .slice a1 n c1, .bool w1, .int .i64 e1] 31)).alloc (.cells #[.int .i64 f2, .int .i64 s2, .int .i64 m2, .slice a2 n c2, .bool w1, .int .i64 e2] 31)) := ⟨_, rfl⟩
              rw [← hW2] at HK1 HK2 HG H1 H2 ⊢
              clear hW2
              go_loopw [5] (fun i wr => ∃ k : Nat, k ≤ n ∧ i = .int .i64 k ∧ (rsOf ts).take k = (rsOf us).take k ∧ W2.grownBy wr none) (fun i _ => n - (intOf i).toNat)
              case atStart => exact ⟨0, Nat.zero_le _, rfl, rfl, World.grownBy.refl _ _⟩
              case round =>
                obtain ⟨k, hk, rfl, htk, hg⟩ := hrel
                have HT := Lib.hid htk
                have HGR := Lib.hid hg
                clear htk hg
                have k1 := keep_cell HGR.out HK1.out
                have k2 := keep_cell HGR.out HK2.out
                by_cases hlt : k < n
                · have hk1 : k < ts.length := by have := HN.out; omega
                  have hk2 : k < us.length := by have := HN.out; have := HLN.out; omega
                  obtain ⟨g1, o1, rfl, hat1⟩ := (H1.out.kept HGR.out).at k hk1
                  obtain ⟨g2, o2, rfl, hat2⟩ := (H2.out.kept HGR.out).at k hk2
                  obtain ⟨s, hs⟩ : ∃ s, s = ts[k] := ⟨_, rfl⟩
                  obtain ⟨t, ht⟩ : ∃ t, t = us[k] := ⟨_, rfl⟩
                  rw [← hs] at hat1
                  rw [← ht] at hat2
                  have HE := Lib.hid (fun he : s.r = t.r => rs_take ts us k hk1 hk2 HT.out (hs ▸ ht ▸ he))
                  have HE' := Lib.hid (fun he : ¬ s.r = t.r => rs_ne ts us k hk1 hk2 (hs ▸ ht ▸ he))
                  clear hs ht
                  have hlt' : (k : Int) < (n : Nat) := by omega
                  have hwk : IntKind.i64.wrap ((k : Int) + 1) = ((k + 1 : Nat) : Int) := by rw [IntKind.wrap_i64]; have := HNL.out; omega
                  obtain ⟨p0, p1, p2, p3, p4, p5⟩ := hat1
                  obtain ⟨q0, q1, q2, q3, q4, q5⟩ := hat2
                  have HP := Lib.hid (show Go.Proofs.Ytpoifobhbmhelaa.Src wr.drew s.x s.b from p4)
                  have HQ := Lib.hid (show Go.Proofs.Ytpoifobhbmhelaa.Src wr.drew t.x t.b from q4)
                  clear p4 p5 q4 q5 hk1 hk2
                  by_cases he : s.r = t.r
                  · have HY := Lib.hid (sameRec_yes s t wr.drew HP.out HQ.out he)
                    have HT2 := Lib.hid (HE.out he)
                    clear he HE HE' HP HQ HT
                    go_wp2
                    refine reg_open (none) (n := 12) rfl (by kernel_rfl) ?_
                    refine reg_take 0 (some 48) (v := ?_) rfl rfl (by kernel_rfl) (by kernel_rfl) (by kernel_rfl) (fun _ _ _ h => h) (by rfl) ?_ ?_
                    rotate_left
                    · intro W hW; go_simp; first | done | with_reducible rfl
                    try simp only [Act.put, List.setIfInBounds_toArray, List.set_cons_zero, List.set_cons_succ]
                    refine reg_take 1 (some 49) (v := ?_) rfl rfl (by kernel_rfl) (by kernel_rfl) (by kernel_rfl) (fun _ _ _ h => h) (by rfl) ?_ ?_
                    rotate_left
                    · intro W hW; have k := keep_cell (drewl hW) k1; go_simp; first | done | with_reducible rfl
                    try simp only [Act.put, List.setIfInBounds_toArray, List.set_cons_zero, List.set_cons_succ]
                    refine reg_take 2 (some 50) (v := ?_) rfl rfl (by kernel_rfl) (by kernel_rfl) (by kernel_rfl) (fun _ _ _ h => h) (by rfl) ?_ ?_
                    rotate_left
                    · intro W hW; go_simp; first | done | with_reducible rfl
                    try simp only [Act.put, List.setIfInBounds_toArray, List.set_cons_zero, List.set_cons_succ]
                    refine reg_take 3 (some 51) (v := ?_) rfl rfl (by kernel_rfl) (by kernel_rfl) (by kernel_rfl) (fun _ _ _ h => h) (by rfl) ?_ ?_
                    rotate_left
                    · intro W hW; go_simp; first | done | with_reducible rfl
                    try simp only [Act.put, List.setIfInBounds_toArray, List.set_cons_zero, List.set_cons_succ]
                    refine reg_take 4 (some 52) (v := ?_) rfl rfl (by kernel_rfl) (by kernel_rfl) (by kernel_rfl) (fun _ _ _ h => h) (by rfl) ?_ ?_
                    rotate_left
                    · intro W hW; have k0 := keep_cell (drewl hW) p0; have k3 := keep_cell (drewl hW) p1; have k4 := keep_cell (drewl hW) p2; have k5 := keep_cell (drewl hW) p3; go_simp; first | done | with_reducible rfl
                    try simp only [Act.put, List.setIfInBounds_toArray, List.set_cons_zero, List.set_cons_succ]
                    refine reg_take 5 (some 53) (v := ?_) rfl rfl (by kernel_rfl) (by kernel_rfl) (by kernel_rfl) (fun _ _ _ h => h) (by rfl) ?_ ?_
                    rotate_left
                    · intro W hW; go_simp; first | done | with_reducible rfl
                    try simp only [Act.put, List.setIfInBounds_toArray, List.set_cons_zero, List.set_cons_succ]
                    refine reg_take 6 (some 54) (v := ?_) rfl rfl (by kernel_rfl) (by kernel_rfl) (by kernel_rfl) (fun _ _ _ h => h) (by rfl) ?_ ?_
                    rotate_left
                    · intro W hW; have k := keep_cell (drewl hW) k2; go_simp; first | done | with_reducible rfl
                    try simp only [Act.put, List.setIfInBounds_toArray, List.set_cons_zero, List.set_cons_succ]
                    refine reg_take 7 (some 55) (v := ?_) rfl rfl (by kernel_rfl) (by kernel_rfl) (by kernel_rfl) (fun _ _ _ h => h) (by rfl) ?_ ?_
                    rotate_left
                    · intro W hW; go_simp; first | done | with_reducible rfl
                    try simp only [Act.put, List.setIfInBounds_toArray, List.set_cons_zero, List.set_cons_succ]
                    refine reg_take 8 (some 56) (v := ?_) rfl rfl (by kernel_rfl) (by kernel_rfl) (by kernel_rfl) (fun _ _ _ h => h) (by rfl) ?_ ?_
                    rotate_left
                    · intro W hW; go_simp; first | done | with_reducible rfl
                    try simp only [Act.put, List.setIfInBounds_toArray, List.set_cons_zero, List.set_cons_succ]
                    refine reg_take 9 (some 57) (v := ?_) rfl rfl (by kernel_rfl) (by kernel_rfl) (by kernel_rfl) (fun _ _ _ h => h) (by rfl) ?_ ?_
                    rotate_left
                    · intro W hW; have k0 := keep_cell (drewl hW) q0; have k3 := keep_cell (drewl hW) q1; have k4 := keep_cell (drewl hW) q2; have k5 := keep_cell (drewl hW) q3; go_simp; first | done | with_reducible rfl
                    try simp only [Act.put, List.setIfInBounds_toArray, List.set_cons_zero, List.set_cons_succ]
                    refine wpAnyH_ready (rs := [10]) (by kernel_rfl) (by simp) ?_
                    refine (AllReadyH.cons (o := { dst := some 58, op := Op.call { callee := Callee.value (Operand.func 22), args := #[Operand.tmp 52, Operand.tmp 57], argTypes := #[25, 25] }, type := 4, pos := "ref.go:193", after := #[{ on := 4, ground := Ground.data }, { on := 9, ground := Ground.data }], guard := none }) rfl (fun K hK => ?_) AllReadyH.nil)
                    go_simp
                    refine HY.out.mono ?_; rintro e w3 ⟨rfl, hw3⟩
                    refine reg_next hK hw3 ?_
                    clear hK K
                    try simp only [Act.put, List.setIfInBounds_toArray, List.set_cons_zero, List.set_cons_succ]
                    refine reg_take 11 (some 59) (v := ?_) rfl rfl (by kernel_rfl) (by kernel_rfl) (by kernel_rfl) (fun _ _ _ h => h) (by rfl) ?_ ?_
                    rotate_left
                    · intro W hW; go_simp; first | done | with_reducible rfl
                    try simp only [Act.put, List.setIfInBounds_toArray, List.set_cons_zero, List.set_cons_succ]
                    refine wpAnyH_done (by kernel_rfl) ?_ _
                    have HW3 := Lib.hid (drewl hw3)
                    clear hw3
                    go_wp2
                    go_roundw
                    case rel => exact ⟨k + 1, by omega, rfl, HT2.out, HGR.out.trans HW3.out⟩
                    case measure => simp [intOf]; omega
                  · have HY := Lib.hid (sameRec_no s t wr.drew HP.out HQ.out he)
                    have HT2 := Lib.hid (HE'.out he)
                    clear he HE HE' HP HQ HT
                    go_wp2
                    refine reg_open (none) (n := 12) rfl (by kernel_rfl) ?_
                    refine reg_take 0 (some 48) (v := ?_) rfl rfl (by kernel_rfl) (by kernel_rfl) (by kernel_rfl) (fun _ _ _ h => h) (by rfl) ?_ ?_
                    rotate_left
                    · intro W hW; go_simp; first | done | with_reducible rfl
                    try simp only [Act.put, List.setIfInBounds_toArray, List.set_cons_zero, List.set_cons_succ]
                    refine reg_take 1 (some 49) (v := ?_) rfl rfl (by kernel_rfl) (by kernel_rfl) (by kernel_rfl) (fun _ _ _ h => h) (by rfl) ?_ ?_
                    rotate_left
                    · intro W hW; have k := keep_cell (drewl hW) k1; go_simp; first | done | with_reducible rfl
                    try simp only [Act.put, List.setIfInBounds_toArray, List.set_cons_zero, List.set_cons_succ]
                    refine reg_take 2 (some 50) (v := ?_) rfl rfl (by kernel_rfl) (by kernel_rfl) (by kernel_rfl) (fun _ _ _ h => h) (by rfl) ?_ ?_
                    rotate_left
                    · intro W hW; go_simp; first | done | with_reducible rfl
                    try simp only [Act.put, List.setIfInBounds_toArray, List.set_cons_zero, List.set_cons_succ]
                    refine reg_take 3 (some 51) (v := ?_) rfl rfl (by kernel_rfl) (by kernel_rfl) (by kernel_rfl) (fun _ _ _ h => h) (by rfl) ?_ ?_
                    rotate_left
                    · intro W hW; go_simp; first | done | with_reducible rfl
                    try simp only [Act.put, List.setIfInBounds_toArray, List.set_cons_zero, List.set_cons_succ]
                    refine reg_take 4 (some 52) (v := ?_) rfl rfl (by kernel_rfl) (by kernel_rfl) (by kernel_rfl) (fun _ _ _ h => h) (by rfl) ?_ ?_
                    rotate_left
                    · intro W hW; have k0 := keep_cell (drewl hW) p0; have k3 := keep_cell (drewl hW) p1; have k4 := keep_cell (drewl hW) p2; have k5 := keep_cell (drewl hW) p3; go_simp; first | done | with_reducible rfl
                    try simp only [Act.put, List.setIfInBounds_toArray, List.set_cons_zero, List.set_cons_succ]
                    refine reg_take 5 (some 53) (v := ?_) rfl rfl (by kernel_rfl) (by kernel_rfl) (by kernel_rfl) (fun _ _ _ h => h) (by rfl) ?_ ?_
                    rotate_left
                    · intro W hW; go_simp; first | done | with_reducible rfl
                    try simp only [Act.put, List.setIfInBounds_toArray, List.set_cons_zero, List.set_cons_succ]
                    refine reg_take 6 (some 54) (v := ?_) rfl rfl (by kernel_rfl) (by kernel_rfl) (by kernel_rfl) (fun _ _ _ h => h) (by rfl) ?_ ?_
                    rotate_left
                    · intro W hW; have k := keep_cell (drewl hW) k2; go_simp; first | done | with_reducible rfl
                    try simp only [Act.put, List.setIfInBounds_toArray, List.set_cons_zero, List.set_cons_succ]
                    refine reg_take 7 (some 55) (v := ?_) rfl rfl (by kernel_rfl) (by kernel_rfl) (by kernel_rfl) (fun _ _ _ h => h) (by rfl) ?_ ?_
                    rotate_left
                    · intro W hW; go_simp; first | done | with_reducible rfl
                    try simp only [Act.put, List.setIfInBounds_toArray, List.set_cons_zero, List.set_cons_succ]
                    refine reg_take 8 (some 56) (v := ?_) rfl rfl (by kernel_rfl) (by kernel_rfl) (by kernel_rfl) (fun _ _ _ h => h) (by rfl) ?_ ?_
                    rotate_left
                    · intro W hW; go_simp; first | done | with_reducible rfl
                    try simp only [Act.put, List.setIfInBounds_toArray, List.set_cons_zero, List.set_cons_succ]
                    refine reg_take 9 (some 57) (v := ?_) rfl rfl (by kernel_rfl) (by kernel_rfl) (by kernel_rfl) (fun _ _ _ h => h) (by rfl) ?_ ?_
                    rotate_left
                    · intro W hW; have k0 := keep_cell (drewl hW) q0; have k3 := keep_cell (drewl hW) q1; have k4 := keep_cell (drewl hW) q2; have k5 := keep_cell (drewl hW) q3; go_simp; first | done | with_reducible rfl
                    try simp only [Act.put, List.setIfInBounds_toArray, List.set_cons_zero, List.set_cons_succ]
                    refine wpAnyH_ready (rs := [10]) (by kernel_rfl) (by simp) ?_
                    refine (AllReadyH.cons (o := { dst := some 58, op := Op.call { callee := Callee.value (Operand.func 22), args := #[Operand.tmp 52, Operand.tmp 57], argTypes := #[25, 25] }, type := 4, pos := "ref.go:193", after := #[{ on := 4, ground := Ground.data }, { on := 9, ground := Ground.data }], guard := none }) rfl (fun K hK => ?_) AllReadyH.nil)
                    go_simp
                    refine HY.out.mono ?_; rintro e w3 ⟨rfl, hw3⟩
                    refine reg_next hK hw3 ?_
                    clear hK K
                    try simp only [Act.put, List.setIfInBounds_toArray, List.set_cons_zero, List.set_cons_succ]
                    refine reg_take 11 (some 59) (v := ?_) rfl rfl (by kernel_rfl) (by kernel_rfl) (by kernel_rfl) (fun _ _ _ h => h) (by rfl) ?_ ?_
                    rotate_left
                    · intro W hW; go_simp; first | done | with_reducible rfl
                    try simp only [Act.put, List.setIfInBounds_toArray, List.set_cons_zero, List.set_cons_succ]
                    refine wpAnyH_done (by kernel_rfl) ?_ _
                    have HW3 := Lib.hid (drewl hw3)
                    clear hw3
                    go_wp2
                    go_ret
                    exact ⟨by rw [HRR.out, decide_eq_false HT2.out]; rfl, (HG.out.trans HGR.out).trans HW3.out⟩
                · have hlt' : ¬ (k : Int) < (n : Nat) := by omega
                  have HR := Lib.hid (show rsOf ts = rsOf us from by
                    have hkn : k = ts.length := by have := HN.out; omega
                    have := HT.out
                    rw [hkn] at this
                    exact rs_all ts us HLN.out this)
                  clear HT
                  go_wp2
                  go_ret
                  exact ⟨by rw [HRR.out, decide_eq_true HR.out]; rfl, HG.out.trans HGR.out⟩
            · have HR := Lib.hid (show ¬ LgEq f1 s1 m1 ts w1 e1 f2 s2 m2 us w1 e2 from fun h => rs_len _ _ hlen (lgEq_iff.1 h).2.2.2.2)
              rw [decide_eq_false HR.out]
              have hb7 : ((ts.length : Int) != (us.length : Int)) = true := by simp; omega
              clear hlen
              go_enter Try.func17, Try.ntmps17
              go_wp2
              go_ret
              exact ⟨rfl, HG.out⟩
          · have b4 : (e1 != e2) = true := by simp [g4]
            have HR := Lib.hid (show ¬ LgEq f1 s1 m1 ts w1 e1 f2 s2 m2 us w1 e2 from fun h => g4 (lgEq_iff.1 h).2.2.2.1)
            rw [decide_eq_false HR.out]
            clear g1 g6 g2 g4
            go_enter Try.func17, Try.ntmps17
            go_wp2
            go_ret
            exact ⟨rfl, HG.out⟩
        · have hb : w1 = true ∧ w2 = false ∨ w1 = false ∧ w2 = true := by cases w1 <;> cases w2 <;> simp_all
          rcases hb with ⟨rfl, rfl⟩ | ⟨rfl, rfl⟩
          · have b3 : (true != false) = true := rfl
            have HR := Lib.hid (show ¬ LgEq f1 s1 m1 ts true e1 f2 s2 m2 us false e2 from fun h => g3 (lgEq_iff.1 h).2.2.1)
            rw [decide_eq_false HR.out]
            clear g1 g6 g2 g3
            go_enter Try.func17, Try.ntmps17
            go_wp2
            go_ret
            exact ⟨rfl, HG.out⟩
          · have b3 : (false != true) = true := rfl
            have HR := Lib.hid (show ¬ LgEq f1 s1 m1 ts false e1 f2 s2 m2 us true e2 from fun h => g3 (lgEq_iff.1 h).2.2.1)
            rw [decide_eq_false HR.out]
            clear g1 g6 g2 g3
            go_enter Try.func17, Try.ntmps17
            go_wp2
            go_ret
            exact ⟨rfl, HG.out⟩
      · have b2 : (m1 != m2) = true := by simp [g2]
        have HR := Lib.hid (show ¬ LgEq f1 s1 m1 ts w1 e1 f2 s2 m2 us w2 e2 from fun h => g2 (lgEq_iff.1 h).2.1)
        rw [decide_eq_false HR.out]
        clear g1 g6 g2
        go_enter Try.func17, Try.ntmps17
        go_wp2
        go_ret
        exact ⟨rfl, HG.out⟩
    · have b6 : (s1 == s2) = false := by simp [g6]
      have HR := Lib.hid (show ¬ LgEq f1 s1 m1 ts w1 e1 f2 s2 m2 us w2 e2 from fun h => g6 (lgEq_iff.1 h).1.2)
      rw [decide_eq_false HR.out]
      clear g1 g6
      go_enter Try.func17, Try.ntmps17
      go_wp2
      go_ret
      exact ⟨rfl, HG.out⟩
  · have b1 : (f1 == f2) = false := by simp [g1]
    have HR := Lib.hid (show ¬ LgEq f1 s1 m1 ts w1 e1 f2 s2 m2 us w2 e2 from fun h => g1 (lgEq_iff.1 h).1.1)
    rw [decide_eq_false HR.out]
    clear g1
    go_enter Try.func17, Try.ntmps17
    go_wp2
    go_ret
    exact ⟨rfl, HG.out⟩
end Go.Proofs.Ytpoifobhbmhelaa
