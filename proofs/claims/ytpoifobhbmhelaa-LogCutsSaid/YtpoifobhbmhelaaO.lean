/- Logs that are the same: slices.EqualFunc, log.Same, ref.Same. -/
import Derived.Test.YtpoifobhbmhelaaN
import Derived.Shelf.RegionOpen
set_option linter.unusedVariables false
set_option linter.unusedSimpArgs false
namespace Go.Proofs.Ytpoifobhbmhelaa
open Go.RowKit
theorem like_yes (s t : Rv) (w : World) (hs : Go.Proofs.Ytpoifobhbmhelaa.Src w s.x s.b) (ht : Go.Proofs.Ytpoifobhbmhelaa.Src w t.x t.b) (h : s.r = t.r) : Calls Try.prog 41 #[s.val, t.val] w fun e w' => e = .returned (.bool true) ∧ w.grownBy w' none :=
  (like_any s t w hs ht).mono (fun e w' k => ⟨by rw [k.1, decide_eq_true h], k.2⟩)
theorem like_no (s t : Rv) (w : World) (hs : Go.Proofs.Ytpoifobhbmhelaa.Src w s.x s.b) (ht : Go.Proofs.Ytpoifobhbmhelaa.Src w t.x t.b) (h : ¬ s.r = t.r) : Calls Try.prog 41 #[s.val, t.val] w fun e w' => e = .returned (.bool false) ∧ w.grownBy w' none :=
  (like_any s t w hs ht).mono (fun e w' k => ⟨by rw [k.1, decide_eq_false h], k.2⟩)
theorem sameRec_yes (s t : Rv) (w : World) (hs : Go.Proofs.Ytpoifobhbmhelaa.Src w s.x s.b) (ht : Go.Proofs.Ytpoifobhbmhelaa.Src w t.x t.b) (h : s.r = t.r) : Calls Try.prog 22 #[s.val, t.val] w fun e w' => e = .returned (.bool true) ∧ w.grownBy w' none :=
  (sameRec_any s t w hs ht).mono (fun e w' k => ⟨by rw [k.1, decide_eq_true h], k.2⟩)
theorem sameRec_no (s t : Rv) (w : World) (hs : Go.Proofs.Ytpoifobhbmhelaa.Src w s.x s.b) (ht : Go.Proofs.Ytpoifobhbmhelaa.Src w t.x t.b) (h : ¬ s.r = t.r) : Calls Try.prog 22 #[s.val, t.val] w fun e w' => e = .returned (.bool false) ∧ w.grownBy w' none :=
  (sameRec_any s t w hs ht).mono (fun e w' k => ⟨by rw [k.1, decide_eq_false h], k.2⟩)
theorem rs_take (ts us : List Rv) (k : Nat) (h1 : k < ts.length) (h2 : k < us.length) (h : (rsOf ts).take k = (rsOf us).take k) (he : ts[k].r = us[k].r) : (rsOf ts).take (k + 1) = (rsOf us).take (k + 1) := by
  rw [List.take_succ_eq_append_getElem (by simpa using h1), List.take_succ_eq_append_getElem (by simpa using h2), h]
  simp [he]
theorem rs_ne (ts us : List Rv) (k : Nat) (h1 : k < ts.length) (h2 : k < us.length) (he : ¬ ts[k].r = us[k].r) : ¬ rsOf ts = rsOf us := by
  intro e
  have := congrArg (fun l => l[k]?) e
  simp [h1, h2] at this
  exact he (by simp [Rv.r, this])
theorem rs_all (ts us : List Rv) (h0 : ts.length = us.length) (h : (rsOf ts).take ts.length = (rsOf us).take ts.length) : rsOf ts = rsOf us := by
  rwa [List.take_of_length_le (by simp), List.take_of_length_le (by simp [h0])] at h
theorem rs_len (ts us : List Rv) (h : ¬ ts.length = us.length) : ¬ rsOf ts = rsOf us := fun e => h (by simpa using congrArg List.length e)
set_option maxHeartbeats 4000000 in
set_option maxRecDepth 100000 in
theorem eqf_any (a1 a2 : Option Addr) (c1 c2 : Nat) (ts us : List Rv) (w : World) (h1 : RL w a1 ts) (h2 : RL w a2 us) (hl : ts.length ≤ 1000000) : Calls Try.prog 43 #[.slice a1 ts.length c1, .slice a2 us.length c2, .func (.func 41) #[] #[]] w fun e w' => e = .returned (.bool (decide (rsOf ts = rsOf us))) ∧ w.grownBy w' none := by
  have H1 := Lib.hid h1
  have H2 := Lib.hid h2
  clear h1 h2
  by_cases hlen : ts.length = us.length
  · have HL := Lib.hid hlen
    obtain ⟨n, hn⟩ : ∃ n, n = ts.length := ⟨_, rfl⟩
    have HN := Lib.hid hn
    rw [← hlen, ← hn]
    rw [← hn] at hl
    clear hlen hn
    have e0 : ((n : Int) != (n : Int)) = false := by simp
    go_enter Try.func43, Try.ntmps43
    go_wp2
    go_loopw [17] (fun i wr => ∃ k : Nat, k ≤ n ∧ i = .int .i64 k ∧ (rsOf ts).take k = (rsOf us).take k ∧ w.grownBy wr none) (fun i _ => n - (intOf i).toNat)
    case atStart => exact ⟨0, Nat.zero_le _, rfl, rfl, World.grownBy.refl _ _⟩
    case round =>
      obtain ⟨k, hk, rfl, htk, hg⟩ := hrel
      have HT := Lib.hid htk
      have HG := Lib.hid hg
      clear htk hg
      by_cases hlt : k < n
      · have hk1 : k < ts.length := by have := HN.out; omega
        have hk2 : k < us.length := by have := HN.out; have := HL.out; omega
        obtain ⟨g1, o1, rfl, hat1⟩ := (H1.out.kept HG.out).at k hk1
        obtain ⟨g2, o2, rfl, hat2⟩ := (H2.out.kept HG.out).at k hk2
        obtain ⟨s, hs⟩ : ∃ s, s = ts[k] := ⟨_, rfl⟩
        obtain ⟨t, ht⟩ : ∃ t, t = us[k] := ⟨_, rfl⟩
        rw [← hs] at hat1
        rw [← ht] at hat2
        have HE := Lib.hid (fun he : s.r = t.r => rs_take ts us k hk1 hk2 HT.out (hs ▸ ht ▸ he))
        have HE' := Lib.hid (fun he : ¬ s.r = t.r => rs_ne ts us k hk1 hk2 (hs ▸ ht ▸ he))
        clear hs ht
        have hlt' : (k : Int) < (n : Nat) := by omega
        have hwk : IntKind.i64.wrap ((k : Int) + 1) = ((k + 1 : Nat) : Int) := by rw [IntKind.wrap_i64]; omega
        obtain ⟨p0, p1, p2, p3, p4, p5⟩ := hat1
        obtain ⟨q0, q1, q2, q3, q4, q5⟩ := hat2
        have HG2 := Lib.hid ((World.grownBy_alloc wr (.cells #[.int .i64 s.a, .int .i64 s.k, .int .i64 s.n, .slice s.x s.b.length s.c] 25) none).trans (World.grownBy_alloc _ (.cells #[.int .i64 t.a, .int .i64 t.k, .int .i64 t.n, .slice t.x t.b.length t.c] 25) none))
        have HP := Lib.hid (p4.keptNone HG2.out)
        have HQ := Lib.hid (q4.keptNone HG2.out)
        have HA := Lib.hid (World.grownBy_alloc wr (.cells #[.int .i64 s.a, .int .i64 s.k, .int .i64 s.n, .slice s.x s.b.length s.c] 25) none)
        have q0 := keep_cell HA.out q0
        have q1 := keep_cell HA.out q1
        have q2 := keep_cell HA.out q2
        have q3 := keep_cell HA.out q3
        clear p4 p5 q4 q5 hk1 hk2
        by_cases he : s.r = t.r
        · have HY := Lib.hid (like_yes s t _ HP.out HQ.out he)
          have HT2 := Lib.hid (HE.out he)
          clear he HE HE' HP HQ HT
          go_wp2_with fail
          refine HY.out.mono ?_; rintro e w3 ⟨rfl, hw3⟩
          have HW3 := Lib.hid hw3
          clear hw3
          go_wp2
          go_roundw
          case rel => exact ⟨k + 1, by omega, rfl, HT2.out, (HG.out.trans HG2.out).trans HW3.out⟩
          case measure => simp [intOf]; omega
        · have HY := Lib.hid (like_no s t _ HP.out HQ.out he)
          have HT2 := Lib.hid (HE'.out he)
          clear he HE HE' HP HQ HT
          go_wp2_with fail
          refine HY.out.mono ?_; rintro e w3 ⟨rfl, hw3⟩
          have HW3 := Lib.hid hw3
          clear hw3
          go_wp2
          go_ret
          exact ⟨by rw [decide_eq_false HT2.out]; rfl, (HG.out.trans HG2.out).trans HW3.out⟩
      · have hlt' : ¬ (k : Int) < (n : Nat) := by omega
        have HR := Lib.hid (show rsOf ts = rsOf us from by
          have hkn : k = ts.length := by have := HN.out; omega
          have := HT.out
          rw [hkn] at this
          exact rs_all ts us HL.out this)
        clear HT
        go_wp2
        go_ret
        exact ⟨by rw [decide_eq_true HR.out]; rfl, HG.out⟩
  · have HL := Lib.hid hlen
    obtain ⟨n, hn⟩ : ∃ n, n = ts.length := ⟨_, rfl⟩
    obtain ⟨m, hm⟩ : ∃ m, m = us.length := ⟨_, rfl⟩
    have e0 : ((n : Int) != (m : Int)) = true := by simp; omega
    rw [← hn, ← hm]
    clear hlen hn hm hl
    go_enter Try.func43, Try.ntmps43
    go_wp2
    go_ret
    exact ⟨by rw [decide_eq_false (rs_len _ _ HL.out)]; rfl, World.grownBy.refl _ _⟩
end Go.Proofs.Ytpoifobhbmhelaa
