/- LogHeads: the walk. -/
import Derived.Test.YtpoifobhbmhelaaAK
import Derived.Lib.AppendZeros
set_option linter.unusedVariables false
set_option linter.unusedSimpArgs false
namespace Go.Proofs.Ytpoifobhbmhelaa
open Go.RowKit
/-- Bytes behind a literal, none or many. -/
theorem lit_app (w : World) (l m : List UInt8) (x : Option Addr) (cap : Nat) (p q : Nat) (hs : Go.Proofs.Ytpoifobhbmhelaa.Src w x m) (hlen : l.length + m.length ≤ 1000000) :
    ∃ b c' w', (Builtin.append_ #[23, 23] 23 #[.slice (some ⟨w.heap.size, 0, none⟩) l.length l.length, .slice x m.length cap]).run Try.prog (w.alloc (.cells (bsV l).toArray 5 (p, q))) = .ok (.slice b (l ++ m).length c') w' ∧ (l ++ m).length ≤ c' ∧ Go.Proofs.Ytpoifobhbmhelaa.Src w' b (l ++ m) ∧ w.grownBy w' none := by
  have g0 := World.grownBy_alloc w (.cells (bsV l).toArray 5 (p, q)) none
  have h := lit_mark w l p q
  have hs' := hs.keptNone g0
  by_cases hm : m.length = 0
  · obtain rfl := List.eq_nil_of_length_eq_zero hm
    obtain ⟨i, hi, hz, hsz, hby⟩ := eB.info
    have hr := run_append_nothing (P := Try.prog) (w.alloc (.cells (bsV l).toArray 5 (p, q))) 23 23 23 5 i eB.hu hi (some ⟨w.heap.size, 0, none⟩) l.length l.length (Nat.le_refl _) (.slice x 0 cap) (by rw [hsz]; exact src_gon rfl hs')
    refine ⟨_, l.length, _, by simpa using hr, by simp, ?_, g0⟩
    rw [List.append_nil]
    exact src_lit w l p q
  · obtain ⟨v', w', hr, h1, h2, -, -, -⟩ := Wb.app 23 23 h rfl g0 (src_gon (c := cap) rfl hs') (by omega) hlen
    obtain ⟨b, c', rfl, hc⟩ := h1.shape
    exact ⟨b, c', w', hr, hc, Gs.toSrc h1.1, h2⟩
abbrev rgt (L : Lg) (a : Option Addr) (c : Nat) : Value := lgV L.f L.s L.m a L.rs.length c L.wh L.e
/-- No more records than bytes. -/
theorem decR_few : ∀ (n : Nat) (left : List UInt8) (z : Int) (l l' : Lg) (k : Nat), left.length ≤ n → decR z l left = some (l', k) → l'.rs.length ≤ l.rs.length + left.length := by
  intro n
  induction n with
  | zero =>
    intro left z l l' k hn h
    obtain rfl := List.eq_nil_of_length_eq_zero (Nat.le_zero.1 hn)
    rw [decR_nil] at h
    cases h
    exact Nat.le_refl _
  | succ n ih =>
    intro left z l l' k hn h
    by_cases hne : left = []
    · subst hne
      rw [decR_nil] at h
      cases h
      exact Nat.le_refl _
    · cases hw : l.wh with
      | true => rw [decR_wh hne hw] at h; cases h
      | false =>
        cases ht : take left with
        | no => rw [decR_no hne ht] at h; cases h
        | soon => rw [decR_soon hne hw ht] at h; cases h; omega
        | num y rest =>
          have hlt := take_lt ht
          by_cases hy : y ≤ rest.length
          · cases hb : decB (rest.take y) z with
            | none => rw [decR_bad hne hw ht hy hb] at h; cases h
            | some r =>
              have hd : (rest.drop y).length ≤ rest.length := by rw [List.length_drop]; omega
              by_cases h8 : r.k = 8
              · rw [decR_8 hne hw ht hy hb h8] at h
                have := ih _ _ _ _ _ (by omega) h
                simp only at this
                omega
              · rw [decR_ok hne hw ht hy hb h8] at h
                have := ih _ _ _ _ _ (by omega) h
                simp only [List.length_append, List.length_cons, List.length_nil] at this
                omega
          · rw [decR_short hne hw ht hy] at h
            cases h
            omega
theorem decL_few (b : List UInt8) : (decL b).1.rs.length ≤ b.length := by
  have hz : ∀ n : Nat, Lg.zero.rs.length ≤ n := fun n => Nat.zero_le _
  unfold decL
  split
  · split
    · rename_i h1
      split
      · rename_i h2
        split
        · rename_i h3
          split
          · split
            · exact hz _
            · rename_i h4
              have e := decR_few _ _ _ _ _ _ (Nat.le_refl _) h4
              have e1 := take_lt h1
              have e2 := take_lt h2
              have e3 := take_lt h3
              simp only [List.length_nil, List.length_drop] at e e1
              simp only
              omega
          · exact hz _
        · exact hz _
      · exact hz _
    · exact hz _
  · exact hz _
set_option maxRecDepth 100000 in
set_option maxHeartbeats 4000000 in
theorem logHeads_walk (x : Option Addr) (n cap : Nat) (l : List UInt8) (w : World) (hn : n = l.length) (hs : Go.Proofs.Ytpoifobhbmhelaa.Src w x l) : Calls Try.prog 6 #[.slice x n cap] w fun e w' => e = .returned (.bool true) ∧ w.grownBy w' none := by
  by_cases h40 : 40 < n
  · have HN := Lib.hid hn
    clear hn hs
    go_enter Try.func6, Try.ntmps6
    go_wp2_with fail
    refine (works_any _).mono ?_; rintro e w1 ⟨rfl, hg1⟩
    go_wp2
    go_ret
    exact ⟨rfl, hg1⟩
  · subst hn
    obtain ⟨b, c', w1, hr, hbc, hs1, hg1⟩ := lit_app w magic l x cap 4 5 hs (by simp [magic]; omega)
    obtain ⟨N, hN⟩ : ∃ N, N = (magic ++ l).length := ⟨_, rfl⟩
    have hN2 : N = l.length + 4 := by rw [hN, List.length_append]; simp [magic, Nat.add_comm]
    have h1 := decode_any b c' (magic ++ l) w1 hs1 hbc (by omega)
    rw [← hN] at h1 hbc hr
    have HR := Lib.hid hr
    obtain ⟨D, hD⟩ : ∃ D, D = decL (magic ++ l) := ⟨_, rfl⟩
    rw [← hD] at h1
    have HDF := Lib.hid (show D.1.rs.length ≤ 1000000 from by have := decL_few (magic ++ l); rw [← hD, ← hN] at this; omega)
    have H1 := Lib.hid h1
    have HR2 := Lib.hid (fun w2 => rdecode_any b c' (magic ++ l) w2)
    simp only [← hN, ← hD] at HR2
    have HR2 := Lib.hid HR2.out
    have HS1 := Lib.hid hs1
    have HBC := Lib.hid hbc
    have HG1 := Lib.hid hg1
    have HNB := Lib.hid (show N ≤ 900000 from by omega)
    have kc : (convert 23 23 (.slice (some ⟨w.heap.size, 0, none⟩) 4 4)).run Try.prog (w.alloc (magO 0 0)) = .ok (.slice (some ⟨w.heap.size, 0, none⟩) 4 4) (w.alloc (magO 4 5)) := conv_lit w #[.int .u8 80, .int .u8 77, .int .u8 68, .int .u8 82] 4 4
    obtain ⟨m, hm⟩ : ∃ m, m = l.length := ⟨_, rfl⟩
    rw [← hm] at h40 HR ⊢
    have hk : (Builtin.append_ #[23, 23] 23 #[.slice (some ⟨w.heap.size, 0, none⟩) 4 4, .slice x m cap]).run Try.prog (w.alloc (magO 4 5)) = .ok (.slice b N c') w1 := HR.out
    clear hm hN hN2 hD h1 hs1 hbc hg1 hr hs HR
    have HK := Lib.hid hk
    clear hk
    go_enter Try.func6, Try.ntmps6
    go_wp2_with (at_builtin; refine Lib.wpList_append_run _ rfl _ _ 23 23 rfl _ _ rfl rfl _ _ HK.out ?_)
    go_wp2_with fail
    obtain ⟨⟨F, S, M, rs, wh, E⟩, k, no⟩ := D
    refine H1.out.mono ?_; rintro e w2 ⟨a2, c2, ts2, rfl, hts2, hrl2, hg2⟩
    simp only at hts2
    have hn2 : ts2.length = rs.length := by rw [← hts2]; simp [rsOf]
    have HG2 := Lib.hid (HG1.out.trans hg2)
    have HS2 := Lib.hid (HS1.out.keptNone hg2)
    obtain ⟨q, hq⟩ : ∃ q, q = rs.length := ⟨_, rfl⟩
    simp only [hn2, ← hq]
    have HT2 := Lib.hid hts2
    have HN2 := Lib.hid (hn2.trans hq.symm)
    have HQ := Lib.hid hq
    have HB2 := Lib.hid (heap_alloc_new w2 (.cells #[.int .i64 F, .int .i64 S, .int .i64 M, .slice a2 q c2, .bool wh, .int .i64 E] 31))
    have HA2 := Lib.hid (World.grownBy_alloc w2 (.cells #[.int .i64 F, .int .i64 S, .int .i64 M, .slice a2 q c2, .bool wh, .int .i64 E] 31) none)
    have HR2' := Lib.hid (hrl2.kept HA2.out)
    clear hts2 hrl2 hg2 hn2 hq H1
    go_wp2_with fail
    refine (HR2.out _ (HS2.out.keptNone HA2.out) HBC.out HNB.out).mono ?_; rintro e w3 ⟨a3, c3, ts3, rfl, hts3, hrl3, hg3⟩
    simp only at hts3
    have hn3 : ts3.length = q := by rw [HQ.out, ← hts3]; simp [rsOf]
    simp only [hn3]
    have HG3 := Lib.hid (HG2.out.trans (HA2.out.trans hg3))
    have HA3 := Lib.hid (World.grownBy_alloc w3 (.cells #[.int .i64 F, .int .i64 S, .int .i64 M, .slice a3 q c3, .bool wh, .int .i64 E] 31) none)
    have hb3 := keep_blk (hg3.trans HA3.out) HB2.out
    have k0 := cells_all hb3 0
    have k1 := cells_all hb3 1
    have k2 := cells_all hb3 2
    have k3 := cells_all hb3 3
    have k4 := cells_all hb3 4
    have k5 := cells_all hb3 5
    simp only [List.getElem?_toArray, List.getElem?_cons_zero, List.getElem?_cons_succ] at k0 k1 k2 k3 k4 k5
    have hC := rsame_any F S M a2 c2 ts2 wh E F S M a3 c3 ts3 wh E (w3.alloc (.cells #[.int .i64 F, .int .i64 S, .int .i64 M, .slice a3 q c3, .bool wh, .int .i64 E] 31)) (HR2'.out.kept (hg3.trans HA3.out)) (hrl3.kept HA3.out) (by rw [HN2.out, HQ.out]; exact HDF.out)
    rw [decide_eq_true (show LgEq F S M ts2 wh E F S M ts3 wh E from by unfold LgEq; rw [HT2.out, hts3]), HN2.out, hn3] at hC
    have HC := Lib.hid hC
    clear hC hb3 hn3 hts3 hrl3 hg3
    go_wp2_with fail
    refine HC.out.mono ?_; rintro e w4 ⟨rfl, hg4⟩
    have HG4 := Lib.hid (HG3.out.trans (HA3.out.trans hg4))
    clear hg4
    go_wp2_with fail
    refine (num_any no _).mono ?_; rintro e w5 ⟨rfl, rfl⟩
    go_wp2_with fail
    refine (works_any _).mono ?_; rintro e w6 ⟨rfl, hg6⟩
    have HG6 := Lib.hid (HG4.out.trans hg6)
    clear hg6
    go_wp2
    go_ret
    exact ⟨rfl, HG6.out⟩
end Go.Proofs.Ytpoifobhbmhelaa
