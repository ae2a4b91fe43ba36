/- log.Decode, whole. -/
import Derived.Test.YtpoifobhbmhelaaAF
set_option linter.unusedVariables false
set_option linter.unusedSimpArgs false
namespace Go.Proofs.Ytpoifobhbmhelaa
open Go.RowKit
theorem run_max3 (w : World) (ts : Array TypeId) (t : TypeId) (x y z : Int) : (Builtin.max_ ts t #[.int .i64 x, .int .i64 y, .int .i64 z]).run Try.prog w = .ok (.int .i64 (max (max x y) z)) w := by
  have e : ∀ x y : Int, (if y > x then y else x) = max x y := fun x y => by
    rw [Int.max_def]
    split <;> split <;> omega
  simp [Builtin.max_, Builtin.max2, e]
theorem max_le {f s m : Nat} (h : f ≤ 65536 ∧ s ≤ 65536 ∧ m ≤ 65536) : max (max (f : Int) (s : Int)) (m : Int) ≤ 65536 := by omega
theorem max_gt {f s m : Nat} (h : ¬ (f ≤ 65536 ∧ s ≤ 65536 ∧ m ≤ 65536)) : ¬ max (max (f : Int) (s : Int)) (m : Int) ≤ 65536 := by omega
theorem from_4 {w : World} {x : Option Addr} {cap : Nat} {b : List UInt8} (h : Go.Proofs.Ytpoifobhbmhelaa.Src w x b) (hc : b.length ≤ cap) (k : Nat) (hk : k ≤ b.length) : ∃ x' cap', sliced x k b.length cap 1 = .slice x' (b.drop k).length cap' ∧ (b.drop k).length ≤ cap' ∧ Go.Proofs.Ytpoifobhbmhelaa.Src w x' (b.drop k) := by
  obtain ⟨x', c', h1, h2, h3⟩ := src_from h hc k hk
  rw [List.length_drop]
  exact ⟨x', c', h1, h2, h3⟩
set_option maxRecDepth 100000 in
set_option maxHeartbeats 16000000 in
theorem dec_mag (x : Option Addr) (cap : Nat) (b : List UInt8) (w : World) (hs : Go.Proofs.Ytpoifobhbmhelaa.Src w x b) (hcap : b.length ≤ cap) (hl : b.length ≤ 900000) (hm : b.take 4 = magic) : Calls Try.prog 15 #[.slice x b.length cap] w fun e w' => DecDo w (decL b) e w' := by
  obtain ⟨H1, H2, H3, H4, H5⟩ := dB_facts w
  have HB1 := Lib.hid H1
  have HB2 := Lib.hid H2
  have HB3 := Lib.hid H3
  have HG := Lib.hid H4
  have HSZ := Lib.hid H5
  have HS := Lib.hid hs
  have HCAP := Lib.hid hcap
  obtain ⟨n, hn⟩ : ∃ n, n = b.length := ⟨_, rfl⟩
  have HN := Lib.hid hn
  rw [← hn] at hl ⊢
  obtain ⟨D, hD⟩ : ∃ D, D = decL b := ⟨_, rfl⟩
  have HD := Lib.hid hD
  rw [← hD]
  clear H1 H2 H3 H4 H5 hs hcap hD
  have hm4 : 4 ≤ b.length := by have h2 := congrArg List.length hm; rw [List.length_take] at h2; simp [magic] at h2; omega
  have kc : (convert 23 23 (.slice (some ⟨w.heap.size + 1 + 1 + 1, 0, none⟩) 4 4)).run Try.prog ((dB w).alloc (magO 0 0)) = .ok (.slice (some ⟨w.heap.size + 1 + 1 + 1, 0, none⟩) 4 4) ((dB w).alloc (magO 4 5)) := by have h := conv_lit (dB w) #[.int .u8 80, .int .u8 77, .int .u8 68, .int .u8 82] 4 4; rw [HSZ.out] at h; exact h
  have HMG := Lib.hid (World.grownBy_alloc (dB w) (magO 4 5) none)
  have HMS := Lib.hid (show Go.Proofs.Ytpoifobhbmhelaa.Src ((dB w).alloc (magO 4 5)) (some ⟨w.heap.size + 1 + 1 + 1, 0, none⟩) magic from by have h := src_lit (dB w) magic 4 5; rw [HSZ.out] at h; exact h)
  have hmf : ∀ (fn : Fn) (first cap : Array Value) (w : World), (Instr.makeFunc fn first cap).run Try.prog w = .ok (.func fn first cap) w := fun _ _ _ _ => rfl
  obtain ⟨x4, c4, hsl, hc4, hs4⟩ := from_4 (HS.out.keptNone (HG.out.trans HMG.out)) HCAP.out 4 hm4
  have hq4 := sliced_blk (l := b) (l' := b.drop 4) hsl (fun b1 o1 hx hl => Go.Proofs.Ytpoifobhbmhelaa.Src.lt (hx ▸ HS.out) hl) (fun h e => h (by rw [e]; simp)) (src_spot HS.out)
  have C0 := cutPrefix_yes x (some ⟨w.heap.size + 1 + 1 + 1, 0, none⟩) n 4 cap 4 b magic ((dB w).alloc (magO 4 5)) hn rfl (by have := HCAP.out; omega) (HS.out.keptNone (HG.out.trans HMG.out)) HMS.out hm
  rw [hn, hsl] at C0
  rw [← hn] at C0
  obtain ⟨m4, hm4e⟩ : ∃ m4, m4 = (b.drop 4).length := ⟨_, rfl⟩
  rw [← hm4e] at C0 hc4
  have C0 := Lib.hid C0
  have HM := Lib.hid hm
  have HGA := Lib.hid (World.grownBy_alloc ((dB w).alloc (magO 4 5)) (.cells #[.slice x4 m4 c4] 23) none)
  have HG3 := Lib.hid (HMG.out.trans HGA.out)
  have HNW : (((dB w).alloc (magO 4 5)).alloc (.cells #[.slice x4 m4 c4] 23)).heap[w.heap.size + 1 + 1 + 1 + 1]? = some (.cells #[.slice x4 m4 c4] 23 (0, 0)) := by have h := heap_alloc_new ((dB w).alloc (magO 4 5)) (.cells #[.slice x4 m4 c4] 23); rw [World.size_alloc, HSZ.out] at h; exact h
  have HDV := Lib.hid (show Dv w (((dB w).alloc (magO 4 5)).alloc (.cells #[.slice x4 m4 c4] 23)) (w.heap.size + 1 + 1 + 1 + 1) 0 0 0 none 0 0 false 0 0 x4 c4 (b.drop 4) [] from ⟨keep_blk HG3.out HB1.out, keep_blk HG3.out HB2.out, keep_blk HG3.out HB3.out, ⟨hs4.keptNone HGA.out, by rw [← hm4e]; exact hc4, fun b1 o1 hx hl => src_off (cs := [.slice x4 m4 c4]) (hs4.keptNone HGA.out) HNW rfl b1 o1 hx hl, by rw [← hm4e]; exact HNW⟩, Made.nil _ _, rfl, HG.out.trans HG3.out, by omega, hq4⟩)
  have CR := Lib.hid (reader_ex (w.heap.size + 1 + 1 + 1 + 1) 261 261 (((dB w).alloc (magO 4 5)).alloc (.cells #[.slice x4 m4 c4] 23)))
  have HDL := Lib.hid (show ∀ k, (b.drop k).length ≤ 1000000 from fun k => by rw [List.length_drop]; omega)
  clear hm4 hsl hc4 hs4 hm4e hm HNW hn hq4
  go_enter_defers Try.func15, Try.ntmps15
  go_wp2_with fail
  refine C0.out.mono ?_; rintro e0 w2 ⟨rfl, rfl⟩
  go_wp2_with fail
  refine (must_yes _ _).mono ?_; rintro e0 w2 ⟨⟨v0, rfl⟩, rfl⟩
  go_wp2_with fail
  refine CR.out.mono ?_; rintro e0 w3 ⟨C1, C2, C3, rfl, hg3, hc1, hc2, hc3⟩
  have HDV3 := Lib.hid (HDV.out.kept hg3)
  have HRD3 := Lib.hid (show Rd w3 (w.heap.size + 1 + 1 + 1 + 1) C1 C2 C3 261 261 from ⟨hc1, hc2, hc3⟩)
  clear hg3 hc1 hc2 hc3 kc
  cases ht1 : take (b.drop 4) with
  | no =>
    have HNO := Lib.hid (show D = (.zero, 0, 261) from HD.out.trans (decL_f (fun n r e => by rw [ht1] at e; cases e)))
    have CN := Lib.hid (next_no HRD3.out HDV3.out.f (HDL.out 4) ht1)
    clear ht1
    go_wp2_with fail
    refine CN.out.mono ?_; rintro e0 v0 ⟨rfl, hg0⟩
    have HDX := Lib.hid (HDV3.out.kept hg0)
    clear hg0
    go_wp2
    exact HDX.out.fail HNO.out rfl rfl rfl (by decide)
  | soon =>
    have HNO := Lib.hid (show D = (.zero, 0, 261) from HD.out.trans (decL_f (fun n r e => by rw [ht1] at e; cases e)))
    have CN := Lib.hid (next_soon HRD3.out HDV3.out.f (HDL.out 4) ht1)
    clear ht1
    go_wp2_with fail
    refine CN.out.mono ?_; rintro e0 v0 ⟨rfl, hg0⟩
    have HDX := Lib.hid (HDV3.out.kept hg0)
    clear hg0
    go_wp2
    exact HDX.out.fail HNO.out rfl rfl rfl (by decide)
  | num y1 u1 =>
    have CN := Lib.hid (next_numP HRD3.out HDV3.out.f HDV3.out.q (HDL.out 4) ht1)
    have HT1 := Lib.hid ht1
    clear ht1
    go_wp2_with fail
    refine CN.out.mono ?_; rintro e0 v1 ⟨lx1, lc1, rfl, hlf, hg0, hrd0, hq0⟩
    have HDVa := Lib.hid (HDV3.out.step hlf hg0 hq0)
    have HRDa := Lib.hid hrd0
    clear hlf hg0 hrd0 hq0
    cases ht2 : take u1 with
    | no =>
      have HNO := Lib.hid (show D = (.zero, 0, 261) from HD.out.trans (decL_s HT1.out (fun n r e => by rw [ht2] at e; cases e)))
      have CN := Lib.hid (next_no HRDa.out HDVa.out.f (by have h1 := take_lt HT1.out; have h2 := HDL.out 4; omega) ht2)
      clear ht2
      go_wp2_with fail
      refine CN.out.mono ?_; rintro e0 v0 ⟨rfl, hg0⟩
      have HDX := Lib.hid (HDVa.out.kept hg0)
      clear hg0
      go_wp2
      exact HDX.out.fail HNO.out rfl rfl rfl (by decide)
    | soon =>
      have HNO := Lib.hid (show D = (.zero, 0, 261) from HD.out.trans (decL_s HT1.out (fun n r e => by rw [ht2] at e; cases e)))
      have CN := Lib.hid (next_soon HRDa.out HDVa.out.f (by have h1 := take_lt HT1.out; have h2 := HDL.out 4; omega) ht2)
      clear ht2
      go_wp2_with fail
      refine CN.out.mono ?_; rintro e0 v0 ⟨rfl, hg0⟩
      have HDX := Lib.hid (HDVa.out.kept hg0)
      clear hg0
      go_wp2
      exact HDX.out.fail HNO.out rfl rfl rfl (by decide)
    | num y2 u2 =>
      have CN := Lib.hid (next_numP HRDa.out HDVa.out.f HDVa.out.q (by have h1 := take_lt HT1.out; have h2 := HDL.out 4; omega) ht2)
      have HT2 := Lib.hid ht2
      clear ht2
      go_wp2_with fail
      refine CN.out.mono ?_; rintro e0 v2 ⟨lx2, lc2, rfl, hlf, hg0, hrd0, hq0⟩
      have HDVb := Lib.hid (HDVa.out.step hlf hg0 hq0)
      have HRDb := Lib.hid hrd0
      clear hlf hg0 hrd0 hq0
      cases ht3 : take u2 with
      | no =>
        have HNO := Lib.hid (show D = (.zero, 0, 261) from HD.out.trans (decL_m HT1.out HT2.out (fun n r e => by rw [ht3] at e; cases e)))
        have CN := Lib.hid (next_no HRDb.out HDVb.out.f (by have h1 := take_lt HT1.out; have h3 := take_lt HT2.out; have h2 := HDL.out 4; omega) ht3)
        clear ht3
        go_wp2_with fail
        refine CN.out.mono ?_; rintro e0 v0 ⟨rfl, hg0⟩
        have HDX := Lib.hid (HDVb.out.kept hg0)
        clear hg0
        go_wp2
        exact HDX.out.fail HNO.out rfl rfl rfl (by decide)
      | soon =>
        have HNO := Lib.hid (show D = (.zero, 0, 261) from HD.out.trans (decL_m HT1.out HT2.out (fun n r e => by rw [ht3] at e; cases e)))
        have CN := Lib.hid (next_soon HRDb.out HDVb.out.f (by have h1 := take_lt HT1.out; have h3 := take_lt HT2.out; have h2 := HDL.out 4; omega) ht3)
        clear ht3
        go_wp2_with fail
        refine CN.out.mono ?_; rintro e0 v0 ⟨rfl, hg0⟩
        have HDX := Lib.hid (HDVb.out.kept hg0)
        clear hg0
        go_wp2
        exact HDX.out.fail HNO.out rfl rfl rfl (by decide)
      | num y3 u3 =>
        have CN := Lib.hid (next_numP HRDb.out HDVb.out.f HDVb.out.q (by have h1 := take_lt HT1.out; have h3 := take_lt HT2.out; have h2 := HDL.out 4; omega) ht3)
        have HT3 := Lib.hid ht3
        clear ht3
        go_wp2_with fail
        refine CN.out.mono ?_; rintro e0 v3 ⟨lx3, lc3, rfl, hlf, hg0, hrd0, hq0⟩
        have HDVc := Lib.hid (HDVb.out.step hlf hg0 hq0)
        have HRDc := Lib.hid hrd0
        clear hlf hg0 hrd0 hq0
        by_cases hmx : y1 ≤ 65536 ∧ y2 ≤ 65536 ∧ y3 ≤ 65536
        · have hmn := max_le hmx
          clear hmx
          obtain ⟨mx, hmxe⟩ : ∃ mx : Int, mx = max (max (y1 : Int) (y2 : Int)) (y3 : Int) := ⟨_, rfl⟩
          have hmax : ∀ (ts : Array TypeId) (t : TypeId) (w : World), (Builtin.max_ ts t #[.int .i64 (y1 : Nat), .int .i64 (y2 : Nat), .int .i64 (y3 : Nat)]).run Try.prog w = .ok (.int .i64 mx) w := fun ts t w => by rw [hmxe]; exact run_max3 w ts t _ _ _
          rw [← hmxe] at hmn
          clear hmxe
          by_cases hHd : Hd (y1 : Nat) (y2 : Nat) (y3 : Nat)
          · have HDD := Lib.hid (HD.out.trans (decL_ok HM.out HT1.out HT2.out HT3.out hHd))
            have CH := Lib.hid (headed_yes (y1 : Nat) (y2 : Nat) (y3 : Nat) hHd v3)
            obtain ⟨DR, hDR⟩ : ∃ DR, DR = decR 0 ⟨(y1 : Nat), (y2 : Nat), (y3 : Nat), [], false, 0⟩ u3 := ⟨_, rfl⟩
            rw [← hDR] at HDD
            have HDR := Lib.hid hDR
            have HU3 := Lib.hid (take_rest HT1.out HT2.out HT3.out)
            clear hHd hDR
            go_wp2_with fail
            refine CH.out.mono ?_; rintro e0 w8 ⟨rfl, hg8⟩
            have HDV8 := Lib.hid (HDVc.out.kept hg8)
            clear hg8
            go_wp2_with fail
            refine (must_yes _ _).mono ?_; rintro e0 w9 ⟨⟨v0, rfl⟩, rfl⟩
            go_wp2_with (with_reducible refine hold_st 28 _ _ rfl ?_)
            apply Lib.hid
            with_reducible refine wpList_store_blk rfl 28 _ _ rfl _ ?o7001 ?cs7001 ?hx7001 ?hy7001 _ _ HDV8.out.l ?hf7001 _ ?hl7001 Try.size28 ?h17001 ?_
            case hy7001 => exact rfl
            case hx7001 => exact rfl
            case hf7001 => exact rfl
            case hl7001 => exact rfl
            case h17001 => simp [allOne, Value.oneCell']
            intro w10 hb10 hg10
            have hb10 : w10.heap[w.heap.size]? = some (.cells #[.int .i64 (y1 : Nat), .int .i64 (y2 : Nat), .int .i64 0, .slice none 0 0, .bool false, .int .i64 0] 31 (0, 0)) := hb10
            have j0 := cells_all hb10 2
            have j1 := frozen_all hb10 2
            have gs := grown_setCell w10 w.heap.size 2 (.int .i64 (y3 : Nat))
            have HDV11 := Lib.hid (HDV8.out.setL (ts' := []) (hg10.trans gs) (heap_setCell_at (j := 2) (.int .i64 (y3 : Nat)) hb10) (Made.nil _ _) rfl)
            have CR2 := Lib.hid (reader_ex (w.heap.size + 1 + 1 + 1 + 1) 260 0 (w10.setCell ⟨w.heap.size, 2, none⟩ (.int .i64 (y3 : Nat))))
            clear hg10 hb10 gs
            go_wp2_with fail
            refine CR2.out.mono ?_; rintro e0 w12 ⟨D1, D2, D3, rfl, hg12, hd1, hd2, hd3⟩
            have HDV12 := Lib.hid (HDV11.out.kept hg12)
            have HRD12 := Lib.hid (show Rd w12 (w.heap.size + 1 + 1 + 1 + 1) D1 D2 D3 260 0 from ⟨hd1, hd2, hd3⟩)
            clear hg12 hd1 hd2 hd3 j0 j1
            obtain ⟨p0, hp0⟩ : ∃ p0, p0 = n - u3.length := ⟨_, rfl⟩
            have hu3 := HU3.out
            rw [← HN.out, ← hp0] at hu3
            obtain ⟨m3, hm3⟩ : ∃ m3, m3 = u3.length := ⟨_, rfl⟩
            have k0 : w12.cell? ⟨w.heap.size + 1 + 1 + 1 + 1, 0, none⟩ = some (.slice lx3 m3 lc3) := by rw [hm3]; exact cells_all HDV12.out.f.b 0
            have k1 := cells_all HDV12.out.r 0
            have k2 := frozen_all HDV12.out.r 0
            have HDV13 := Lib.hid (HDV12.out.setR (p0 : Nat))
            have HRD13 := Lib.hid (HRD12.out.other HDV12.out.r (by decide) (by decide) (grown_setCell w12 (w.heap.size + 1) 0 (.int .i64 (p0 : Nat))))
            have hwp : IntKind.i64.wrap ((n : Int) - (m3 : Int)) = (p0 : Int) := by rw [IntKind.wrap_i64]; omega
            have HP0 := Lib.hid (show p0 ≤ n from by omega)
            have HDVL := Lib.hid (show Dv w (w12.setCell ⟨w.heap.size + 1, 0, none⟩ (.int .i64 (p0 : Nat))) (w.heap.size + 1 + 1 + 1 + 1) (y1 : Nat) (y2 : Nat) (y3 : Nat) none 0 0 false 0 (p0 : Nat) lx3 lc3 (b.drop p0) [] from by rw [hu3.1]; exact HDV13.out)
            have HDRL := Lib.hid (show decR 0 ⟨(y1 : Nat), (y2 : Nat), (y3 : Nat), rsOf [], false, 0⟩ (b.drop p0) = DR from by rw [hu3.1, HDR.out]; rfl)
            clear hu3 hp0 hm3
            go_wp2
            go_loopw [11] (fun last wr => ∃ (p : Nat) (z : Int) (lf ls lm : Int) (lwh : Bool) (le : Int) (ra : Option Addr) (rn rc : Nat) (ts : List Rv) (lx : Option Addr) (lc : Nat), last = .int .i64 z ∧ p ≤ n ∧ (0 ≤ z ∧ z ≤ 4611686018427387904) ∧ Dv w wr (w.heap.size + 1 + 1 + 1 + 1) lf ls lm ra rn rc lwh le (p : Nat) lx lc (b.drop p) ts ∧ Rd wr (w.heap.size + 1 + 1 + 1 + 1) D1 D2 D3 260 0 ∧ decR z ⟨lf, ls, lm, rsOf ts, lwh, le⟩ (b.drop p) = DR ∧ ts.length ≤ p) (fun _ wr => n - rdOf wr (w.heap.size + 1))
            case atStart => exact ⟨p0, 0, (y1 : Nat), (y2 : Nat), (y3 : Nat), false, 0, none, 0, 0, [], lx3, lc3, rfl, HP0.out, by omega, HDVL.out, HRD13.out, HDRL.out, Nat.zero_le _⟩
            case round =>
              obtain ⟨p, z, lf, ls, lm, lwh, le, ra, rn, rc, ts, lx, lc, rfl, hp, hz, hdv, hrd, hdr, hts⟩ := hrel
              have HDV := Lib.hid hdv
              have HRD := Lib.hid hrd
              have HDR2 := Lib.hid hdr
              have HZ := Lib.hid hz
              have HTS := Lib.hid hts
              obtain ⟨m, hm⟩ : ∃ m, m = (b.drop p).length := ⟨_, rfl⟩
              have HMM := Lib.hid hm
              have hmn2 : m = n - p := by rw [hm, List.length_drop]; have := HN.out; omega
              have HMN := Lib.hid hmn2
              have k0 : wr.cell? ⟨w.heap.size + 1 + 1 + 1 + 1, 0, none⟩ = some (.slice lx m lc) := by rw [hm]; exact cells_all hdv.f.b 0
              have k4 := cells_all hdv.l 4
              have HMS2 := Lib.hid hdv.rdOf
              clear hdv hrd hdr hz hts hm hmn2
              by_cases hlt : 0 < m
              · have hlt' : (0 : Int) < (m : Nat) := by omega
                have HNE := Lib.hid (show b.drop p ≠ [] from fun h => by have h2 := HMM.out; rw [h] at h2; simp at h2; omega)
                have hpn : p < n := by have := HMN.out; omega
                clear hlt
                cases lwh with
                | true =>
                  have HNO := Lib.hid (show D = (.zero, 0, 260) from by rw [HDD.out, ← HDR2.out, decR_wh HNE.out rfl]; rfl)
                  go_wp2_with fail
                  refine (must_no _ _).mono ?_; rintro e0 w9 ⟨rfl, rfl⟩
                  go_wp2
                  exact HDV.out.fail HNO.out rfl rfl rfl (by decide)
                | false =>
                  cases ht : take (b.drop p) with
                  | no =>
                    have HNO := Lib.hid (show D = (.zero, 0, 260) from by rw [HDD.out, ← HDR2.out, decR_no HNE.out ht]; rfl)
                    have CN := Lib.hid (next_no HRD.out HDV.out.f (HDL.out p) ht)
                    clear ht
                    go_wp2_with fail
                    refine (must_yes _ _).mono ?_; rintro e0 w9 ⟨⟨v0, rfl⟩, rfl⟩
                    go_wp2_with fail
                    refine CN.out.mono ?_; rintro e0 v0 ⟨rfl, hg0⟩
                    have HDX := Lib.hid (HDV.out.kept hg0)
                    clear hg0
                    go_wp2
                    exact HDX.out.fail HNO.out rfl rfl rfl (by decide)
                  | soon =>
                    have HDK := Lib.hid (show D = dec2 b (some (⟨lf, ls, lm, rsOf ts, false, le⟩, (b.drop p).length)) from by rw [HDD.out, ← HDR2.out, decR_soon HNE.out rfl ht])
                    have CN := Lib.hid (next_soon HRD.out HDV.out.f (HDL.out p) ht)
                    clear ht
                    go_wp2_with fail
                    refine (must_yes _ _).mono ?_; rintro e0 w9 ⟨⟨v0, rfl⟩, rfl⟩
                    go_wp2_with fail
                    refine CN.out.mono ?_; rintro e0 v0 ⟨rfl, hg0⟩
                    have HDX := Lib.hid (HDV.out.kept hg0)
                    clear hg0
                    go_wp2
                    exact HDX.out.soon HDK.out (by rw [List.length_drop]; have h := HN.out; omega) rfl rfl rfl rfl
                  | num y rs =>
                    have CN := Lib.hid (next_numP HRD.out HDV.out.f HDV.out.q (HDL.out p) ht)
                    have hrl := take_lt ht
                    rw [← HMM.out] at hrl
                    have HTD := Lib.hid (take_drop (l := b) (k := p) (by have := HN.out; omega) ht)
                    have HT := Lib.hid ht
                    clear ht
                    go_wp2_with fail
                    refine (must_yes _ _).mono ?_; rintro e0 w9 ⟨⟨v0, rfl⟩, rfl⟩
                    go_wp2_with fail
                    refine CN.out.mono ?_; rintro e0 v1 ⟨lx1, lc1, rfl, hlf, hg0, hrd0, hq0⟩
                    have HDV1 := Lib.hid (HDV.out.step hlf hg0 hq0)
                    have HRD1 := Lib.hid hrd0
                    obtain ⟨m1, hm1⟩ : ∃ m1, m1 = rs.length := ⟨_, rfl⟩
                    have HM1 := Lib.hid hm1
                    rw [← hm1] at hrl
                    have k10 : v1.cell? ⟨w.heap.size + 1 + 1 + 1 + 1, 0, none⟩ = some (.slice lx1 m1 lc1) := by rw [hm1]; exact cells_all hlf.b 0
                    have HLC := Lib.hid (show m1 ≤ lc1 from by rw [hm1]; exact hlf.c)
                    have HLS := Lib.hid hlf.s
                    clear hlf hg0 hrd0 hq0 hm1 k0 k4
                    by_cases hy : y ≤ m1
                    · have hyn : (y : Int) ≤ (m1 : Nat) := by omega
                      have hyc : y ≤ lc1 := by have := HLC.out; omega
                      have HYC := Lib.hid hyc
                      have HYM := Lib.hid hy
                      have HYR := Lib.hid (show y ≤ rs.length from by rw [← HM1.out]; exact hy)
                      have htl : (rs.take y).length = y := by rw [List.length_take]; have := HYR.out; omega
                      have CB := record_any lx1 lc1 (rs.take y) z v1 (src_take HLS.out y) (by rw [htl]; exact hyc) (by rw [htl]; have h1 := HM1.out; have h2 := HMM.out; have h3 := HDL.out p; omega) HZ.out.1 HZ.out.2
                      rw [htl] at CB
                      have CB := Lib.hid CB
                      clear htl hyc
                      go_wp2_with fail
                      refine (must_yes _ _).mono ?_; rintro e0 w9 ⟨⟨v0, rfl⟩, rfl⟩
                      go_wp2_with (with_reducible refine hold_sl 23 _ _ _ _ rfl ?_)
                      apply Lib.hid
                      refine wpList_val (by rfl) (exec_sl_hi eB elemB (x := .tmp 75) (y := .tmp 76) rfl lx1 m1 lc1 y rfl rfl HYC.out _) ?_
                      cases hbd : decB (rs.take y) z with
                      | none =>
                        have HNO := Lib.hid (show D = (.zero, 0, 260) from by rw [HDD.out, ← HDR2.out, decR_bad HNE.out rfl HT.out HYR.out hbd]; rfl)
                        have CB := CB.out
                        rw [hbd] at CB
                        clear hbd
                        go_wp2_with fail
                        refine CB.mono ?_; rintro e0 v2 ⟨rfl, hg2⟩
                        have HDX := Lib.hid (HDV1.out.kept hg2)
                        clear hg2 CB
                        go_wp2
                        exact HDX.out.fail HNO.out rfl rfl rfl (by decide)
                      | some r =>
                        obtain ⟨ga, gk, gn, gb⟩ := r
                        have hbb := decB_bd hbd HZ.out
                        have HBD := Lib.hid hbd
                        have HBB := Lib.hid hbb
                        have CB := CB.out
                        rw [hbd] at CB
                        clear hbd hbb
                        go_wp2_with fail
                        refine CB.mono ?_; rintro e0 v2 ⟨gx, gc, rfl, hgs, hg2, hgr2⟩
                        simp only at hgs hgr2
                        clear CB hgr2
                        have HGS0 := Lib.hid hgs
                        obtain ⟨gm, hgm⟩ : ∃ gm, gm = gb.length := ⟨_, rfl⟩
                        rw [← hgm]
                        have HGM := Lib.hid hgm
                        have HGA := Lib.hid (World.grownBy_alloc v2 (.cells #[.int .i64 ga, .int .i64 gk, .int .i64 gn, .slice gx gm gc] 25) none)
                        have HDV3 := Lib.hid ((HDV1.out.kept hg2).kept HGA.out)
                        have HRD3 := Lib.hid ((HRD1.out.kept hg2).kept HGA.out)
                        have HGS := Lib.hid (hgs.keptNone HGA.out)
                        have HT13 := Lib.hid (heap_alloc_new v2 (.cells #[.int .i64 ga, .int .i64 gk, .int .i64 gn, .slice gx gm gc] 25))
                        have HLS3 := Lib.hid ((HLS.out.keptNone hg2).keptNone HGA.out)
                        have HV2S := Lib.hid (show w.heap.size + 1 + 1 + 1 + 1 < v2.heap.size from lt_of_block (HDV1.out.kept hg2).f.b)
                        clear hgs hg2 hgm
                        go_wp2
                        obtain ⟨W3, hW3⟩ : ∃ W3, W3 = (v2.alloc (.cells #[.int .i64 ga, .int .i64 gk, .int .i64 gn, .slice gx gm gc] 25)) := ⟨_, rfl⟩
                        rw [← hW3] at HDV3 HRD3 HGS HT13 HLS3 HGA ⊢
                        clear hW3
                        obtain ⟨lx4, lc4, hsl4, hlc4, hls4⟩ := from_4 HLS3.out (by rw [← HM1.out]; exact HLC.out) y HYR.out
                        have hq4 := sliced_blk (l := rs) (l' := rs.drop y) hsl4 HDV3.out.q (fun h e => h (by rw [e]; simp)) (src_spot HLS3.out)
                        rw [← HM1.out] at hsl4
                        obtain ⟨m4, hm4⟩ : ∃ m4, m4 = (rs.drop y).length := ⟨_, rfl⟩
                        have HM4 := Lib.hid hm4
                        have HSL4 := Lib.hid (show Value.slice lx4 m4 lc4 = sliced lx1 y m1 lc1 1 from by rw [hsl4, hm4])
                        obtain ⟨hlf5, hg5⟩ := HDV3.out.f.set hls4 hlc4
                        rw [← hm4] at hlf5 hg5
                        have HDV5 := Lib.hid (HDV3.out.step hlf5 hg5 hq4)
                        have HRD5 := Lib.hid (HRD3.out.other HDV3.out.f.b (by decide) (by decide) hg5)
                        have HG5 := Lib.hid hg5
                        have b0 : W3.drew.cell? ⟨w.heap.size + 1 + 1 + 1 + 1, 0, none⟩ = some (.slice lx1 m1 lc1) := by rw [HM1.out]; exact cells_all HDV3.out.f.b 0
                        have b1 : W3.drew.frozen? ⟨w.heap.size + 1 + 1 + 1 + 1, 0, none⟩ = false := frozen_all HDV3.out.f.b 0
                        have HB0 := Lib.hid b0
                        have HB1 := Lib.hid b1
                        have hq : ∃ q, q + m1 = n := ⟨n - m1, by have := HMN.out; omega⟩
                        obtain ⟨q, hq⟩ := hq
                        have HDQ := Lib.hid (show b.drop q = rs from by have h := HTD.out; rw [← HN.out, ← HM1.out, show n - m1 = q from by omega] at h; exact h)
                        clear hsl4 hq4 hlc4 hls4 hm4 hlf5 hg5 b0 b1 k10
                        refine regx_open_n (fun k => k = w.heap.size + 1 + 1 + 1 + 1) (n := 7) rfl (by kernel_rfl) ?_
                        refine regx_take 1 (some 81) (v := ?_) rfl rfl (by kernel_rfl) (by kernel_rfl) (by kernel_rfl) (fun _ _ _ h => h) (by rfl) ?_ ?_
                        rotate_left
                        · intro W hW; go_simp; first | done | with_reducible rfl
                        try simp only [Act.put, List.setIfInBounds_toArray, List.set_cons_zero, List.set_cons_succ]
                        refine regx_take 3 (some 83) (v := ?_) rfl rfl (by kernel_rfl) (by kernel_rfl) (by kernel_rfl) (fun _ _ _ h => h) (by rfl) ?_ ?_
                        rotate_left
                        · intro W hW; go_simp; first | done | with_reducible rfl
                        try simp only [Act.put, List.setIfInBounds_toArray, List.set_cons_zero, List.set_cons_succ]
                        refine regx_take 4 (some 84) (v := ?_) rfl rfl (by kernel_rfl) (by kernel_rfl) (by kernel_rfl) (fun _ _ _ h => h) (by rfl) ?_ ?_
                        rotate_left
                        · intro W hW; have k := keeps_cell hW (show W3.drew.cell? ⟨v2.heap.size, 0, none⟩ = some (.int .i64 ga) from cells_all HT13.out 0) (by have := HV2S.out; omega); go_simp; first | done | with_reducible rfl
                        try simp only [Act.put, List.setIfInBounds_toArray, List.set_cons_zero, List.set_cons_succ]
                        refine wpAnyH_ready (rs := [0]) (by kernel_rfl) (by simp) ?_
                        refine (AllReadyH.cons (o := { dst := some 80, op := Op.load 23 (Operand.tmp 5), type := 23, pos := "log.go:178", after := #[], guard := none }) rfl (fun K hK => ?_) AllReadyH.nil)
                        have r0 := HB0.out
                        have r1 : W3.cell? ⟨w.heap.size + 1 + 1 + 1 + 1, 0, none⟩ = some (.slice lx1 m1 lc1) := HB0.out
                        go_simp
                        refine regx_same hK ?_
                        clear hK K
                        try simp only [Act.put, List.setIfInBounds_toArray, List.set_cons_zero, List.set_cons_succ]
                        refine regx_take 2 (some 82) (v := ?_) rfl rfl (by kernel_rfl) (by kernel_rfl) (by kernel_rfl) (fun _ _ _ h => h) (by rfl) ?_ ?_
                        rotate_left
                        · intro W hW; refine exec_sl eB elemB (x := .tmp 80) (y := .tmp 81) ?_ lx1 m1 lc1 y ?_ ?_ HYM.out _ (.slice lx4 m4 lc4) HSL4.out <;> rfl
                        try simp only [Act.put, List.setIfInBounds_toArray, List.set_cons_zero, List.set_cons_succ]
                        refine wpAnyH_ready (rs := [5]) (by kernel_rfl) (by simp) ?_
                        refine (AllReadyH.cons (o := { dst := none, op := Op.store 23 (Operand.tmp 5) (Operand.tmp 82), type := 0, pos := "log.go:178", after := #[{ on := 2, ground := Ground.data }, { on := 0, ground := Ground.phase }, { on := 1, ground := Ground.phase }, { on := 2, ground := Ground.phase }, { on := 3, ground := Ground.textOnly Departure.lateStores }, { on := 4, ground := Ground.textOnly Departure.lateStores }], guard := none }) rfl (fun K hK => ?_) AllReadyH.nil)
                        have j0 := HB0.out
                        have j1 := HB1.out
                        have gs := grown_setCell W3.drew (w.heap.size + 1 + 1 + 1 + 1) 0 (.slice lx4 m4 lc4)
                        go_simp
                        refine regx_next hK (Keeps.row gs rfl) ?_
                        clear hK K
                        try simp only [Act.put]
                        refine regx_take 6 (some 11) (v := ?_) rfl rfl (by kernel_rfl) (by kernel_rfl) (by kernel_rfl) (fun _ _ _ h => h) (by rfl) ?_ ?_
                        rotate_left
                        · intro W hW; go_simp; first | done | with_reducible rfl
                        try simp only [Act.put, List.setIfInBounds_toArray, List.set_cons_zero, List.set_cons_succ]
                        refine wpAnyH_done (by kernel_rfl) ?_ _
                        refine OnlyNormal.mk ?_
                        clear r0 r1
                        have HDV6 := Lib.hid (show Dv w (W3.setCell ⟨w.heap.size + 1 + 1 + 1 + 1, 0, none⟩ (.slice lx4 m4 lc4)).drew (w.heap.size + 1 + 1 + 1 + 1) lf ls lm ra rn rc false le (p : Nat) lx4 lc4 (rs.drop y) ts from ⟨HDV5.out.l, HDV5.out.r, HDV5.out.e, ⟨HDV5.out.f.s, HDV5.out.f.c, HDV5.out.f.n, HDV5.out.f.b⟩, ⟨HDV5.out.d.g, HDV5.out.d.r, HDV5.out.d.b⟩, HDV5.out.n, drewr HDV5.out.g, HDV5.out.b, HDV5.out.q⟩)
                        have HRD6 := Lib.hid (show Rd (W3.setCell ⟨w.heap.size + 1 + 1 + 1 + 1, 0, none⟩ (.slice lx4 m4 lc4)).drew (w.heap.size + 1 + 1 + 1 + 1) D1 D2 D3 260 0 from ⟨HRD5.out.c1, HRD5.out.c2, HRD5.out.c3⟩)
                        have HT136 := Lib.hid (show (W3.setCell ⟨w.heap.size + 1 + 1 + 1 + 1, 0, none⟩ (.slice lx4 m4 lc4)).drew.heap[v2.heap.size]? = some (.cells #[.int .i64 ga, .int .i64 gk, .int .i64 gn, .slice gx gm gc] 25 (0, 0)) from (HG5.out.block _ (lt_of_block HT13.out) (by have := HV2S.out; simp; omega)).trans HT13.out)
                        have HGS6 := Lib.hid (show Gs eB (W3.setCell ⟨w.heap.size + 1 + 1 + 1 + 1, 0, none⟩ (.slice lx4 m4 lc4)).drew (.slice gx gb.length gc) gb.length (bsV gb) from by have h := HGS.out.kept HG5.out (fun k e1 e2 => HGS.out.ne HDV3.out.f.b (by decide) (e1.trans e2)); exact h)
                        obtain ⟨V6, hV6⟩ : ∃ V6, V6 = (W3.setCell ⟨w.heap.size + 1 + 1 + 1 + 1, 0, none⟩ (.slice lx4 m4 lc4)).drew := ⟨_, rfl⟩
                        rw [← hV6] at HDV6 HRD6 HT136 HGS6 ⊢
                        clear hV6 j0 j1 gs
                        obtain ⟨qy, hqy⟩ : ∃ qy, qy = q + y := ⟨_, rfl⟩
                        have HDW := Lib.hid (show rs.drop y = b.drop qy from by rw [← HDQ.out, List.drop_drop, hqy])
                        have HQY := Lib.hid (show qy ≤ n from by have := HYM.out; omega)
                        have HPQ := Lib.hid (show p < qy from by have h1 := HMN.out; omega)
                        have HWL := Lib.hid (show m4 = n - qy from by rw [HM4.out, HDW.out, List.length_drop]; have := HN.out; omega)
                        have x0 : V6.cell? ⟨v2.heap.size, 0, none⟩ = some (.int .i64 ga) := cells_all HT136.out 0
                        have x1 : V6.cell? ⟨v2.heap.size, 1, none⟩ = some (.int .i64 gk) := cells_all HT136.out 1
                        have hwr : IntKind.i64.wrap ((n : Int) - (m4 : Int)) = (qy : Int) := by have h1 := HWL.out; have h2 := HQY.out; rw [IntKind.wrap_i64]; omega
                        clear hqy
                        by_cases h8 : gk = 8
                        · have h8b : (gk == 8) = true := by simp [h8]
                          have HDR3 := Lib.hid (show decR ga ⟨lf, ls, lm, rsOf ts, true, ga⟩ (b.drop qy) = DR from by rw [← HDR2.out, decR_8 HNE.out rfl HT.out HYR.out HBD.out h8, HDW.out])
                          clear h8
                          go_wp2
                          refine regx_open_n (fun k => k = w.heap.size) (n := 6) rfl (by kernel_rfl) ?_
                          refine regx_take 0 (some 88) (v := ?_) rfl rfl (by kernel_rfl) (by kernel_rfl) (by kernel_rfl) (fun _ _ _ h => h) (by rfl) ?_ ?_
                          rotate_left
                          · intro W hW; go_simp; first | done | with_reducible rfl
                          try simp only [Act.put, List.setIfInBounds_toArray, List.set_cons_zero, List.set_cons_succ]
                          refine regx_take 1 (some 89) (v := ?_) rfl rfl (by kernel_rfl) (by kernel_rfl) (by kernel_rfl) (fun _ _ _ h => h) (by rfl) ?_ ?_
                          rotate_left
                          · intro W hW; have k := keeps_cell hW (show V6.drew.cell? ⟨v2.heap.size, 0, none⟩ = some (.int .i64 ga) from cells_all HT136.out 0) (by have := HV2S.out; omega); go_simp; first | done | with_reducible rfl
                          try simp only [Act.put, List.setIfInBounds_toArray, List.set_cons_zero, List.set_cons_succ]
                          refine regx_take 2 (some 90) (v := ?_) rfl rfl (by kernel_rfl) (by kernel_rfl) (by kernel_rfl) (fun _ _ _ h => h) (by rfl) ?_ ?_
                          rotate_left
                          · intro W hW; go_simp; first | done | with_reducible rfl
                          try simp only [Act.put, List.setIfInBounds_toArray, List.set_cons_zero, List.set_cons_succ]
                          refine wpAnyH_ready (rs := [3]) (by kernel_rfl) (by simp) ?_
                          refine (AllReadyH.cons (o := { dst := none, op := Op.store 4 (Operand.tmp 90) (Operand.const (Value.bool true)), type := 0, pos := "log.go:180", after := #[{ on := 2, ground := Ground.data }, { on := 0, ground := Ground.textOnly Departure.lateStoresUnsure }, { on := 1, ground := Ground.textOnly Departure.lateStoresUnsure }], guard := none }) rfl (fun K hK => ?_) AllReadyH.nil)
                          have j0 : V6.drew.cell? ⟨w.heap.size, 4, none⟩ = some (.bool false) := cells_all HDV6.out.l 4
                          have j1 : V6.drew.frozen? ⟨w.heap.size, 4, none⟩ = false := frozen_all HDV6.out.l 4
                          have HY4 : (V6.drew.setCell ⟨w.heap.size, 4, none⟩ (.bool true)).heap[w.heap.size]? = some (.cells #[.int .i64 lf, .int .i64 ls, .int .i64 lm, .slice ra rn rc, .bool true, .int .i64 le] 31 (0, 0)) := heap_setCell_at (j := 4) (.bool true) HDV6.out.l
                          have HY4 := Lib.hid HY4
                          have gs4 := grown_setCell V6.drew w.heap.size 4 (.bool true)
                          go_simp
                          refine regx_next hK (Keeps.row gs4 rfl) ?_
                          clear hK K
                          try simp only [Act.put]
                          refine regx_take 4 (some 91) (v := ?_) rfl rfl (by kernel_rfl) (by kernel_rfl) (by kernel_rfl) (fun _ _ _ h => h) (by rfl) ?_ ?_
                          rotate_left
                          · intro W hW; go_simp; first | done | with_reducible rfl
                          try simp only [Act.put, List.setIfInBounds_toArray, List.set_cons_zero, List.set_cons_succ]
                          refine wpAnyH_ready (rs := [5]) (by kernel_rfl) (by simp) ?_
                          refine (AllReadyH.cons (o := { dst := none, op := Op.store 2 (Operand.tmp 91) (Operand.tmp 89), type := 0, pos := "log.go:180", after := #[{ on := 4, ground := Ground.data }, { on := 1, ground := Ground.data }, { on := 3, ground := Ground.chain }, { on := 0, ground := Ground.phase }, { on := 1, ground := Ground.phase }, { on := 2, ground := Ground.phase }, { on := 3, ground := Ground.phase }], guard := none }) rfl (fun K hK => ?_) AllReadyH.nil)
                          have j2 : (V6.drew.setCell ⟨w.heap.size, 4, none⟩ (.bool true)).cell? ⟨w.heap.size, 5, none⟩ = some (.int .i64 le) := cells_all HY4.out 5
                          have j3 : (V6.drew.setCell ⟨w.heap.size, 4, none⟩ (.bool true)).frozen? ⟨w.heap.size, 5, none⟩ = false := frozen_all HY4.out 5
                          have j4 : V6.drew.cell? ⟨w.heap.size, 5, none⟩ = some (.int .i64 le) := cells_all HDV6.out.l 5
                          have j5 : V6.drew.frozen? ⟨w.heap.size, 5, none⟩ = false := frozen_all HDV6.out.l 5
                          have j6 : V6.cell? ⟨w.heap.size, 5, none⟩ = some (.int .i64 le) := cells_all HDV6.out.l 5
                          have j7 : V6.frozen? ⟨w.heap.size, 5, none⟩ = false := frozen_all HDV6.out.l 5
                          have HY5 : ((V6.drew.setCell ⟨w.heap.size, 4, none⟩ (.bool true)).setCell ⟨w.heap.size, 5, none⟩ (.int .i64 ga)).heap[w.heap.size]? = some (.cells #[.int .i64 lf, .int .i64 ls, .int .i64 lm, .slice ra rn rc, .bool true, .int .i64 ga] 31 (0, 0)) := heap_setCell_at (j := 5) (.int .i64 ga) HY4.out
                          have HY5 := Lib.hid HY5
                          have gs5 := grown_setCell (V6.drew.setCell ⟨w.heap.size, 4, none⟩ (.bool true)) w.heap.size 5 (.int .i64 ga)
                          go_simp
                          refine regx_next hK (Keeps.row gs5 rfl) ?_
                          clear hK K
                          try simp only [Act.put]
                          refine wpAnyH_done (by kernel_rfl) ?_ _
                          refine OnlyNormal.mk ?_
                          have gs45 : V6.grownBy ((V6.drew.setCell ⟨w.heap.size, 4, none⟩ (.bool true)).setCell ⟨w.heap.size, 5, none⟩ (.int .i64 ga)) (some w.heap.size) := (drewl gs4).trans gs5
                          have HDV8 := HDV6.out.setL gs45 HY5.out HDV6.out.d HDV6.out.n
                          have HRD8 := HRD6.out.other HDV6.out.l (by decide) (by decide) gs45
                          have e5 : ((V6.drew.setCell ⟨w.heap.size, 4, none⟩ (.bool true)).setCell ⟨w.heap.size, 5, none⟩ (.int .i64 ga)) = ((V6.setCell ⟨w.heap.size, 4, none⟩ (.bool true)).setCell ⟨w.heap.size, 5, none⟩ (.int .i64 ga)).drew := rfl
                          rw [e5] at HDV8 HRD8
                          obtain ⟨V8, hV8⟩ : ∃ V8, V8 = ((V6.setCell ⟨w.heap.size, 4, none⟩ (.bool true)).setCell ⟨w.heap.size, 5, none⟩ (.int .i64 ga)).drew := ⟨_, rfl⟩
                          rw [← hV8] at HDV8 HRD8 ⊢
                          have HDV8 := Lib.hid HDV8
                          have HRD8 := Lib.hid HRD8
                          clear hV8 e5 j0 j1 j2 j3 j4 j5 j6 j7 gs4 gs5 gs45 x0 x1
                          have e0 : V8.cell? ⟨w.heap.size + 1 + 1 + 1 + 1, 0, none⟩ = some (.slice lx4 m4 lc4) := by rw [HM4.out]; exact cells_all HDV8.out.f.b 0
                          have e1 := cells_all HDV8.out.r 0
                          have e2 := frozen_all HDV8.out.r 0
                          have HDVR := Lib.hid (HDV8.out.setR (qy : Int))
                          have HRDR := Lib.hid (HRD8.out.other HDV8.out.r (by decide) (by decide) (grown_setCell V8 (w.heap.size + 1) 0 (.int .i64 (qy : Int))))
                          have HMR := Lib.hid HDVR.out.rdOf
                          go_wp2
                          go_roundw
                          case rel => exact ⟨qy, ga, lf, ls, lm, true, ga, ra, rn, rc, ts, lx4, lc4, rfl, HQY.out, by have h1 : z ≤ ga := HBB.out.1; have h2 : ga ≤ 4611686018427387904 := HBB.out.2.1; have h3 := HZ.out; omega, by rw [← HDW.out]; exact HDVR.out, HRDR.out, HDR3.out, by have h1 := HTS.out; have h2 := HPQ.out; simp <;> omega⟩
                          case measure => rw [HMS2.out, HMR.out]; have h2 := HPQ.out; omega
                        · have h8b : (gk == 8) = false := by simp [h8]
                          have HDR3 := Lib.hid (show decR ga ⟨lf, ls, lm, rsOf (ts ++ [⟨ga, gk, gn, gb, gx, gc⟩]), false, le⟩ (b.drop qy) = DR from by rw [← HDR2.out, decR_ok HNE.out rfl HT.out HYR.out HBD.out h8, HDW.out]; simp [rsOf])
                          have k3 := cells_all HDV6.out.l 3
                          have x2 : V6.cell? ⟨v2.heap.size, 2, none⟩ = some (.int .i64 gn) := cells_all HT136.out 2
                          have x3 : V6.cell? ⟨v2.heap.size, 3, none⟩ = some (.slice gx gm gc) := cells_all HT136.out 3
                          have HGA2 := Lib.hid (World.grownBy_alloc V6 (.cells #[.int .i64 ga, .int .i64 gk, .int .i64 gn, .slice gx gm gc] 25) none)
                          have HSR4 := Lib.hid (show Go.Src Try.prog 4 29 (.slice (some ⟨V6.heap.size, 0, none⟩) 1 1) 1 (Rv.cells ⟨ga, gk, gn, gb, gx, gc⟩) (V6.alloc (.cells #[.int .i64 ga, .int .i64 gk, .int .i64 gn, .slice gx gm gc] 25)) from by have h := rec_src V6 ⟨ga, gk, gn, gb, gx, gc⟩; have e : (.cells (Rv.cells ⟨ga, gk, gn, gb, gx, gc⟩).toArray 25 : Obj) = .cells #[.int .i64 ga, .int .i64 gk, .int .i64 gn, .slice gx gm gc] 25 := (by rw [HGM.out]); rw [e] at h; exact h)
                          have HDV7 := Lib.hid (HDV6.out.kept HGA2.out)
                          have HRD7 := Lib.hid (HRD6.out.kept HGA2.out)
                          have HGS7 := Lib.hid (HGS6.out.keptNone HGA2.out)
                          clear h8
                          go_wp2_with (at_builtin; refine wpList_gs eR rfl _ _ 29 rfl _ rn 1 (ts.flatMap Rv.cells) (Rv.cells ⟨ga, gk, gn, gb, gx, gc⟩) rfl rfl (by have h := HDV7.out.d.g; rw [← HDV7.out.n] at h; exact h) HSR4.out (flat_one _) (by have h1 := HTS.out; have h2 := HDV7.out.n; omega) ?_)
                          intro v5 w5 hq5 hg5 hr5
                          obtain ⟨hM5, hG5⟩ := Made.app (t := ⟨ga, gk, gn, gb, gx, gc⟩) HDV7.out.d HGS7.out (by rw [← HDV7.out.n]; exact hq5) hg5 hr5 HDV7.out.g (Nat.le_of_eq (World.size_alloc _ _))
                          obtain ⟨ra5, rc5, rfl, -⟩ := hM5.g.shape
                          obtain ⟨rn5, hrn5⟩ : ∃ r5, r5 = (ts ++ [(⟨ga, gk, gn, gb, gx, gc⟩ : Rv)]).length := ⟨_, rfl⟩
                          rw [← hrn5] at hM5 ⊢
                          have HRN5 := Lib.hid hrn5
                          obtain ⟨hLb, hRb, hBb, hdv8⟩ := HDV7.out.app hg5 hG5 hM5 hrn5
                          have q1 : w5.cell? ⟨w.heap.size + 1 + 1 + 1 + 1, 0, none⟩ = some (.slice lx4 m4 lc4) := by rw [HM4.out]; exact cells_all hBb 0
                          have q2 := cells_all hRb 0
                          have q3 := frozen_all hRb 0
                          have HRD8 := Lib.hid ((HRD7.out.app HDV7.out.d.g hg5).other hLb (by decide) (by decide) (grown_setCell w5 w.heap.size 3 (.slice ra5 rn5 rc5)))
                          have HDV8 := Lib.hid hdv8
                          have j0 := cells_all hLb 3
                          have j1 := frozen_all hLb 3
                          clear hq5 hg5 hr5 hM5 hG5 hrn5 hLb hRb hBb hdv8 k3 x0 x1 x2 x3
                          have e0 : (w5.setCell ⟨w.heap.size, 3, none⟩ (.slice ra5 rn5 rc5)).cell? ⟨w.heap.size + 1 + 1 + 1 + 1, 0, none⟩ = some (.slice lx4 m4 lc4) := by rw [HM4.out]; exact cells_all HDV8.out.f.b 0
                          have e1 := cells_all HDV8.out.r 0
                          have e2 := frozen_all HDV8.out.r 0
                          have HDVR := Lib.hid (HDV8.out.setR (qy : Int))
                          have HRDR := Lib.hid (HRD8.out.other HDV8.out.r (by decide) (by decide) (grown_setCell (w5.setCell ⟨w.heap.size, 3, none⟩ (.slice ra5 rn5 rc5)) (w.heap.size + 1) 0 (.int .i64 (qy : Int))))
                          have HMR := Lib.hid HDVR.out.rdOf
                          go_wp2
                          go_roundw
                          case rel => exact ⟨qy, ga, lf, ls, lm, false, le, ra5, rn5, rc5, ts ++ [⟨ga, gk, gn, gb, gx, gc⟩], lx4, lc4, rfl, HQY.out, by have h1 : z ≤ ga := HBB.out.1; have h2 : ga ≤ 4611686018427387904 := HBB.out.2.1; have h3 := HZ.out; omega, by rw [← HDW.out]; exact HDVR.out, HRDR.out, HDR3.out, by have h1 := HTS.out; have h2 := HPQ.out; simp <;> omega⟩
                          case measure => rw [HMS2.out, HMR.out]; have h2 := HPQ.out; omega
                    · have hyn : ¬ (y : Int) ≤ (m1 : Nat) := by omega
                      have hd1 : decide (y ≤ m1) = false := by simp; omega
                      have hd2 : decide ((y : Int) ≤ (m1 : Int)) = false := by simp; omega
                      have hd3 : (m1 : Int) < (y : Int) := by omega
                      have HDK := Lib.hid (show D = dec2 b (some (⟨lf, ls, lm, rsOf ts, false, le⟩, (b.drop p).length)) from by rw [HDD.out, ← HDR2.out, decR_short HNE.out rfl HT.out (by rw [← HM1.out]; exact hy)])
                      clear hy
                      go_wp2_with fail
                      refine (must_no _ _).mono ?_; rintro e0 w9 ⟨rfl, rfl⟩
                      go_wp2
                      exact HDV1.out.soon HDK.out (by rw [List.length_drop]; have h := HN.out; omega) rfl rfl rfl rfl
              · have hlt' : ¬ (0 : Int) < (m : Nat) := by omega
                have HDK := Lib.hid (show D = dec2 b (some (⟨lf, ls, lm, rsOf ts, lwh, le⟩, 0)) from by rw [HDD.out, ← HDR2.out, show b.drop p = [] from List.length_eq_zero_iff.1 (by have h := HMM.out; omega), decR_nil])
                go_wp2
                refine regx_open_n (fun k => k = w.heap.size + 1 + 1 ∨ k = w.heap.size ∨ k = w.heap.size + 1) (n := 5) rfl (by kernel_rfl) ?_
                refine wpAnyH_ready (rs := [0, 1]) (by kernel_rfl) (by simp) ?_
                refine (AllReadyH.cons (o := { dst := some 98, op := Op.load 31 (Operand.tmp 2), type := 31, pos := "log.go:185", after := #[], guard := none }) rfl (fun K hK => ?_) (AllReadyH.cons (o := { dst := some 99, op := Op.load 3 (Operand.tmp 3), type := 3, pos := "log.go:185", after := #[], guard := none }) rfl (fun K hK => ?_) AllReadyH.nil))
                · refine wp_of_exec (exec_ld31 (x := .tmp 2) rfl rfl HDV.out.l) ?_
                  refine regx_same hK ?_
                  clear hK K
                  try simp only [Act.put, List.setIfInBounds_toArray, List.set_cons_zero, List.set_cons_succ]
                  refine wpAnyH_ready (rs := [1, 2]) (by kernel_rfl) (by simp) ?_
                  refine (AllReadyH.cons (o := { dst := some 99, op := Op.load 3 (Operand.tmp 3), type := 3, pos := "log.go:185", after := #[], guard := none }) rfl (fun K hK => ?_) (AllReadyH.cons (o := { dst := none, op := Op.store 31 (Operand.tmp 2) (Operand.tmp 98), type := 0, pos := "log.go:185", after := #[{ on := 0, ground := Ground.data }, { on := 0, ground := Ground.phase }, { on := 1, ground := Ground.textOnly Departure.lateStoresUnsure }], guard := none }) rfl (fun K hK => ?_) AllReadyH.nil))
                  · have r0 : wr.drew.cell? ⟨w.heap.size + 1, 0, none⟩ = some (.int .i64 (p : Nat)) := cells_all HDV.out.r 0
                    have r1 : wr.cell? ⟨w.heap.size + 1, 0, none⟩ = some (.int .i64 (p : Nat)) := cells_all HDV.out.r 0
                    try have r2 := cells_all ((h2.block _ (lt_of_block HDV.out.r) (by simp)).trans HDV.out.r) 0
                    go_simp
                    refine regx_same hK ?_
                    clear hK K
                    try simp only [Act.put, List.setIfInBounds_toArray, List.set_cons_zero, List.set_cons_succ]
                    refine wpAnyH_ready (rs := [2]) (by kernel_rfl) (by simp) ?_
                    refine (AllReadyH.cons (o := { dst := none, op := Op.store 31 (Operand.tmp 2) (Operand.tmp 98), type := 0, pos := "log.go:185", after := #[{ on := 0, ground := Ground.data }, { on := 0, ground := Ground.phase }, { on := 1, ground := Ground.textOnly Departure.lateStoresUnsure }], guard := none }) rfl (fun K hK => ?_) AllReadyH.nil)
                    refine wp_store_all 31 _ _ rfl w.heap.size ?csu15 ?hxu15 ?hyu15 [.int .i64 lf, .int .i64 ls, .int .i64 lm, .slice ra rn rc, .bool lwh, .int .i64 le] 31 ?hzu15 ?hfu15 6 ?hnu15 Try.size31 ?h1u15 ?_
                    case hyu15 => exact rfl
                    case hxu15 => exact rfl
                    case hzu15 => exact HDV.out.l
                    case hfu15 => exact rfl
                    case hnu15 => exact rfl
                    case h1u15 => simp [allOne, Value.oneCell']
                    intro v2 hb2 h2
                    refine regx_next hK (Keeps.row h2 (.inr (.inl rfl))) ?_
                    clear hK K
                    try simp only [Act.put]
                    refine wpAnyH_ready (rs := [3]) (by kernel_rfl) (by simp) ?_
                    refine (AllReadyH.cons (o := { dst := none, op := Op.store 3 (Operand.tmp 3) (Operand.tmp 99), type := 0, pos := "log.go:185", after := #[{ on := 1, ground := Ground.data }, { on := 2, ground := Ground.chain }, { on := 0, ground := Ground.phase }, { on := 1, ground := Ground.phase }, { on := 2, ground := Ground.phase }], guard := none }) rfl (fun K hK => ?_) AllReadyH.nil)
                    have hr2 := (h2.block _ (lt_of_block HDV.out.r) (by simp)).trans HDV.out.r
                    have r3 := cells_all hr2 0
                    have r4 := frozen_all hr2 0
                    have gs3 := grown_setCell v2 (w.heap.size + 1) 0 (.int .i64 (p : Nat))
                    go_simp
                    refine regx_next hK (Keeps.row gs3 (.inr (.inr rfl))) ?_
                    clear hK K
                    try simp only [Act.put]
                    refine wpAnyH_ready (rs := [4]) (by kernel_rfl) (by simp) ?_
                    refine (AllReadyH.cons (o := { dst := none, op := Op.store 32 (Operand.tmp 4) (Operand.const (Value.int IntKind.i64 0)), type := 0, pos := "log.go:185", after := #[{ on := 3, ground := Ground.chain }, { on := 0, ground := Ground.phase }, { on := 1, ground := Ground.phase }, { on := 2, ground := Ground.phase }, { on := 3, ground := Ground.phase }], guard := none }) rfl (fun K hK => ?_) AllReadyH.nil)
                    have he2 := (gs3.block _ (lt_of_block ((h2.block _ (lt_of_block HDV.out.e) (by simp <;> omega)).trans HDV.out.e)) (by simp)).trans ((h2.block _ (lt_of_block HDV.out.e) (by simp <;> omega)).trans HDV.out.e)
                    have r5 := cells_all he2 0
                    have r6 := frozen_all he2 0
                    have r7 := cells_all ((h2.block _ (lt_of_block HDV.out.e) (by simp <;> omega)).trans HDV.out.e) 0
                    have r8 := frozen_all ((h2.block _ (lt_of_block HDV.out.e) (by simp <;> omega)).trans HDV.out.e) 0
                    have gs4 := grown_setCell (v2.setCell ⟨w.heap.size + 1, 0, none⟩ (.int .i64 (p : Nat))) (w.heap.size + 1 + 1) 0 (.int .i64 0)
                    go_simp
                    refine regx_next hK (Keeps.row gs4 (.inl rfl)) ?_
                    clear hK K
                    try simp only [Act.put]
                    refine wpAnyH_done (by kernel_rfl) ?_ _
                    refine OnlyNormal.mk ?_
                    have hkz : Keeps (fun k => k = w.heap.size + 1 + 1 ∨ k = w.heap.size ∨ k = w.heap.size + 1) wr ((v2.setCell ⟨w.heap.size + 1, 0, none⟩ (.int .i64 (p : Nat))).setCell ⟨w.heap.size + 1 + 1, 0, none⟩ (.int .i64 0)) := Keeps.undrew (((Keeps.row h2 (.inr (.inl rfl))).trans (Keeps.row gs3 (.inr (.inr rfl)))).trans (Keeps.row gs4 (.inl rfl)))
                    have HKZ := Lib.hid hkz
                    have HZL := Lib.hid ((gs4.block _ (lt_of_block ((gs3.block _ (lt_of_block hb2) (by simp)).trans hb2)) (by simp <;> omega)).trans ((gs3.block _ (lt_of_block hb2) (by simp)).trans hb2))
                    have HZR := Lib.hid ((gs4.block _ (lt_of_block (heap_setCell_at (j := 0) (.int .i64 (p : Nat)) hr2)) (by simp)).trans (heap_setCell_at (j := 0) (.int .i64 (p : Nat)) hr2))
                    have HZE := Lib.hid (heap_setCell_at (j := 0) (.int .i64 0) he2)
                    clear hkz hb2 h2 hr2 r3 r4 gs3 he2 r5 r6 r7 r8 gs4
                    go_wp2
                    exact HDV.out.ret2 HKZ.out HZL.out HZR.out HZE.out HDK.out (by have h1 := HMN.out; have h2 := HN.out; omega) rfl rfl rfl
                  · refine wp_store_all 31 _ _ rfl w.heap.size ?csu22 ?hxu22 ?hyu22 [.int .i64 lf, .int .i64 ls, .int .i64 lm, .slice ra rn rc, .bool lwh, .int .i64 le] 31 ?hzu22 ?hfu22 6 ?hnu22 Try.size31 ?h1u22 ?_
                    case hyu22 => exact rfl
                    case hxu22 => exact rfl
                    case hzu22 => exact HDV.out.l
                    case hfu22 => exact rfl
                    case hnu22 => exact rfl
                    case h1u22 => simp [allOne, Value.oneCell']
                    intro v2 hb2 h2
                    refine regx_next hK (Keeps.row h2 (.inr (.inl rfl))) ?_
                    clear hK K
                    try simp only [Act.put]
                    refine wpAnyH_ready (rs := [1]) (by kernel_rfl) (by simp) ?_
                    refine (AllReadyH.cons (o := { dst := some 99, op := Op.load 3 (Operand.tmp 3), type := 3, pos := "log.go:185", after := #[], guard := none }) rfl (fun K hK => ?_) AllReadyH.nil)
                    have r0 : wr.drew.cell? ⟨w.heap.size + 1, 0, none⟩ = some (.int .i64 (p : Nat)) := cells_all HDV.out.r 0
                    have r1 : wr.cell? ⟨w.heap.size + 1, 0, none⟩ = some (.int .i64 (p : Nat)) := cells_all HDV.out.r 0
                    try have r2 := cells_all ((h2.block _ (lt_of_block HDV.out.r) (by simp)).trans HDV.out.r) 0
                    go_simp
                    refine regx_same hK ?_
                    clear hK K
                    try simp only [Act.put, List.setIfInBounds_toArray, List.set_cons_zero, List.set_cons_succ]
                    refine wpAnyH_ready (rs := [3]) (by kernel_rfl) (by simp) ?_
                    refine (AllReadyH.cons (o := { dst := none, op := Op.store 3 (Operand.tmp 3) (Operand.tmp 99), type := 0, pos := "log.go:185", after := #[{ on := 1, ground := Ground.data }, { on := 2, ground := Ground.chain }, { on := 0, ground := Ground.phase }, { on := 1, ground := Ground.phase }, { on := 2, ground := Ground.phase }], guard := none }) rfl (fun K hK => ?_) AllReadyH.nil)
                    have hr2 := (h2.block _ (lt_of_block HDV.out.r) (by simp)).trans HDV.out.r
                    have r3 := cells_all hr2 0
                    have r4 := frozen_all hr2 0
                    have gs3 := grown_setCell v2 (w.heap.size + 1) 0 (.int .i64 (p : Nat))
                    go_simp
                    refine regx_next hK (Keeps.row gs3 (.inr (.inr rfl))) ?_
                    clear hK K
                    try simp only [Act.put]
                    refine wpAnyH_ready (rs := [4]) (by kernel_rfl) (by simp) ?_
                    refine (AllReadyH.cons (o := { dst := none, op := Op.store 32 (Operand.tmp 4) (Operand.const (Value.int IntKind.i64 0)), type := 0, pos := "log.go:185", after := #[{ on := 3, ground := Ground.chain }, { on := 0, ground := Ground.phase }, { on := 1, ground := Ground.phase }, { on := 2, ground := Ground.phase }, { on := 3, ground := Ground.phase }], guard := none }) rfl (fun K hK => ?_) AllReadyH.nil)
                    have he2 := (gs3.block _ (lt_of_block ((h2.block _ (lt_of_block HDV.out.e) (by simp <;> omega)).trans HDV.out.e)) (by simp)).trans ((h2.block _ (lt_of_block HDV.out.e) (by simp <;> omega)).trans HDV.out.e)
                    have r5 := cells_all he2 0
                    have r6 := frozen_all he2 0
                    have r7 := cells_all ((h2.block _ (lt_of_block HDV.out.e) (by simp <;> omega)).trans HDV.out.e) 0
                    have r8 := frozen_all ((h2.block _ (lt_of_block HDV.out.e) (by simp <;> omega)).trans HDV.out.e) 0
                    have gs4 := grown_setCell (v2.setCell ⟨w.heap.size + 1, 0, none⟩ (.int .i64 (p : Nat))) (w.heap.size + 1 + 1) 0 (.int .i64 0)
                    go_simp
                    refine regx_next hK (Keeps.row gs4 (.inl rfl)) ?_
                    clear hK K
                    try simp only [Act.put]
                    refine wpAnyH_done (by kernel_rfl) ?_ _
                    refine OnlyNormal.mk ?_
                    have hkz : Keeps (fun k => k = w.heap.size + 1 + 1 ∨ k = w.heap.size ∨ k = w.heap.size + 1) wr ((v2.setCell ⟨w.heap.size + 1, 0, none⟩ (.int .i64 (p : Nat))).setCell ⟨w.heap.size + 1 + 1, 0, none⟩ (.int .i64 0)) := Keeps.undrew (((Keeps.row h2 (.inr (.inl rfl))).trans (Keeps.row gs3 (.inr (.inr rfl)))).trans (Keeps.row gs4 (.inl rfl)))
                    have HKZ := Lib.hid hkz
                    have HZL := Lib.hid ((gs4.block _ (lt_of_block ((gs3.block _ (lt_of_block hb2) (by simp)).trans hb2)) (by simp <;> omega)).trans ((gs3.block _ (lt_of_block hb2) (by simp)).trans hb2))
                    have HZR := Lib.hid ((gs4.block _ (lt_of_block (heap_setCell_at (j := 0) (.int .i64 (p : Nat)) hr2)) (by simp)).trans (heap_setCell_at (j := 0) (.int .i64 (p : Nat)) hr2))
                    have HZE := Lib.hid (heap_setCell_at (j := 0) (.int .i64 0) he2)
                    clear hkz hb2 h2 hr2 r3 r4 gs3 he2 r5 r6 r7 r8 gs4
                    go_wp2
                    exact HDV.out.ret2 HKZ.out HZL.out HZR.out HZE.out HDK.out (by have h1 := HMN.out; have h2 := HN.out; omega) rfl rfl rfl
                · have r0 : wr.drew.cell? ⟨w.heap.size + 1, 0, none⟩ = some (.int .i64 (p : Nat)) := cells_all HDV.out.r 0
                  have r1 : wr.cell? ⟨w.heap.size + 1, 0, none⟩ = some (.int .i64 (p : Nat)) := cells_all HDV.out.r 0
                  try have r2 := cells_all ((h2.block _ (lt_of_block HDV.out.r) (by simp)).trans HDV.out.r) 0
                  go_simp
                  refine regx_same hK ?_
                  clear hK K
                  try simp only [Act.put, List.setIfInBounds_toArray, List.set_cons_zero, List.set_cons_succ]
                  refine wpAnyH_ready (rs := [0]) (by kernel_rfl) (by simp) ?_
                  refine (AllReadyH.cons (o := { dst := some 98, op := Op.load 31 (Operand.tmp 2), type := 31, pos := "log.go:185", after := #[], guard := none }) rfl (fun K hK => ?_) AllReadyH.nil)
                  refine wp_of_exec (exec_ld31 (x := .tmp 2) rfl rfl HDV.out.l) ?_
                  refine regx_same hK ?_
                  clear hK K
                  try simp only [Act.put, List.setIfInBounds_toArray, List.set_cons_zero, List.set_cons_succ]
                  refine wpAnyH_ready (rs := [2]) (by kernel_rfl) (by simp) ?_
                  refine (AllReadyH.cons (o := { dst := none, op := Op.store 31 (Operand.tmp 2) (Operand.tmp 98), type := 0, pos := "log.go:185", after := #[{ on := 0, ground := Ground.data }, { on := 0, ground := Ground.phase }, { on := 1, ground := Ground.textOnly Departure.lateStoresUnsure }], guard := none }) rfl (fun K hK => ?_) AllReadyH.nil)
                  refine wp_store_all 31 _ _ rfl w.heap.size ?csu32 ?hxu32 ?hyu32 [.int .i64 lf, .int .i64 ls, .int .i64 lm, .slice ra rn rc, .bool lwh, .int .i64 le] 31 ?hzu32 ?hfu32 6 ?hnu32 Try.size31 ?h1u32 ?_
                  case hyu32 => exact rfl
                  case hxu32 => exact rfl
                  case hzu32 => exact HDV.out.l
                  case hfu32 => exact rfl
                  case hnu32 => exact rfl
                  case h1u32 => simp [allOne, Value.oneCell']
                  intro v2 hb2 h2
                  refine regx_next hK (Keeps.row h2 (.inr (.inl rfl))) ?_
                  clear hK K
                  try simp only [Act.put]
                  refine wpAnyH_ready (rs := [3]) (by kernel_rfl) (by simp) ?_
                  refine (AllReadyH.cons (o := { dst := none, op := Op.store 3 (Operand.tmp 3) (Operand.tmp 99), type := 0, pos := "log.go:185", after := #[{ on := 1, ground := Ground.data }, { on := 2, ground := Ground.chain }, { on := 0, ground := Ground.phase }, { on := 1, ground := Ground.phase }, { on := 2, ground := Ground.phase }], guard := none }) rfl (fun K hK => ?_) AllReadyH.nil)
                  have hr2 := (h2.block _ (lt_of_block HDV.out.r) (by simp)).trans HDV.out.r
                  have r3 := cells_all hr2 0
                  have r4 := frozen_all hr2 0
                  have gs3 := grown_setCell v2 (w.heap.size + 1) 0 (.int .i64 (p : Nat))
                  go_simp
                  refine regx_next hK (Keeps.row gs3 (.inr (.inr rfl))) ?_
                  clear hK K
                  try simp only [Act.put]
                  refine wpAnyH_ready (rs := [4]) (by kernel_rfl) (by simp) ?_
                  refine (AllReadyH.cons (o := { dst := none, op := Op.store 32 (Operand.tmp 4) (Operand.const (Value.int IntKind.i64 0)), type := 0, pos := "log.go:185", after := #[{ on := 3, ground := Ground.chain }, { on := 0, ground := Ground.phase }, { on := 1, ground := Ground.phase }, { on := 2, ground := Ground.phase }, { on := 3, ground := Ground.phase }], guard := none }) rfl (fun K hK => ?_) AllReadyH.nil)
                  have he2 := (gs3.block _ (lt_of_block ((h2.block _ (lt_of_block HDV.out.e) (by simp <;> omega)).trans HDV.out.e)) (by simp)).trans ((h2.block _ (lt_of_block HDV.out.e) (by simp <;> omega)).trans HDV.out.e)
                  have r5 := cells_all he2 0
                  have r6 := frozen_all he2 0
                  have r7 := cells_all ((h2.block _ (lt_of_block HDV.out.e) (by simp <;> omega)).trans HDV.out.e) 0
                  have r8 := frozen_all ((h2.block _ (lt_of_block HDV.out.e) (by simp <;> omega)).trans HDV.out.e) 0
                  have gs4 := grown_setCell (v2.setCell ⟨w.heap.size + 1, 0, none⟩ (.int .i64 (p : Nat))) (w.heap.size + 1 + 1) 0 (.int .i64 0)
                  go_simp
                  refine regx_next hK (Keeps.row gs4 (.inl rfl)) ?_
                  clear hK K
                  try simp only [Act.put]
                  refine wpAnyH_done (by kernel_rfl) ?_ _
                  refine OnlyNormal.mk ?_
                  have hkz : Keeps (fun k => k = w.heap.size + 1 + 1 ∨ k = w.heap.size ∨ k = w.heap.size + 1) wr ((v2.setCell ⟨w.heap.size + 1, 0, none⟩ (.int .i64 (p : Nat))).setCell ⟨w.heap.size + 1 + 1, 0, none⟩ (.int .i64 0)) := Keeps.undrew (((Keeps.row h2 (.inr (.inl rfl))).trans (Keeps.row gs3 (.inr (.inr rfl)))).trans (Keeps.row gs4 (.inl rfl)))
                  have HKZ := Lib.hid hkz
                  have HZL := Lib.hid ((gs4.block _ (lt_of_block ((gs3.block _ (lt_of_block hb2) (by simp)).trans hb2)) (by simp <;> omega)).trans ((gs3.block _ (lt_of_block hb2) (by simp)).trans hb2))
                  have HZR := Lib.hid ((gs4.block _ (lt_of_block (heap_setCell_at (j := 0) (.int .i64 (p : Nat)) hr2)) (by simp)).trans (heap_setCell_at (j := 0) (.int .i64 (p : Nat)) hr2))
                  have HZE := Lib.hid (heap_setCell_at (j := 0) (.int .i64 0) he2)
                  clear hkz hb2 h2 hr2 r3 r4 gs3 he2 r5 r6 r7 r8 gs4
                  go_wp2
                  exact HDV.out.ret2 HKZ.out HZL.out HZR.out HZE.out HDK.out (by have h1 := HMN.out; have h2 := HN.out; omega) rfl rfl rfl
          · have HNO := Lib.hid (show D = (.zero, 0, 261) from HD.out.trans (decL_hd HT1.out HT2.out HT3.out hHd))
            have CH := Lib.hid (headed_no (y1 : Nat) (y2 : Nat) (y3 : Nat) hHd v3)
            clear hHd
            go_wp2_with fail
            refine CH.out.mono ?_; rintro e0 w8 ⟨rfl, hg8⟩
            have HDX := Lib.hid (HDVc.out.kept hg8)
            clear hg8
            go_wp2_with fail
            refine (must_no _ _).mono ?_; rintro e0 w9 ⟨rfl, rfl⟩
            go_wp2
            exact HDX.out.fail HNO.out rfl rfl rfl (by decide)
        · have hmn := max_gt hmx
          obtain ⟨mx, hmxe⟩ : ∃ mx : Int, mx = max (max (y1 : Int) (y2 : Int)) (y3 : Int) := ⟨_, rfl⟩
          have hmax : ∀ (ts : Array TypeId) (t : TypeId) (w : World), (Builtin.max_ ts t #[.int .i64 (y1 : Nat), .int .i64 (y2 : Nat), .int .i64 (y3 : Nat)]).run Try.prog w = .ok (.int .i64 mx) w := fun ts t w => by rw [hmxe]; exact run_max3 w ts t _ _ _
          rw [← hmxe] at hmn
          clear hmxe
          have HNO := Lib.hid (show D = (.zero, 0, 261) from HD.out.trans (decL_hd HT1.out HT2.out HT3.out (not_hd hmx)))
          clear hmx
          go_wp2_with fail
          refine (must_no _ _).mono ?_; rintro e0 w9 ⟨rfl, rfl⟩
          go_wp2
          exact HDVc.out.fail HNO.out rfl rfl rfl (by decide)
end Go.Proofs.Ytpoifobhbmhelaa
