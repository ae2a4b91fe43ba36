/- ref.Check. -/
import Derived.Test.YtpoifobhbmhelaaQ
set_option linter.unusedVariables false
set_option linter.unusedSimpArgs false
namespace Go.Proofs.Ytpoifobhbmhelaa
open Go.RowKit
theorem rsOk_cons (last : Int) (r : Rc) (t : List Rc) : RsOk last (r :: t) ↔ (r.Ok ∧ last ≤ r.a) ∧ RsOk r.a t := Iff.rfl
theorem rs_drop (ts : List Rv) (k : Nat) (h : k < ts.length) : (rsOf ts).drop k = ts[k].r :: (rsOf ts).drop (k + 1) := by
  rw [List.drop_eq_getElem_cons (by simpa using h)]
  simp
theorem rs_end (ts : List Rv) (k : Nat) (h : ts.length ≤ k) : (rsOf ts).drop k = [] := List.drop_of_length_le (by simpa using h)
theorem lgOk_iff {f s m : Int} {rs : List Rc} {wh : Bool} {e : Int} : (⟨f, s, m, rs, wh, e⟩ : Lg).Ok ↔ ((Hd f s m ∧ (0 ≤ e ∧ e ≤ 4611686018427387904)) ∧ (wh = true ∨ e = 0)) ∧ (RsOk 0 rs ∧ (wh = true → lastOf 0 rs ≤ e)) := Iff.rfl
def ckV (l : Lg) : Int := if l.Ok then 0 else 260
theorem ckV_yes {l : Lg} (h : l.Ok) : ckV l = 0 := if_pos h
theorem ckV_no {l : Lg} (h : ¬ l.Ok) : ckV l = 260 := if_neg h
set_option maxHeartbeats 8000000 in
set_option maxRecDepth 100000 in
theorem rcheck_any (f s m : Int) (a : Option Addr) (c : Nat) (ts : List Rv) (wh : Bool) (e : Int) (w : World) (hs : RL w a ts) (hl : ts.length ≤ 1000000) : Calls Try.prog 18 #[lgV f s m a ts.length c wh e] w fun e' w' => e' = .returned (.int .i64 (ckV ⟨f, s, m, rsOf ts, wh, e⟩)) ∧ w.grownBy w' none := by
  by_cases h1 : Hd f s m
  · by_cases h2 : 0 ≤ e ∧ e ≤ 4611686018427387904
    · cases wh with
      | true =>
        have HA := Lib.hid (World.grownBy_alloc w (.cells #[.int .i64 f, .int .i64 s, .int .i64 m, .slice a ts.length c, .bool true, .int .i64 e] 31) none)
        have HB := Lib.hid (heap_alloc_new w (.cells #[.int .i64 f, .int .i64 s, .int .i64 m, .slice a ts.length c, .bool true, .int .i64 e] 31))
        have HS := Lib.hid (hs.kept HA.out)
        have HL := Lib.hid hl
        obtain ⟨r, hr⟩ : ∃ r : Int, r = ckV ⟨f, s, m, rsOf ts, true, e⟩ := ⟨_, rfl⟩
        rw [← hr]
        have HR := Lib.hid hr
        clear hr
        have HH := Lib.hid (fun (x : RsOk 0 (rsOf ts)) (y : lastOf 0 (rsOf ts) ≤ e) => ckV_yes (l := ⟨f, s, m, rsOf ts, true, e⟩) ⟨⟨⟨h1, h2⟩, .inl rfl⟩, x, fun _ => y⟩)
        obtain ⟨n, hn⟩ : ∃ n, n = ts.length := ⟨_, rfl⟩
        have HN := Lib.hid hn
        have HNL := Lib.hid (show n ≤ 1000000 from by have := HL.out; omega)
        rw [← hn] at HA HB HS ⊢
        have HC1 := Lib.hid (head_yes f s m h1)
        have HC2 := Lib.hid (fun w => within_yes e 0 4611686018427387904 h2.1 h2.2 w)
        clear hn h1 h2 hs hl
        go_enter Try.func18, Try.ntmps18
        go_wp2_with fail
        refine (HC1.out _).mono ?_; rintro e0 w2 ⟨rfl, hw2⟩
        have HK := Lib.hid (keep_blk hw2 HB.out)
        have HG := Lib.hid (HA.out.trans hw2)
        have HS2 := Lib.hid (HS.out.kept hw2)
        clear hw2
        have k3 : w2.cell? ⟨w.heap.size, 3, none⟩ = some (.slice a n c) := cells_all HK.out 3
        have k4 : w2.cell? ⟨w.heap.size, 4, none⟩ = some (.bool true) := cells_all HK.out 4
        have k5 : w2.cell? ⟨w.heap.size, 5, none⟩ = some (.int .i64 e) := cells_all HK.out 5
        go_wp2_with fail
        refine (HC2.out _).mono ?_; rintro e0 w2 ⟨rfl, rfl⟩
        go_wp2
        go_loopw [3, 4] (fun last i wr => ∃ (k : Nat) (z : Int), k ≤ n ∧ i = .int .i64 k ∧ last = .int .i64 z ∧ (RsOk 0 (rsOf ts) ↔ RsOk z ((rsOf ts).drop k)) ∧ lastOf 0 (rsOf ts) = lastOf z ((rsOf ts).drop k) ∧ w2.grownBy wr none) (fun _ i _ => n - (intOf i).toNat)
        case atStart => exact ⟨0, 0, Nat.zero_le _, rfl, rfl, Iff.rfl, rfl, World.grownBy.refl _ _⟩
        case round =>
          obtain ⟨k, z, hk, rfl, rfl, hiff, hla, hg⟩ := hrel
          have HI := Lib.hid hiff
          have HLA := Lib.hid hla
          have HGR := Lib.hid hg
          clear hiff hla hg
          have j3 := keep_cell HGR.out k3
          have j4 := keep_cell HGR.out k4
          have j5 := keep_cell HGR.out k5
          by_cases hlt : k < n
          · have hk1 : k < ts.length := by have := HN.out; omega
            obtain ⟨g1, o1, rfl, hat1⟩ := (HS2.out.kept HGR.out).at k hk1
            have hd := rs_drop ts k hk1
            obtain ⟨t, ht⟩ : ∃ t, t = ts[k] := ⟨_, rfl⟩
            rw [← ht] at hat1 hd
            have HI2 := Lib.hid (show RsOk 0 (rsOf ts) ↔ (t.r.Ok ∧ z ≤ t.a) ∧ RsOk t.a ((rsOf ts).drop (k + 1)) from by rw [HI.out, hd]; exact Iff.rfl)
            have HLA2 := Lib.hid (show lastOf 0 (rsOf ts) = lastOf t.a ((rsOf ts).drop (k + 1)) from by rw [HLA.out, hd]; rfl)
            clear hd ht HI HLA
            have hlt' : (k : Int) < (n : Nat) := by omega
            have hwk : IntKind.i64.wrap ((k : Int) + 1) = ((k + 1 : Nat) : Int) := by rw [IntKind.wrap_i64]; have := HNL.out; omega
            obtain ⟨p0, p1, p2, p3, p4, p5⟩ := hat1
            clear p4 p5 hk1
            by_cases hok : Rt t.a t.k t.n t.b.length
            · have HOK := Lib.hid hok
              have HC3 := Lib.hid (rright_yes hok t.x t.c)
              clear hok
              by_cases hz : z ≤ t.a
              · have hz' : ¬ t.a < z := by omega
                have HZ := Lib.hid hz
                clear hz
                go_wp2_with fail
                refine (HC3.out _).mono ?_; rintro e0 w3 ⟨rfl, hw3⟩
                have HW3 := Lib.hid hw3
                have i3 := keep_cell hw3 j3
                have i0 := keep_cell hw3 p0
                clear hw3
                go_wp2
                go_roundw
                case rel => exact ⟨k + 1, t.a, by omega, rfl, rfl, HI2.out.trans ⟨fun h => h.2, fun h => ⟨⟨HOK.out, HZ.out⟩, h⟩⟩, HLA2.out, HGR.out.trans HW3.out⟩
                case measure => simp [intOf]; omega
              · have hz' : t.a < z := by omega
                have HNO := Lib.hid (show r = 260 from HR.out.trans (ckV_no (fun h => hz (HI2.out.1 h.2.1).1.2)))
                clear hz
                go_wp2_with fail
                refine (HC3.out _).mono ?_; rintro e0 w3 ⟨rfl, hw3⟩
                have HW3 := Lib.hid hw3
                have i3 := keep_cell hw3 j3
                have i0 := keep_cell hw3 p0
                clear hw3
                go_wp2
                go_ret
                exact ⟨by rw [HNO.out]; rfl, (HG.out.trans HGR.out).trans HW3.out⟩
            · have HNO := Lib.hid (show r = 260 from HR.out.trans (ckV_no (fun h => hok (HI2.out.1 h.2.1).1.1)))
              have HC3 := Lib.hid (rright_no hok t.x t.c)
              clear hok
              go_wp2_with fail
              refine (HC3.out _).mono ?_; rintro e0 w3 ⟨rfl, hw3⟩
              have HW3 := Lib.hid hw3
              clear hw3
              go_wp2
              go_ret
              exact ⟨by rw [HNO.out]; rfl, (HG.out.trans HGR.out).trans HW3.out⟩
          · have hlt' : ¬ (k : Int) < (n : Nat) := by omega
            have hd := rs_end ts k (by have := HN.out; omega)
            have HI2 := Lib.hid (show RsOk 0 (rsOf ts) from by rw [HI.out, hd]; trivial)
            have HLA2 := Lib.hid (show lastOf 0 (rsOf ts) = z from by rw [HLA.out, hd]; rfl)
            clear hd HI HLA
            by_cases hz : z ≤ e
            · have hz' : ¬ e < z := by omega
              have HY := Lib.hid (show r = 0 from HR.out.trans (HH.out HI2.out (HLA2.out ▸ hz)))
              clear hz
              go_wp2
              go_ret
              exact ⟨by rw [HY.out]; rfl, HG.out.trans HGR.out⟩
            · have hz' : e < z := by omega
              have HNO := Lib.hid (show r = 260 from HR.out.trans (ckV_no (fun h => hz (HLA2.out ▸ h.2.2 rfl))))
              clear hz
              go_wp2
              go_ret
              exact ⟨by rw [HNO.out]; rfl, HG.out.trans HGR.out⟩
      | false =>
        by_cases h3 : e = 0
        · have he : (e != 0) = false := by simp [h3]
          have HA := Lib.hid (World.grownBy_alloc w (.cells #[.int .i64 f, .int .i64 s, .int .i64 m, .slice a ts.length c, .bool false, .int .i64 e] 31) none)
          have HB := Lib.hid (heap_alloc_new w (.cells #[.int .i64 f, .int .i64 s, .int .i64 m, .slice a ts.length c, .bool false, .int .i64 e] 31))
          have HS := Lib.hid (hs.kept HA.out)
          have HL := Lib.hid hl
          obtain ⟨r, hr⟩ : ∃ r : Int, r = ckV ⟨f, s, m, rsOf ts, false, e⟩ := ⟨_, rfl⟩
          rw [← hr]
          have HR := Lib.hid hr
          clear hr
          have HH := Lib.hid (fun (x : RsOk 0 (rsOf ts)) => ckV_yes (l := ⟨f, s, m, rsOf ts, false, e⟩) ⟨⟨⟨h1, h2⟩, .inr h3⟩, x, fun h => absurd h Bool.false_ne_true⟩)
          obtain ⟨n, hn⟩ : ∃ n, n = ts.length := ⟨_, rfl⟩
          have HN := Lib.hid hn
          have HNL := Lib.hid (show n ≤ 1000000 from by have := HL.out; omega)
          rw [← hn] at HA HB HS ⊢
          have HC1 := Lib.hid (head_yes f s m h1)
          have HC2 := Lib.hid (fun w => within_yes e 0 4611686018427387904 h2.1 h2.2 w)
          clear hn h1 h2 hs hl h3
          go_enter Try.func18, Try.ntmps18
          go_wp2_with fail
          refine (HC1.out _).mono ?_; rintro e0 w2 ⟨rfl, hw2⟩
          have HK := Lib.hid (keep_blk hw2 HB.out)
          have HG := Lib.hid (HA.out.trans hw2)
          have HS2 := Lib.hid (HS.out.kept hw2)
          clear hw2
          have k3 : w2.cell? ⟨w.heap.size, 3, none⟩ = some (.slice a n c) := cells_all HK.out 3
          have k4 : w2.cell? ⟨w.heap.size, 4, none⟩ = some (.bool false) := cells_all HK.out 4
          have k5 : w2.cell? ⟨w.heap.size, 5, none⟩ = some (.int .i64 e) := cells_all HK.out 5
          go_wp2_with fail
          refine (HC2.out _).mono ?_; rintro e0 w2 ⟨rfl, rfl⟩
          go_wp2
          go_loopw [3, 4] (fun last i wr => ∃ (k : Nat) (z : Int), k ≤ n ∧ i = .int .i64 k ∧ last = .int .i64 z ∧ (RsOk 0 (rsOf ts) ↔ RsOk z ((rsOf ts).drop k)) ∧ lastOf 0 (rsOf ts) = lastOf z ((rsOf ts).drop k) ∧ w2.grownBy wr none) (fun _ i _ => n - (intOf i).toNat)
          case atStart => exact ⟨0, 0, Nat.zero_le _, rfl, rfl, Iff.rfl, rfl, World.grownBy.refl _ _⟩
          case round =>
            obtain ⟨k, z, hk, rfl, rfl, hiff, hla, hg⟩ := hrel
            have HI := Lib.hid hiff
            have HLA := Lib.hid hla
            have HGR := Lib.hid hg
            clear hiff hla hg
            have j3 := keep_cell HGR.out k3
            have j4 := keep_cell HGR.out k4
            have j5 := keep_cell HGR.out k5
            by_cases hlt : k < n
            · have hk1 : k < ts.length := by have := HN.out; omega
              obtain ⟨g1, o1, rfl, hat1⟩ := (HS2.out.kept HGR.out).at k hk1
              have hd := rs_drop ts k hk1
              obtain ⟨t, ht⟩ : ∃ t, t = ts[k] := ⟨_, rfl⟩
              rw [← ht] at hat1 hd
              have HI2 := Lib.hid (show RsOk 0 (rsOf ts) ↔ (t.r.Ok ∧ z ≤ t.a) ∧ RsOk t.a ((rsOf ts).drop (k + 1)) from by rw [HI.out, hd]; exact Iff.rfl)
              have HLA2 := Lib.hid (show lastOf 0 (rsOf ts) = lastOf t.a ((rsOf ts).drop (k + 1)) from by rw [HLA.out, hd]; rfl)
              clear hd ht HI HLA
              have hlt' : (k : Int) < (n : Nat) := by omega
              have hwk : IntKind.i64.wrap ((k : Int) + 1) = ((k + 1 : Nat) : Int) := by rw [IntKind.wrap_i64]; have := HNL.out; omega
              obtain ⟨p0, p1, p2, p3, p4, p5⟩ := hat1
              clear p4 p5 hk1
              by_cases hok : Rt t.a t.k t.n t.b.length
              · have HOK := Lib.hid hok
                have HC3 := Lib.hid (rright_yes hok t.x t.c)
                clear hok
                by_cases hz : z ≤ t.a
                · have hz' : ¬ t.a < z := by omega
                  have HZ := Lib.hid hz
                  clear hz
                  go_wp2_with fail
                  refine (HC3.out _).mono ?_; rintro e0 w3 ⟨rfl, hw3⟩
                  have HW3 := Lib.hid hw3
                  have i3 := keep_cell hw3 j3
                  have i0 := keep_cell hw3 p0
                  clear hw3
                  go_wp2
                  go_roundw
                  case rel => exact ⟨k + 1, t.a, by omega, rfl, rfl, HI2.out.trans ⟨fun h => h.2, fun h => ⟨⟨HOK.out, HZ.out⟩, h⟩⟩, HLA2.out, HGR.out.trans HW3.out⟩
                  case measure => simp [intOf]; omega
                · have hz' : t.a < z := by omega
                  have HNO := Lib.hid (show r = 260 from HR.out.trans (ckV_no (fun h => hz (HI2.out.1 h.2.1).1.2)))
                  clear hz
                  go_wp2_with fail
                  refine (HC3.out _).mono ?_; rintro e0 w3 ⟨rfl, hw3⟩
                  have HW3 := Lib.hid hw3
                  have i3 := keep_cell hw3 j3
                  have i0 := keep_cell hw3 p0
                  clear hw3
                  go_wp2
                  go_ret
                  exact ⟨by rw [HNO.out]; rfl, (HG.out.trans HGR.out).trans HW3.out⟩
              · have HNO := Lib.hid (show r = 260 from HR.out.trans (ckV_no (fun h => hok (HI2.out.1 h.2.1).1.1)))
                have HC3 := Lib.hid (rright_no hok t.x t.c)
                clear hok
                go_wp2_with fail
                refine (HC3.out _).mono ?_; rintro e0 w3 ⟨rfl, hw3⟩
                have HW3 := Lib.hid hw3
                clear hw3
                go_wp2
                go_ret
                exact ⟨by rw [HNO.out]; rfl, (HG.out.trans HGR.out).trans HW3.out⟩
            · have hlt' : ¬ (k : Int) < (n : Nat) := by omega
              have hd := rs_end ts k (by have := HN.out; omega)
              have HI2 := Lib.hid (show RsOk 0 (rsOf ts) from by rw [HI.out, hd]; trivial)
              have HLA2 := Lib.hid (show lastOf 0 (rsOf ts) = z from by rw [HLA.out, hd]; rfl)
              clear hd HI HLA
              have HY := Lib.hid (show r = 0 from HR.out.trans (HH.out HI2.out))
              go_wp2
              go_ret
              exact ⟨by rw [HY.out]; rfl, HG.out.trans HGR.out⟩
        · have he : (e != 0) = true := by simp [h3]
          have HA := Lib.hid (World.grownBy_alloc w (.cells #[.int .i64 f, .int .i64 s, .int .i64 m, .slice a ts.length c, .bool false, .int .i64 e] 31) none)
          have HB := Lib.hid (heap_alloc_new w (.cells #[.int .i64 f, .int .i64 s, .int .i64 m, .slice a ts.length c, .bool false, .int .i64 e] 31))
          have HS := Lib.hid (hs.kept HA.out)
          have HL := Lib.hid hl
          have HR := Lib.hid (ckV_no (l := ⟨f, s, m, rsOf ts, false, e⟩) (fun h => h3 (h.1.2.resolve_left (fun h => Bool.false_ne_true h))))
          rw [HR.out]
          have HC1 := Lib.hid (head_yes f s m h1)
          have HC2 := Lib.hid (fun w => within_yes e 0 4611686018427387904 h2.1 h2.2 w)
          clear h1 h2 h3 hs hl
          go_enter Try.func18, Try.ntmps18
          go_wp2_with fail
          refine (HC1.out _).mono ?_; rintro e0 w2 ⟨rfl, hw2⟩
          have HK := Lib.hid (keep_blk hw2 HB.out)
          have HG := Lib.hid (HA.out.trans hw2)
          have HS2 := Lib.hid (HS.out.kept hw2)
          clear hw2
          obtain ⟨n, hn⟩ : ∃ n, n = ts.length := ⟨_, rfl⟩
          rw [← hn] at HK
          clear hn
          have k3 : w2.cell? ⟨w.heap.size, 3, none⟩ = some (.slice a n c) := cells_all HK.out 3
          have k4 : w2.cell? ⟨w.heap.size, 4, none⟩ = some (.bool false) := cells_all HK.out 4
          have k5 : w2.cell? ⟨w.heap.size, 5, none⟩ = some (.int .i64 e) := cells_all HK.out 5
          go_wp2_with fail
          refine (HC2.out _).mono ?_; rintro e0 w2 ⟨rfl, rfl⟩
          go_wp2
          go_ret
          exact ⟨rfl, HG.out⟩
    · have HA := Lib.hid (World.grownBy_alloc w (.cells #[.int .i64 f, .int .i64 s, .int .i64 m, .slice a ts.length c, .bool wh, .int .i64 e] 31) none)
      have HB := Lib.hid (heap_alloc_new w (.cells #[.int .i64 f, .int .i64 s, .int .i64 m, .slice a ts.length c, .bool wh, .int .i64 e] 31))
      have HS := Lib.hid (hs.kept HA.out)
      have HL := Lib.hid hl
      have HR := Lib.hid (ckV_no (l := ⟨f, s, m, rsOf ts, wh, e⟩) (fun h => h2 h.1.1.2))
      rw [HR.out]
      have HC1 := Lib.hid (head_yes f s m h1)
      have HC2 := Lib.hid (fun w => within_no e 0 4611686018427387904 h2 w)
      clear h1 h2 hs hl
      go_enter Try.func18, Try.ntmps18
      go_wp2_with fail
      refine (HC1.out _).mono ?_; rintro e0 w2 ⟨rfl, hw2⟩
      have HK := Lib.hid (keep_blk hw2 HB.out)
      have HG := Lib.hid (HA.out.trans hw2)
      have HS2 := Lib.hid (HS.out.kept hw2)
      clear hw2
      obtain ⟨n, hn⟩ : ∃ n, n = ts.length := ⟨_, rfl⟩
      rw [← hn] at HK
      clear hn
      have k3 : w2.cell? ⟨w.heap.size, 3, none⟩ = some (.slice a n c) := cells_all HK.out 3
      have k4 : w2.cell? ⟨w.heap.size, 4, none⟩ = some (.bool wh) := cells_all HK.out 4
      have k5 : w2.cell? ⟨w.heap.size, 5, none⟩ = some (.int .i64 e) := cells_all HK.out 5
      go_wp2_with fail
      refine (HC2.out _).mono ?_; rintro e0 w2 ⟨rfl, rfl⟩
      go_wp2
      go_ret
      exact ⟨rfl, HG.out⟩
  · have HA := Lib.hid (World.grownBy_alloc w (.cells #[.int .i64 f, .int .i64 s, .int .i64 m, .slice a ts.length c, .bool wh, .int .i64 e] 31) none)
    have HB := Lib.hid (heap_alloc_new w (.cells #[.int .i64 f, .int .i64 s, .int .i64 m, .slice a ts.length c, .bool wh, .int .i64 e] 31))
    have HS := Lib.hid (hs.kept HA.out)
    have HL := Lib.hid hl
    have HR := Lib.hid (ckV_no (l := ⟨f, s, m, rsOf ts, wh, e⟩) (fun h => h1 h.1.1.1))
    rw [HR.out]
    have HC1 := Lib.hid (head_no f s m h1)
    clear h1 hs hl
    go_enter Try.func18, Try.ntmps18
    go_wp2_with fail
    refine (HC1.out _).mono ?_; rintro e0 w2 ⟨rfl, hw2⟩
    have HK := Lib.hid (keep_blk hw2 HB.out)
    have HG := Lib.hid (HA.out.trans hw2)
    have HS2 := Lib.hid (HS.out.kept hw2)
    clear hw2
    obtain ⟨n, hn⟩ : ∃ n, n = ts.length := ⟨_, rfl⟩
    rw [← hn] at HK
    clear hn
    have k3 : w2.cell? ⟨w.heap.size, 3, none⟩ = some (.slice a n c) := cells_all HK.out 3
    have k4 : w2.cell? ⟨w.heap.size, 4, none⟩ = some (.bool wh) := cells_all HK.out 4
    have k5 : w2.cell? ⟨w.heap.size, 5, none⟩ = some (.int .i64 e) := cells_all HK.out 5
    go_wp2
    go_ret
    exact ⟨rfl, HG.out⟩
end Go.Proofs.Ytpoifobhbmhelaa
