/- log.Encode. -/
import Derived.Test.YtpoifobhbmhelaaZ1
set_option linter.unusedVariables false
set_option linter.unusedSimpArgs false
namespace Go.Proofs.Ytpoifobhbmhelaa
open Go.RowKit Go.Shelf
attribute [local go_sem] Oper.semAt_some
abbrev numsO (F S M : Nat) : Obj := .cells #[.int .i64 (F : Nat), .int .i64 (S : Nat), .int .i64 (M : Nat)] 3
def hdk (F S M : Nat) : Nat → List UInt8
  | 0 => magic
  | 1 => magic ++ enc F
  | 2 => magic ++ enc F ++ enc S
  | _ => magic ++ enc F ++ enc S ++ enc M
theorem Wb.later {w0 w1 W : World} {v : Value} {l : List UInt8} (h : Wb w1 W v l) (hg : w0.heap.size ≤ w1.heap.size) : Wb w0 W v l := by
  rcases h with h | ⟨g, hv, h1, h3, h2⟩
  · exact .inl (h.later hg)
  · exact .inr ⟨g, hv, Nat.le_trans hg h1, h3, h2⟩
theorem en_start {wb w1 : World} (F S M : Nat) (hg : wb.grownBy w1 none) :
    (((w1.alloc (magO 4 5)).alloc (.cells #[.slice (some ⟨w1.heap.size, 0, none⟩) 4 4] 56)).alloc (numsO F S M)).heap[w1.heap.size + 1]? = some (.cells #[.slice (some ⟨w1.heap.size, 0, none⟩) 4 4] 56 (0, 0)) ∧
    Wb wb (((w1.alloc (magO 4 5)).alloc (.cells #[.slice (some ⟨w1.heap.size, 0, none⟩) 4 4] 56)).alloc (numsO F S M)) (.slice (some ⟨w1.heap.size, 0, none⟩) 4 4) magic ∧
    wb.grownBy (((w1.alloc (magO 4 5)).alloc (.cells #[.slice (some ⟨w1.heap.size, 0, none⟩) 4 4] 56)).alloc (numsO F S M)) none ∧
    (((w1.alloc (magO 4 5)).alloc (.cells #[.slice (some ⟨w1.heap.size, 0, none⟩) 4 4] 56)).alloc (numsO F S M)).heap[w1.heap.size + 1 + 1]? = some (.cells #[.int .i64 (F : Nat), .int .i64 (S : Nat), .int .i64 (M : Nat)] 3 (0, 0)) := by
  obtain ⟨h1, h2, h3⟩ := two_new3 w1 (magO 4 5) (.cells #[.slice (some ⟨w1.heap.size, 0, none⟩) 4 4] 56) (numsO F S M)
  have g1 := World.grownBy_alloc w1 (magO 4 5) none
  have g2 := (World.grownBy_alloc (w1.alloc (magO 4 5)) (.cells #[.slice (some ⟨w1.heap.size, 0, none⟩) 4 4] 56) none).trans (World.grownBy_alloc _ (numsO F S M) none)
  exact ⟨h2, ((lit_mark w1 magic 4 5).later hg.size).kept g2, (hg.trans g1).trans g2, h3⟩
theorem item_src {w : World} {a : Option Addr} {ts : List Rv} (h : RL w a ts) (e : Int) (j : Nat) : Go.Proofs.Ytpoifobhbmhelaa.Src w (itemR ts e j).x (itemR ts e j).b := by
  by_cases hj : j < ts.length
  · rw [itemR_lt hj]
    obtain ⟨b, o, _, h1⟩ := h.at j hj
    exact h1.s
  · rw [itemR_ge hj]
    exact .inl rfl
set_option maxRecDepth 100000 in
set_option maxHeartbeats 8000000 in
theorem encode_in (F S M : Nat) (a : Option Addr) (n c : Nat) (ts : List Rv) (wh : Bool) (e : Int) (w : World) (hn : n = ts.length) (hs : RL w a ts) (hl : n ≤ 400) (hok : (⟨(F : Nat), (S : Nat), (M : Nat), rsOf ts, wh, e⟩ : Lg).Ok) : CallsIn Fence.wide 3 Try.prog 11 #[lgV (F : Nat) (S : Nat) (M : Nat) a n c wh e] w fun e' w' => ∃ v', e' = .returned (.tuple #[v', .int .i64 0]) ∧ Mb w w' v' (encL ⟨(F : Nat), (S : Nat), (M : Nat), rsOf ts, wh, e⟩) ∧ Below w.heap.size w w' := by
  have hF : F ≤ 32 := by have : (F : Int) ≤ 32 := hok.1.1.1.1.1.2; omega
  have hS : S ≤ 32 := by have : (S : Int) ≤ 32 := hok.1.1.1.1.2.2; omega
  have hM : M ≤ 65536 := by have : (M : Int) ≤ 65536 := hok.1.1.1.2.2; omega
  have HFb := Lib.hid hF
  have HSb := Lib.hid hS
  have HMb := Lib.hid hM
  obtain ⟨wb, hwb⟩ : ∃ wb, wb = w.alloc (boxL (F : Nat) (S : Nat) (M : Nat) a n c wh e) := ⟨_, rfl⟩
  have HA := Lib.hid (hwb ▸ World.grownBy_alloc w (boxL (F : Nat) (S : Nat) (M : Nat) a n c wh e) none : w.grownBy wb none)
  have HB := Lib.hid (hwb ▸ heap_alloc_new w (boxL (F : Nat) (S : Nat) (M : Nat) a n c wh e) : wb.heap[w.heap.size]? = _)
  have HZB := Lib.hid (show wb.heap.size = w.heap.size + 1 from hwb ▸ World.size_alloc _ _)
  have HS := Lib.hid (hs.kept HA.out)
  have HS0 := Lib.hid hs
  have HN := Lib.hid hn
  have HC := Lib.hid (show Calls Try.prog 23 #[lgV (F : Nat) (S : Nat) (M : Nat) a n c wh e] (w.alloc (boxL (F : Nat) (S : Nat) (M : Nat) a n c wh e)) _ from by rw [← hwb, hn]; exact check_any (F : Nat) (S : Nat) (M : Nat) a c ts wh e _ HS.out (by omega))
  have HCK := Lib.hid (ckV_yes hok)
  have HOK := Lib.hid hok
  have HWB := Lib.hid hwb
  obtain ⟨res, hres⟩ : ∃ res, res = encL ⟨(F : Nat), (S : Nat), (M : Nat), rsOf ts, wh, e⟩ := ⟨_, rfl⟩
  rw [← hres]
  have HRES := Lib.hid hres
  clear hres hn hs hok hF hS hM hwb
  refine callsIn_of_wp_marks Try.func11 rfl trivial ?_ rfl
  simp only [Try.ntmps11, List.size_toArray, List.length_cons, List.length_nil, Nat.reduceAdd, Nat.reduceSub, Array.replicate_succ, Array.replicate_zero, List.push_toArray, List.append_toArray, List.nil_append, List.cons_append]
  refine wpIn_wide.2 ?_
  go_wp2_with fail
  refine HC.out.mono ?_; rintro e1 w1 ⟨rfl, hg1⟩
  rw [HCK.out]
  have HG1 := Lib.hid hg1
  have HB1 := Lib.hid (keep_blk hg1 HB.out)
  clear hg1
  have kc : (convert 23 23 (.slice (some ⟨w1.heap.size, 0, none⟩) 4 4)).run Try.prog (w1.alloc (magO 0 0)) = .ok (.slice (some ⟨w1.heap.size, 0, none⟩) 4 4) (w1.alloc (magO 4 5)) := conv_lit w1 #[.int .u8 80, .int .u8 77, .int .u8 68, .int .u8 82] 4 4
  have HG2 := Lib.hid ((World.grownBy_alloc w1 (magO 4 5) none).trans (World.grownBy_alloc _ (.cells #[.slice (some ⟨w1.heap.size, 0, none⟩) 4 4] 56) none))
  have hB2 := keep_blk HG2.out HB1.out
  have k0 := cells_all hB2 0
  have k1 := cells_all hB2 1
  have k2 := cells_all hB2 2
  clear hB2
  go_wp2
  obtain ⟨hT0, hW0, hG0, hK0⟩ := en_start F S M HG1.out
  have HT0 := Lib.hid hT0
  have HW0 := Lib.hid hW0
  have HG0 := Lib.hid hG0
  have HK0 := Lib.hid hK0
  have HTS := Lib.hid (show wb.heap.size ≤ w1.heap.size + 1 from Nat.le_succ_of_le HG1.out.size)
  clear hT0 hW0 hG0 hK0 k0 k1 k2 kc
  go_loopw [30] (fun i wr => ∃ (k : Nat) (v : Value), k ≤ 3 ∧ i = .int .i64 k ∧ wr.heap[w1.heap.size + 1]? = some (.cells #[v] 56 (0, 0)) ∧ Wb wb wr v (hdk F S M k) ∧ (0 < k → Mb wb wr v (hdk F S M k)) ∧ wb.grownBy wr none ∧ wr.heap[w1.heap.size + 1 + 1]? = some (.cells #[.int .i64 (F : Nat), .int .i64 (S : Nat), .int .i64 (M : Nat)] 3 (0, 0))) (fun i _ => 3 - (intOf i).toNat)
  case atStart => exact ⟨0, _, by omega, rfl, HT0.out, HW0.out, fun h => absurd h (by omega), HG0.out, HK0.out⟩
  case round =>
    obtain ⟨k, v, hk, rfl, hT, hv, hmb, hg, hK⟩ := hrel
    have HT := Lib.hid hT
    have HV := Lib.hid hv
    have HMB := Lib.hid hmb
    have HG := Lib.hid hg
    have HK := Lib.hid hK
    clear hT hv hmb hg hK
    have hcase : k = 0 ∨ k = 1 ∨ k = 2 ∨ k = 3 := by omega
    rcases hcase with rfl | rfl | rfl | rfl
    · have j0 := cells_all HK.out 0
      have HC := Lib.hid (wnumber_any F (by have := HFb.out; omega) (w1.heap.size + 1) wb wr v _ HT.out HV.out HG.out HTS.out (by have h1 := enc_len_le 0 F (by have := HFb.out; omega); have h2 := enc_len_le 0 S (by have := HSb.out; omega); simp [hdk, magic] <;> omega))
      have hne := HV.out.ne HK.out (by decide)
      have HNE := Lib.hid hne
      clear hne
      go_wp2_with fail
      refine HC.out.mono ?_; rintro e2 w2 ⟨x, v2, rfl, hT2, hM2, hG2, hk2, -⟩
      have HT2 := Lib.hid hT2
      have HM2 := Lib.hid hM2
      have HG2 := Lib.hid hG2
      have HK2 := Lib.hid ((hk2.block _ (lt_of_block HK.out) (fun h => h.elim (fun h => by omega) HNE.out)).trans HK.out)
      clear hT2 hM2 hG2 hk2
      go_wp2
      go_roundw
      case rel => exact ⟨1, v2, by omega, rfl, HT2.out, .inl HM2.out, fun _ => HM2.out, HG2.out, HK2.out⟩
      case measure => simp [intOf]
    · have j0 := cells_all HK.out 1
      have HC := Lib.hid (wnumber_any S (by have := HSb.out; omega) (w1.heap.size + 1) wb wr v _ HT.out HV.out HG.out HTS.out (by have h1 := enc_len_le 0 F (by have := HFb.out; omega); have h2 := enc_len_le 0 S (by have := HSb.out; omega); simp [hdk, magic] <;> omega))
      have hne := HV.out.ne HK.out (by decide)
      have HNE := Lib.hid hne
      clear hne
      go_wp2_with fail
      refine HC.out.mono ?_; rintro e2 w2 ⟨x, v2, rfl, hT2, hM2, hG2, hk2, -⟩
      have HT2 := Lib.hid hT2
      have HM2 := Lib.hid hM2
      have HG2 := Lib.hid hG2
      have HK2 := Lib.hid ((hk2.block _ (lt_of_block HK.out) (fun h => h.elim (fun h => by omega) HNE.out)).trans HK.out)
      clear hT2 hM2 hG2 hk2
      go_wp2
      go_roundw
      case rel => exact ⟨2, v2, by omega, rfl, HT2.out, .inl HM2.out, fun _ => HM2.out, HG2.out, HK2.out⟩
      case measure => simp [intOf]
    · have j0 := cells_all HK.out 2
      have HC := Lib.hid (wnumber_any M (by have := HMb.out; omega) (w1.heap.size + 1) wb wr v _ HT.out HV.out HG.out HTS.out (by have h1 := enc_len_le 0 F (by have := HFb.out; omega); have h2 := enc_len_le 0 S (by have := HSb.out; omega); simp [hdk, magic] <;> omega))
      have hne := HV.out.ne HK.out (by decide)
      have HNE := Lib.hid hne
      clear hne
      go_wp2_with fail
      refine HC.out.mono ?_; rintro e2 w2 ⟨x, v2, rfl, hT2, hM2, hG2, hk2, -⟩
      have HT2 := Lib.hid hT2
      have HM2 := Lib.hid hM2
      have HG2 := Lib.hid hG2
      have HK2 := Lib.hid ((hk2.block _ (lt_of_block HK.out) (fun h => h.elim (fun h => by omega) HNE.out)).trans HK.out)
      clear hT2 hM2 hG2 hk2
      go_wp2
      go_roundw
      case rel => exact ⟨3, v2, by omega, rfl, HT2.out, .inl HM2.out, fun _ => HM2.out, HG2.out, HK2.out⟩
      case measure => simp [intOf]
    · have HV3 := Lib.hid (HMB.out (by omega))
      have HGA := Lib.hid (World.grownBy_alloc wr (.cells #[.int .i64 0] 2) none)
      have hB3 := keep_blk (HG.out.trans HGA.out) HB.out
      have k0 := cells_all hB3 0
      have k1 := cells_all hB3 1
      have k2 := cells_all hB3 2
      have k3 := cells_all hB3 3
      have k4 := cells_all hB3 4
      have k5 := cells_all hB3 5
      clear hB3
      go_wp2_with fail
      refine (ends_any (F : Nat) (S : Nat) (M : Nat) a n c wh e _).mono ?_; rintro e1 w3 ⟨rfl, hbC, hz, hg3⟩
      have HG3 := Lib.hid ((HG.out.trans HGA.out).trans hg3)
      have HEN := Lib.hid (show EnS w (w1.heap.size + 1) wr.heap.size (wr.heap.size + 1) #[.int .i64 (F : Nat), .int .i64 (S : Nat), .int .i64 (M : Nat), .slice a n c, .bool wh, .int .i64 e] (hdk F S M 3) 0 v w3 from ⟨keep_blk hg3 (keep_blk HGA.out HT.out), ((HV3.out.kept HGA.out).kept hg3).later HA.out.size, keep_blk hg3 (heap_alloc_new wr _), by rw [← World.size_alloc wr (.cells #[.int .i64 0] 2)]; exact hbC⟩)
      have hz3 : w3.heap.size = wr.heap.size + 1 + 1 := hz.trans (by rw [World.size_alloc])
      have hTr : w1.heap.size + 1 < wr.heap.size := lt_of_block HT.out
      have hw1 : wb.heap.size ≤ w1.heap.size := HG1.out.size
      have hzb : wb.heap.size = w.heap.size + 1 := HZB.out
      have HBC := Lib.hid (show w3.heap[wr.heap.size + 1]? = some (.cells #[.int .i64 (F : Nat), .int .i64 (S : Nat), .int .i64 (M : Nat), .slice a ts.length c, .bool wh, .int .i64 e] 31 (0, 0)) from by have h := HEN.out.c; rw [HN.out] at h; exact h)
      have HB3 := Lib.hid (below_grown (HA.out.trans HG3.out))
      have hlt3 : ts.length ≤ 1000000 := by rw [← HN.out]; omega
      clear k0 k1 k2 k3 k4 k5 hbC hz hg3
      go_wp2
      refine (wpIn_wide (n := 3)).1 ?_
      refine wpIn_rangeFunc_ownH rfl (by omega) (gf := 44) (lb := #[.pointer (some ⟨wr.heap.size + 1, 0, none⟩)]) rfl trivial (enters_of Try.func44 (by kernel_rfl) rfl)
        (ends1_stops (3 - 1) (by omega) (wr.heap.size + 1) (F : Nat) (S : Nat) (M : Nat) a c ts hlt3 wh e w w3 HB3.out (by omega) HS0.out HBC.out) kc_t (kc_b (by omega) (by omega)) (Below.refl _ _) (fun _ => rfl)
        (fun pre W => ((∃ v, EnS w (w1.heap.size + 1) wr.heap.size (wr.heap.size + 1) #[.int .i64 (F : Nat), .int .i64 (S : Nat), .int .i64 (M : Nat), .slice a n c, .bool wh, .int .i64 e] (foldE ts wh e (hdk F S M 3) pre).1 (foldE ts wh e (hdk F S M 3) pre).2 v W) ∧ w3.heap.size ≤ W.heap.size) ∧ Below w.heap.size w W)
        (fun c pre W => False ∧ Below w.heap.size w W)
        (OwnFrom.and (Own.from (fun s A B row hs hg hr => ⟨hs.1.imp (fun v h => h.own hg hr), Nat.le_trans hs.2 hg.size⟩) _) (ownFrom_below (Nat.le_refl _) (by omega)))
        (fun c => OwnFrom.and (Own.from (fun s A B row hs hg hr => hs) _) (ownFrom_below (Nat.le_refl _) (by omega)))
        ⟨⟨⟨v, HEN.out⟩, Nat.le_refl _⟩, HB3.out⟩
        (fun x a' W => ∃ Bx, W.heap[Bx]? = some (.cells (itemR ts e x.val).cells.toArray 25 (0, 0)) ∧ a' = { tmps := #[lgV (F : Nat) (S : Nat) (M : Nat) a n c wh e, .pointer (some ⟨w.heap.size, 0, none⟩), .slice none 0 0, .int .i64 0, .int .i64 0, .pointer (some ⟨w1.heap.size + 1, 0, none⟩), undef, u7, .pointer (some ⟨wr.heap.size, 0, none⟩), .pointer (some ⟨Bx, 0, none⟩), undef, lgV (F : Nat) (S : Nat) (M : Nat) a n c wh e, .int .i64 0, .int .i64 0, .bool false, undef, .slice (some ⟨w1.heap.size, 0, none⟩) 4 4, .slice (some ⟨w1.heap.size, 0, none⟩) 4 4, .agg #[.slice (some ⟨w1.heap.size, 0, none⟩) 4 4], .agg #[.slice (some ⟨w1.heap.size, 0, none⟩) 4 4], .pointer (some ⟨w.heap.size, 0, none⟩), .pointer (some ⟨w.heap.size, 0, none⟩), .int .i64 (F : Nat), .pointer (some ⟨w.heap.size, 0, none⟩), .pointer (some ⟨w.heap.size, 1, none⟩), .int .i64 (S : Nat), .pointer (some ⟨w.heap.size, 2, none⟩), .int .i64 (M : Nat), .slice (some ⟨w1.heap.size + 1 + 1, 0, none⟩) 3 3, .int .i64 3, .int .i64 3, .bool false, u32, u33, u34, u35, u36, lgV (F : Nat) (S : Nat) (M : Nat) a n c wh e, .func (.func 44) #[] #[.pointer (some ⟨wr.heap.size + 1, 0, none⟩)], (itemR ts e x.val).val, undef, undef, undef, undef, undef, undef, undef, undef, undef, undef, undef, undef, undef, undef, undef, undef, undef, undef, undef, undef, undef, undef, undef, undef, undef, undef, undef, undef, undef, undef, undef, undef, undef, undef, undef, undef, undef, undef, undef, undef, undef], defers := [] })
        (fun x a' => Own.from (fun s A B row hs hg hr => by obtain ⟨Bx, h1, h2⟩ := hs; exact ⟨Bx, block_kept h1 hg hr, h2⟩) _)
        ?assign ?body ?done ?stop
      case assign =>
        rintro l pre x W KK ⟨⟨⟨vv, hF⟩, hVs⟩, hBl⟩ hK
        have HNW := Lib.hid (heap_alloc_new W (.cells (itemR ts e x.val).cells.toArray 25))
        have HGW := Lib.hid (World.grownBy_alloc W (.cells (itemR ts e x.val).cells.toArray 25) none)
        have HF2 := Lib.hid (hF.kept HGW.out)
        have HK9 := Lib.hid hK
        have HBl := Lib.hid hBl
        have HCW := Lib.hid (lt_of_block hF.c)
        have HVS := Lib.hid hVs
        clear hK hF hBl hVs
        gi_wp2
        exact HK9.out _ _ (KeepsFrom.of_grownBy HGW.out (fun j e => by cases e)) ⟨(Below.refl _ W).grown HGW.out HBl.out.size (fun k e => by cases e), HGW.out.block _ HCW.out (by simp)⟩ ⟨⟨⟨vv, HF2.out⟩, Nat.le_trans HVS.out HGW.out.size⟩, HBl.out.grown HGW.out HBl.out.size (fun k e => by cases e)⟩ ⟨W.heap.size, HNW.out, rfl⟩
      case stop =>
        rintro D c pre W hD _ ⟨hf, _⟩ hK
        exact hf.elim
      case body =>
        rintro l pre x a' V hl2 ⟨r, hr⟩ ⟨⟨⟨vP, hF⟩, hVs⟩, hBl⟩ ⟨Bx, hcx, rfl⟩ hlt2
        have hsn := foldE_snoc ts wh e (hdk F S M 3) pre x
        have hfl := foldE_len HOK.out (hdk F S M 3) pre.length pre rfl
        have hit := it_all HOK.out x.val
        have hsrc := (item_src HS0.out e x.val).below hBl
        have hN9 : endsN ts wh ≤ 401 := by have h := HN.out; unfold endsN; split <;> omega
        obtain ⟨t, ht⟩ : ∃ t, t = itemR ts e x.val := ⟨_, rfl⟩
        obtain ⟨p, hp⟩ : ∃ p, p = foldE ts wh e (hdk F S M 3) pre := ⟨_, rfl⟩
        rw [← hp] at hF hsn hfl
        rw [← ht] at hcx hsn hit hsrc ⊢
        have HSRC := Lib.hid hsrc
        clear hsrc
        have HSN := Lib.hid hsn
        obtain ⟨P, z⟩ := p
        obtain ⟨hfl1, hz0, hz1⟩ := hfl
        have h3 := enc_len_le 0 F (by have := HFb.out; omega)
        have h4 := enc_len_le 0 S (by have := HSb.out; omega)
        have h5 := enc_len_le 2 M (by have := HMb.out; omega)
        have h2 : (hdk F S M 3).length ≤ 100 := by simp [hdk, magic] <;> omega
        have h1 : P.length ≤ (hdk F S M 3).length + pre.length * 2076 := hfl1
        have HPL := Lib.hid (show P.length ≤ 840000 from by omega)
        clear h1 h2 h3 h4 h5
        have hz0 : 0 ≤ z := hz0
        have hz1 : z ≤ 4611686018427387904 := hz1
        have HF := Lib.hid (show EnS w (w1.heap.size + 1) wr.heap.size (wr.heap.size + 1) #[.int .i64 (F : Nat), .int .i64 (S : Nat), .int .i64 (M : Nat), .slice a n c, .bool wh, .int .i64 e] P z vP V from hF)
        have HBl := Lib.hid hBl
        have HVS := Lib.hid hVs
        have HX := Lib.hid hcx
        have HIT := Lib.hid hit
        clear hF hVs hBl hcx hr hsn hfl1 ht hp hit HBC HB3
        have hTV := lt_of_block HF.out.t
        have hMV := lt_of_block HF.out.m
        have hBV := lt_of_block HX.out
        have hnB : ¬ (Bx = w1.heap.size + 1 ∨ rowOf vP = some Bx ∨ Bx = wr.heap.size) := fun h => by rcases h with h | h | h <;> first | exact HF.out.p.1.ne HX.out (by decide) h | (have h9 := HX.out; rw [h] at h9; first | (rw [HF.out.t] at h9; cases h9) | (rw [HF.out.m] at h9; cases h9))
        have HNB := Lib.hid hnB
        have HPR := Lib.hid (show ∀ k, rowOf vP = some k → k < V.heap.size from HF.out.p.1.lt)
        have hwk : IntKind.u8.wrap t.k = t.k := by have h1 := HIT.out.k1; have h2 := HIT.out.k8; rw [IntKind.wrap_u8]; omega
        obtain ⟨kb, hkb⟩ : ∃ kb, kb = UInt8.ofNat t.k.toNat := ⟨_, rfl⟩
        have HKB := Lib.hid hkb
        have HM1 := Lib.hid (Mb.one V t.k kb (by have h1 := HIT.out.k1; have h2 := HIT.out.k8; rw [hkb]; simp [UInt8.toNat_ofNat']; omega))
        have HGV := Lib.hid (World.grownBy_alloc V (.cells #[.int .u8 t.k] 5) none)
        have HGV2 := Lib.hid (World.grownBy_alloc (V.alloc (.cells #[.int .u8 t.k] 5)) (.cells #[.slice (some ⟨V.heap.size, 0, none⟩) 1 1] 56) none)
        have HBT1 := Lib.hid (show ((V.alloc (.cells #[.int .u8 t.k] 5)).alloc (.cells #[.slice (some ⟨V.heap.size, 0, none⟩) 1 1] 56)).heap[V.heap.size + 1]? = some (.cells #[.slice (some ⟨V.heap.size, 0, none⟩) 1 1] 56 (0, 0)) from by have h := heap_alloc_new (V.alloc (.cells #[.int .u8 t.k] 5)) (.cells #[.slice (some ⟨V.heap.size, 0, none⟩) 1 1] 56); rw [World.size_alloc] at h; exact h)
        have i1 : V.cell? ⟨Bx, 1, none⟩ = some (.int .i64 t.k) := cells_all HX.out 1
        clear hkb hnB
        refine wpIn_block ?_
        refine wpIn_seq ?_
        refine reg_plain_w (by rintro ⟨a, w, h⟩; exact h) (by kernel_rfl) ?_
        go_wp2
        obtain ⟨V1, hV1⟩ : ∃ V1, V1 = ((V.alloc (.cells #[.int .u8 t.k] 5)).alloc (.cells #[.slice (some ⟨V.heap.size, 0, none⟩) 1 1] 56)) := ⟨_, rfl⟩
        rw [← hV1] at HBT1 HGV2 ⊢
        clear hV1 i1 hwk
        have HMB1 := Lib.hid (HM1.out.kept HGV2.out)
        have HG1V := Lib.hid (HGV.out.trans HGV2.out)
        have x0 : V1.cell? ⟨Bx, 0, none⟩ = some (.int .i64 t.a) := keep_cell HG1V.out (cells_all HX.out 0)
        have x1 : V1.cell? ⟨wr.heap.size, 0, none⟩ = some (.int .i64 z) := keep_cell HG1V.out (cells_all HF.out.m 0)
        obtain ⟨d, hd⟩ : ∃ d, d = t.a - z := ⟨_, rfl⟩
        have HD := Lib.hid hd
        have hsub : IntKind.i64.wrap (t.a - z) = d := by have h1 := HIT.out.a0; have h2 := HIT.out.a1; rw [IntKind.wrap_i64]; omega
        have HC1 := Lib.hid (wnumber_int d (by have h1 := HIT.out.a0; omega) (by have h2 := HIT.out.a1; omega) (V.heap.size + 1) V V1 _ [kb] HBT1.out (.inl HMB1.out) HG1V.out (Nat.le_succ _) (by simp))
        have HEL1 := Lib.hid (encZ_len d (by have h2 := HIT.out.a1; omega))
        have HEL2 := Lib.hid (encZ_len t.n (by have h2 := HIT.out.n1; omega))
        clear hd
        refine wpIn_seq ?_
        refine reg_plain_w (by rintro ⟨a, w, h⟩; exact h) (by kernel_rfl) ?_
        go_wp2_with fail
        refine HC1.out.mono ?_; rintro e2 V2 ⟨y2, v2, rfl, hb2, hm2, hg2, -, -⟩
        have HBT2 := Lib.hid hb2
        have HMB2 := Lib.hid hm2
        have HG2V := Lib.hid hg2
        clear hb2 hm2 hg2 x0 x1 hsub
        go_wp2
        have x2 : V2.cell? ⟨Bx, 2, none⟩ = some (.int .i64 t.n) := keep_cell HG2V.out (cells_all HX.out 2)
        have HC2 := Lib.hid (wnumber_int t.n (by have h1 := HIT.out.n0; omega) (by have h2 := HIT.out.n1; omega) (V.heap.size + 1) V V2 _ _ HBT2.out (.inl HMB2.out) HG2V.out (Nat.le_succ _) (by have h1 := HEL1.out; rw [List.length_append]; simp; omega))
        refine wpIn_seq ?_
        refine reg_plain_w (by rintro ⟨a, w, h⟩; exact h) (by kernel_rfl) ?_
        go_wp2_with fail
        refine HC2.out.mono ?_; rintro e3 V3 ⟨y3, v3, rfl, hb3, hm3, hg3, -, -⟩
        obtain ⟨a3, c3, rfl, -⟩ := hm3.shape
        obtain ⟨Q3, hQ3⟩ : ∃ Q3, Q3 = [kb] ++ encZ d ++ encZ t.n := ⟨_, rfl⟩
        rw [← hQ3] at hb3 hm3
        obtain ⟨L3, hL3⟩ : ∃ L3, L3 = Q3.length := ⟨_, rfl⟩
        rw [← hL3] at hb3 hm3
        have HQ3 := Lib.hid hQ3
        have HL3 := Lib.hid hL3
        have HLB3 := Lib.hid (show L3 ≤ 19 from by have h1 := HEL1.out; have h2 := HEL2.out; rw [hL3, hQ3]; simp only [List.length_append, List.length_cons, List.length_nil]; omega)
        have HBT3 := Lib.hid hb3
        have HMB3 := Lib.hid hm3
        have HG3V := Lib.hid hg3
        clear hb3 hm3 hg3 x2 hQ3 hL3
        go_wp2
        obtain ⟨m, hm⟩ : ∃ m, m = t.b.length := ⟨_, rfl⟩
        have HMM := Lib.hid hm
        have HMBL := Lib.hid (show m ≤ 2048 from by rw [hm]; exact HIT.out.bl)
        have x3 : V3.cell? ⟨Bx, 3, none⟩ = some (.slice t.x m t.c) := by rw [hm]; exact keep_cell HG3V.out (cells_all HX.out 3)
        have x4 := cells_all HBT3.out 0
        have HSR3 := Lib.hid (src_gon (c := t.c) hm (HSRC.out.keptNone HG3V.out))
        clear hm
        refine wpIn_seq ?_
        refine reg_plain_w (by rintro ⟨a, w, h⟩; exact h) (by kernel_rfl) ?_
        go_wp2_with (at_builtin; refine wpList_gs eB rfl _ _ 23 rfl _ L3 m (bsV Q3) (bsV t.b) rfl rfl (by have h := HMB3.out.1; rw [← HL3.out] at h; exact h) HSR3.out (bs_one _) (by have h1 := HLB3.out; have h2 := HMBL.out; omega) ?_)
        intro v4 U4 hq4 hg4 hr4
        obtain ⟨hM4, hG4⟩ := Mb.app (l := Q3) (m := t.b) HMB3.out (World.grownBy.refl _ _) (by rw [← HL3.out, ← HMM.out]; exact hq4) hg4 hr4 HG3V.out (Nat.le_refl _)
        obtain ⟨a4, c4, rfl, -⟩ := hM4.shape
        obtain ⟨B4, hB4⟩ : ∃ B4, B4 = Q3 ++ t.b := ⟨_, rfl⟩
        rw [← hB4] at hM4 ⊢
        obtain ⟨L4, hL4⟩ : ∃ L4, L4 = B4.length := ⟨_, rfl⟩
        rw [← hL4] at hM4 ⊢
        have HB4 := Lib.hid (show B4 = bdZ z t from by rw [hB4, HQ3.out, HKB.out, HD.out]; rfl)
        have HL4 := Lib.hid hL4
        have HLB4 := Lib.hid (show L4 ≤ 2100 from by have h1 := HLB3.out; have h2 := HL3.out; have h3 := HMBL.out; have h4 := HMM.out; rw [hL4, hB4, List.length_append]; omega)
        have hne4 : rowOf (.slice a3 L3 c3) ≠ some (V.heap.size + 1) := HMB3.out.1.ne HBT3.out (by decide)
        have hbt4 := (hg4.block _ (lt_of_block HBT3.out) (fun e => hne4 e.symm)).trans HBT3.out
        have hne5 : rowOf (.slice a4 L4 c4) ≠ some (V.heap.size + 1) := hM4.1.ne hbt4 (by decide)
        have j0 : U4.cell? ⟨V.heap.size + 1, 0, none⟩ = some (.slice a3 L3 c3) := cells_all hbt4 0
        have j1 := frozen_all hbt4 0
        have gs4 := grown_setCell U4 (V.heap.size + 1) 0 (.slice a4 L4 c4)
        have HBT5 := Lib.hid (show (U4.setCell ⟨V.heap.size + 1, 0, none⟩ (.slice a4 L4 c4)).heap[V.heap.size + 1]? = some (.cells #[.slice a4 L4 c4] 56 (0, 0)) from heap_setCell_at (j := 0) _ hbt4)
        have HMB5 := Lib.hid (show Mb V (U4.setCell ⟨V.heap.size + 1, 0, none⟩ (.slice a4 L4 c4)) (.slice a4 L4 c4) B4 from ⟨hM4.1.kept gs4 (fun g e1 e2 => hne5 (e1.trans e2)), hM4.2⟩)
        have HG5V := Lib.hid (grown_new hG4 gs4 (Nat.le_succ _))
        clear hq4 hg4 hr4 hM4 hG4 hB4 hL4 hne4 hbt4 hne5 gs4 x3 x4
        go_wp2
        obtain ⟨V4, hV4⟩ : ∃ V4, V4 = (U4.setCell ⟨V.heap.size + 1, 0, none⟩ (.slice a4 L4 c4)) := ⟨_, rfl⟩
        rw [← hV4] at HBT5 HMB5 HG5V ⊢
        clear hV4 j0 j1
        have HWV := Lib.hid (grown_below HBl.out)
        have HT4 := Lib.hid (keep_blk HG5V.out HF.out.t)
        have HP4 := Lib.hid (HF.out.p.kept HG5V.out)
        have HWV4 := Lib.hid (HWV.out.trans HG5V.out)
        have HC3 := Lib.hid (wnumber_int ((L4 : Nat) : Int) (by omega) (by have h := HLB4.out; omega) (w1.heap.size + 1) w V4 vP P HT4.out (.inl HP4.out) HWV4.out (by omega) (by have h := HPL.out; omega))
        have x5 : V4.cell? ⟨V.heap.size + 1, 0, none⟩ = some (.slice a4 L4 c4) := cells_all HBT5.out 0
        refine wpIn_seq ?_
        refine reg_plain_w (by rintro ⟨a, w, h⟩; exact h) (by kernel_rfl) ?_
        go_wp2_with fail
        refine HC3.out.mono ?_; rintro e4 V5 ⟨y5, v5, rfl, ht5, hp5, hg5, hk5, hr5⟩
        obtain ⟨a5, c5, rfl, -⟩ := hp5.shape
        obtain ⟨Q5, hQ5⟩ : ∃ Q5, Q5 = P ++ encZ ((L4 : Nat) : Int) := ⟨_, rfl⟩
        rw [← hQ5] at ht5 hp5 hr5
        obtain ⟨L5, hL5⟩ : ∃ L5, L5 = Q5.length := ⟨_, rfl⟩
        rw [← hL5] at ht5 hp5 hr5
        have HQ5 := Lib.hid hQ5
        have HL5 := Lib.hid hL5
        have HLB5 := Lib.hid (show L5 ≤ 850000 from by have h1 := HPL.out; have h2 := encZ_len ((L4 : Nat) : Int) (by have h := HLB4.out; omega); rw [hL5, hQ5, List.length_append]; omega)
        have hV4s := HG5V.out.size
        have HBT6 := Lib.hid ((hk5.block _ (lt_of_block HBT5.out) (fun h => h.elim (fun h => by omega) (fun h => by have h9 := HPR.out _ h; omega))).trans HBT5.out)
        have HMB6 := Lib.hid (show Mb V V5 (.slice a4 L4 c4) B4 from ⟨HMB5.out.1.keeps hk5 (fun g hg hX => by have h8 := HMB5.out.2 g hg; rcases hX with h | h <;> first | omega | (have h9 := HPR.out _ h; omega)), HMB5.out.2⟩)
        have hk5w : Keeps (fun k => k = w1.heap.size + 1 ∨ rowOf vP = some k) V V5 := (Keeps.keep HG5V.out).trans hk5
        have HK5 := Lib.hid hk5w
        have HT5 := Lib.hid ht5
        have HP5 := Lib.hid hp5
        have HW5 := Lib.hid hg5
        have HR5 := Lib.hid (show ∀ k, rowOf (.slice a5 L5 c5) = some k → rowOf vP = some k ∨ V.heap.size ≤ k from fun k h => (hr5 k h).imp_right (fun h => by omega))
        clear hk5 hk5w ht5 hp5 hg5 hr5 hQ5 hL5 x5 hV4s
        go_wp2
        have x6 := cells_all HT5.out 0
        have x7 := cells_all HBT6.out 0
        have x8 := frozen_all HT5.out 0
        refine wpIn_seq ?_
        refine reg_plain_w (by rintro ⟨a, w, h⟩; exact h) (by kernel_rfl) ?_
        go_wp2_with (at_builtin; refine wpList_gs eB rfl _ _ 23 rfl _ L5 L4 (bsV Q5) (bsV B4) rfl rfl (by have h := HP5.out.1; rw [← HL5.out] at h; exact h) (by have h := HMB6.out.src; rw [← HL4.out] at h; exact h) (bs_one _) (by have h1 := HLB5.out; have h2 := HLB4.out; omega) ?_)
        intro v6 U6 hq6 hg6 hr6
        obtain ⟨hM6, hG6⟩ := Mb.app (l := Q5) (m := B4) HP5.out (World.grownBy.refl _ _) (by rw [← HL5.out, ← HL4.out]; exact hq6) hg6 hr6 HW5.out (Nat.le_refl _)
        obtain ⟨a6, c6, rfl, -⟩ := hM6.shape
        obtain ⟨B6, hB6⟩ : ∃ B6, B6 = Q5 ++ B4 := ⟨_, rfl⟩
        rw [← hB6] at hM6 ⊢
        obtain ⟨L6, hL6⟩ : ∃ L6, L6 = B6.length := ⟨_, rfl⟩
        rw [← hL6] at hM6 ⊢
        have HB6 := Lib.hid (show B6 = P ++ recZ z t from by rw [hB6, HQ5.out, List.append_assoc, HL4.out, HB4.out]; rfl)
        have hne6 : rowOf (.slice a5 L5 c5) ≠ some (w1.heap.size + 1) := HP5.out.1.ne HT5.out (by decide)
        have ht6 := (hg6.block _ (lt_of_block HT5.out) (fun e => hne6 e.symm)).trans HT5.out
        have hne7 : rowOf (.slice a6 L6 c6) ≠ some (w1.heap.size + 1) := hM6.1.ne ht6 (by decide)
        have j0 : U6.cell? ⟨w1.heap.size + 1, 0, none⟩ = some (.slice a5 L5 c5) := cells_all ht6 0
        have j1 := frozen_all ht6 0
        have gs6 := grown_setCell U6 (w1.heap.size + 1) 0 (.slice a6 L6 c6)
        have HT7 := Lib.hid (show (U6.setCell ⟨w1.heap.size + 1, 0, none⟩ (.slice a6 L6 c6)).heap[w1.heap.size + 1]? = some (.cells #[.slice a6 L6 c6] 56 (0, 0)) from heap_setCell_at (j := 0) _ ht6)
        have HP7 := Lib.hid (show Mb w (U6.setCell ⟨w1.heap.size + 1, 0, none⟩ (.slice a6 L6 c6)) (.slice a6 L6 c6) B6 from ⟨hM6.1.kept gs6 (fun g e1 e2 => hne7 (e1.trans e2)), hM6.2⟩)
        have HK7 := Lib.hid (show Keeps (fun k => k = w1.heap.size + 1 ∨ rowOf vP = some k) V (U6.setCell ⟨w1.heap.size + 1, 0, none⟩ (.slice a6 L6 c6)) from (HK5.out.then (Keeps.of (X := fun i => rowOf (.slice a5 L5 c5) = some i) hg6 (fun r e => e)) (fun i hi hlt => (HR5.out i hi).elim .inr (fun h => by omega))).trans (Keeps.row gs6 (.inl rfl)))
        clear hq6 hg6 hr6 hM6 hG6 hB6 hL6 hne6 ht6 hne7 gs6 x6 x7 x8
        go_wp2
        obtain ⟨V7, hV7⟩ : ∃ V7, V7 = (U6.setCell ⟨w1.heap.size + 1, 0, none⟩ (.slice a6 L6 c6)) := ⟨_, rfl⟩
        rw [← hV7] at HT7 HP7 HK7 ⊢
        clear hV7 j0 j1
        have x0 : V7.cell? ⟨Bx, 0, none⟩ = some (.int .i64 t.a) := keeps_cell HK7.out (cells_all HX.out 0) (fun h => HNB.out (h.elim .inl (fun h => .inr (.inl h))))
        have hMT : ¬ wr.heap.size = w1.heap.size + 1 := by omega
        have hM7 : V7.heap[wr.heap.size]? = some (.cells #[.int .i64 z] 2 (0, 0)) := (HK7.out.block _ hMV (fun h => h.elim hMT (HF.out.p.1.ne HF.out.m (by decide)))).trans HF.out.m
        have m0 := cells_all hM7 0
        have m1 := frozen_all hM7 0
        have gs8 := grown_setCell V7 wr.heap.size 0 (.int .i64 t.a)
        have hne8 : rowOf (.slice a6 L6 c6) ≠ some wr.heap.size := HP7.out.1.ne hM7 (by decide)
        have HT8 := Lib.hid ((gs8.block _ (lt_of_block HT7.out) (by simp; omega)).trans HT7.out)
        have HP8 := Lib.hid (show Mb w (V7.setCell ⟨wr.heap.size, 0, none⟩ (.int .i64 t.a)) (.slice a6 L6 c6) B6 from ⟨HP7.out.1.kept gs8 (fun g e1 e2 => hne8 (e1.trans e2)), HP7.out.2⟩)
        have HM8 := Lib.hid (show (V7.setCell ⟨wr.heap.size, 0, none⟩ (.int .i64 t.a)).heap[wr.heap.size]? = some (.cells #[.int .i64 t.a] 2 (0, 0)) from heap_setCell_at (j := 0) _ hM7)
        have HK8 := Lib.hid (show Keeps (fun k => k = w1.heap.size + 1 ∨ rowOf vP = some k ∨ k = wr.heap.size) V (V7.setCell ⟨wr.heap.size, 0, none⟩ (.int .i64 t.a)) from (HK7.out.mono (fun i _ h => h.elim .inl (fun h => .inr (.inl h)))).trans (Keeps.row gs8 (.inr (.inr rfl))))
        have HPP := Lib.hid (show foldE ts wh e (hdk F S M 3) (pre ++ [x]) = (B6, t.a) from HSN.out.trans (by rw [HB6.out]; rfl))
        clear hMT hM7 gs8 hne8
        refine reg_plain_w (by rintro ⟨a, w, h⟩; exact h) (by kernel_rfl) ?_
        go_wp2
        obtain ⟨h1, h2, h3, h4⟩ := enEnd (C := wr.heap.size + 1) (B := wr.heap.size + 1 + 1) HF.out HBl.out HK8.out (Nat.le_refl _) (by omega) (by omega) HT8.out HP8.out HM8.out _ HPP.out
        exact ⟨h1, h2, ⟨h3, by have h8 := HVS.out; have h9 := HK8.out.size; omega⟩, h4⟩
      case done =>
        rintro D ys W hD rfl ⟨⟨⟨v9, hF⟩, hVs⟩, hBl⟩ hK
        have hfa := fold_all HOK.out
        have hhd : headOf ⟨(F : Nat), (S : Nat), (M : Nat), rsOf ts, wh, e⟩ = hdk F S M 3 := by simp [headOf, hdk]
        rw [hhd] at hfa
        have hp := hF.p
        rw [hfa, ← HRES.out] at hp
        have x0 := cells_all hF.t 0
        have HP9 := Lib.hid (show Mb w (W.putObj D (.deferred none)) v9 res from ⟨hp.1.keptw (grownBy_putObj' W D (.deferred none)) (fun r e => by cases e; exact ⟨_, hK, rfl⟩), hp.2⟩)
        have HB9 := Lib.hid (hBl.trans (belowK_b (w := w) (Nat.le_refl _) W D _ (.deferred none) (by omega) hK rfl rfl))
        have HK9 := Lib.hid hK
        clear hfa hhd hp hF hVs hBl hK HBC HB3 HEN
        go_wp2
        refine ⟨by simp, .inl ⟨_, _, rfl, run_takeDeferred HK9.out, ?_⟩⟩
        refine ⟨.tuple #[v9, .int .i64 0], ?_, v9, rfl, HP9.out, HB9.out⟩
        simp [results, Try.f11, go_sem]
/-- log.Encode of a log that may be; of one that may not. -/
theorem encode_yes (f s m : Int) (a : Option Addr) (c : Nat) (ts : List Rv) (wh : Bool) (e : Int) (w : World) (hs : RL w a ts) (hl : ts.length ≤ 400) (hok : (⟨f, s, m, rsOf ts, wh, e⟩ : Lg).Ok) : Calls Try.prog 11 #[lgV f s m a ts.length c wh e] w fun e' w' => ∃ v', e' = .returned (.tuple #[v', .int .i64 0]) ∧ Mb w w' v' (encL ⟨f, s, m, rsOf ts, wh, e⟩) ∧ w.grownBy w' none := by
  obtain ⟨F, rfl⟩ : ∃ F : Nat, f = (F : Nat) := ⟨f.toNat, by have h : 1 ≤ f := hok.1.1.1.1.1.1; omega⟩
  obtain ⟨S, rfl⟩ : ∃ S : Nat, s = (S : Nat) := ⟨s.toNat, by have h : 1 ≤ s := hok.1.1.1.1.2.1; omega⟩
  obtain ⟨M, rfl⟩ : ∃ M : Nat, m = (M : Nat) := ⟨m.toNat, by have h : 1 ≤ m := hok.1.1.1.2.1; omega⟩
  exact (callsIn_wide.1 (encode_in F S M a ts.length c ts wh e w rfl hs hl hok)).mono (fun e' w' h => let ⟨v, h1, h2, h3⟩ := h; ⟨v, h1, h2, grown_below h3⟩)
theorem rencode_any (f s m : Int) (a : Option Addr) (c : Nat) (ts : List Rv) (wh : Bool) (e : Int) (w : World) (hs : RL w a ts) (hl : ts.length ≤ 1000000) (hb : bdS ts ≤ 90000) (hok : (⟨f, s, m, rsOf ts, wh, e⟩ : Lg).Ok) : Calls Try.prog 14 #[lgV f s m a ts.length c wh e] w fun e' w' => ∃ v', e' = .returned v' ∧ Mb w w' v' (encL ⟨f, s, m, rsOf ts, wh, e⟩) ∧ w.grownBy w' none := by
  obtain ⟨F, rfl⟩ : ∃ F : Nat, f = (F : Nat) := ⟨f.toNat, by have h : 1 ≤ f := hok.1.1.1.1.1.1; omega⟩
  obtain ⟨S, rfl⟩ : ∃ S : Nat, s = (S : Nat) := ⟨s.toNat, by have h : 1 ≤ s := hok.1.1.1.1.2.1; omega⟩
  obtain ⟨M, rfl⟩ : ∃ M : Nat, m = (M : Nat) := ⟨m.toNat, by have h : 1 ≤ m := hok.1.1.1.2.1; omega⟩
  exact rencode_nat F S M a c ts wh e w hs hl hb hok
set_option maxRecDepth 100000 in
set_option maxHeartbeats 4000000 in
theorem encode_no (f s m : Int) (a : Option Addr) (c : Nat) (ts : List Rv) (wh : Bool) (e : Int) (w : World) (hs : RL w a ts) (hl : ts.length ≤ 1000000) (hno : ¬ (⟨f, s, m, rsOf ts, wh, e⟩ : Lg).Ok) : Calls Try.prog 11 #[lgV f s m a ts.length c wh e] w fun e' w' => e' = .returned (.tuple #[.slice none 0 0, .int .i64 260]) ∧ w.grownBy w' none := by
  have HA := Lib.hid (World.grownBy_alloc w (boxL f s m a ts.length c wh e) none)
  have HC := Lib.hid (check_any f s m a c ts wh e _ (hs.kept HA.out) hl)
  have HCK := Lib.hid (ckV_no hno)
  clear hs hno hl
  go_enter Try.func11, Try.ntmps11
  go_wp2_with fail
  refine HC.out.mono ?_; rintro e1 w1 ⟨rfl, hg1⟩
  rw [HCK.out]
  have HG1 := Lib.hid hg1
  clear hg1
  go_wp2
  go_ret2
  exact ⟨rfl, HA.out.trans HG1.out⟩
end Go.Proofs.Ytpoifobhbmhelaa
