import Derived.Test.YtpoifobhbmhelaaH
set_option linter.unusedVariables false
set_option linter.unusedSimpArgs false
namespace Go.Proofs.Ytpoifobhbmhelaa
open Go.RowKit
theorem set3 {W : World} {T : Nat} {c0 c1 c2 c3 : Value} {fz : Nat × Nat} (a n s : Value) (h : W.heap[T]? = some (.cells ([c0, c1, c2, c3] : List Value).toArray 25 fz)) :
    (((W.setCell ⟨T, 0, none⟩ a).setCell ⟨T, 2, none⟩ n).setCell ⟨T, 3, none⟩ s).heap[T]? = some (.cells ([a, c1, n, s] : List Value).toArray 25 fz) ∧ W.grownBy (((W.setCell ⟨T, 0, none⟩ a).setCell ⟨T, 2, none⟩ n).setCell ⟨T, 3, none⟩ s) (some T) :=
  ⟨heap_setCell_at (j := 3) s (heap_setCell_at (j := 2) n (heap_setCell_at (j := 0) a h)), ((grown_setCell W T 0 a).trans (grown_setCell _ T 2 n)).trans (grown_setCell _ T 3 s)⟩
theorem recDo_ok {w w7 w8 w9 w10 : World} {o : Option Rc} {T R : Nat} {a k n : Int} {m : Nat} {l : List UInt8} {x : Option Addr} {c : Nat} {c7 cR : Array Value} (ho : o = some ⟨a, k, n, l⟩) (hm : m = l.length) (hQ : Gs eB w7 (.slice x m c) m (bsV l)) (hr : ∀ g, rowOf (.slice x m c) = some g → w.heap.size ≤ g) (hT : w7.heap[T]? = some (.cells c7 25 (0, 0))) (h8 : w7.grownBy w8 (some T)) (h9 : w8.grownBy w9 none) (hR : w9.heap[R]? = some (.cells cR 25 (0, 0))) (h10 : w9.grownBy w10 (some R)) (hg : w.grownBy w7 none) (hTn : w.heap.size ≤ T) (hRn : w.heap.size ≤ R) :
    RecDo w o (.returned (rV a k n x m c)) w10 := by
  subst ho hm
  have q8 := hQ.kept h8 (fun g e1 e2 => by cases e2; exact hQ.ne hT (by decide) e1)
  have q9 := q8.keptNone h9
  have q10 := q9.kept h10 (fun g e1 e2 => by cases e2; exact q9.ne hR (by decide) e1)
  exact ⟨x, c, rfl, q10, grown_new ((grown_new hg h8 hTn).trans h9) h10 hRn, hr⟩
set_option maxRecDepth 100000 in
set_option maxHeartbeats 4000000 in
theorem record_okR (x : Option Addr) (cap : Nat) (c : UInt8) (t : List UInt8) (last : Int) (w : World) (hs : Go.Proofs.Ytpoifobhbmhelaa.Src w x (c :: t)) (hcap : (c :: t).length ≤ cap) (hl : (c :: t).length ≤ 1000000) (h0 : 0 ≤ last) (h1 : last ≤ 4611686018427387904) (y n0 : Nat) (u v0 : List UInt8) (ht : take t = .num y u) (hu : take u = .num n0 v0) (hy : (y : Int) ≤ 4611686018427387904 - last) (hn0 : n0 < 65536) (hR : Rt (last + y) c.toNat n0 v0.length) : Calls Try.prog 36 #[.slice x (c :: t).length cap, .int .i64 last] w fun e w' => RecDo w (decB (c :: t) last) e w' := by
  have HO := Lib.hid (show decB (c :: t) last = some ⟨last + y, c.toNat, n0, v0⟩ from decB_ok ht hu ⟨⟨hy, hn0⟩, .inl hR⟩)
  have HRT := Lib.hid hR
  clear hR
  have HY0 := Lib.hid hy
  have HU := Lib.hid (take_lt ht)
  have HUV := Lib.hid (take_lt hu)
  have HY := Lib.hid (take_inv ht).2
  have HNB := Lib.hid (take_inv hu).2
  have HTK := Lib.hid ht
  have HUK := Lib.hid hu
  obtain ⟨D, hD⟩ : ∃ D : Int, D = 4611686018427387904 - last := ⟨_, rfl⟩
  have hsub : IntKind.i64.wrap (4611686018427387904 - last) = D := by rw [IntKind.wrap_i64]; omega
  have HDD := Lib.hid hD
  clear ht hu hD
  obtain ⟨A, hA⟩ : ∃ A : Int, A = last + y := ⟨_, rfl⟩
  have hadd : IntKind.i64.wrap (last + (y : Int)) = A := by have h3 := HY0.out; rw [IntKind.wrap_i64]; omega
  have HAA := Lib.hid hA
  clear hA
  have hyD : decide ((y : Int) ≤ D) = true := decide_eq_true (by rw [HDD.out]; exact hy)
  have hnD : decide ((n0 : Int) < 65536) = true := decide_eq_true (by omega)
  obtain ⟨n, hn⟩ : ∃ n, n = (c :: t).length := ⟨_, rfl⟩
  have HN1 := Lib.hid (show n - 1 = t.length from by simp [hn])
  have hn1 : 1 ≤ n := by simp [hn]
  have hpos : 0 < n := hn1
  obtain ⟨b, o, hx, hc⟩ := src_some hs (by simp)
  obtain ⟨x1, cap1, hsl, hc1, hs1⟩ := src_from hs hcap 1 (by simp)
  have hb0 : b < w.heap.size := Go.Proofs.Ytpoifobhbmhelaa.Src.lt (hx ▸ hs) (by simp)
  rw [← hn] at hsl hc1 ⊢
  have hs1' : Go.Proofs.Ytpoifobhbmhelaa.Src w x1 t := by simpa using hs1
  have HX1 := Lib.hid (show ∀ b' o', x1 = some ⟨b', o', none⟩ → t ≠ [] → b' ≠ w.heap.size from fun b' o' e hne => by
    have := Go.Proofs.Ytpoifobhbmhelaa.Src.lt (e ▸ hs1') hne
    omega)
  obtain ⟨d, hd⟩ : ∃ d : Nat, d = c.toNat := ⟨_, rfl⟩
  obtain ⟨HG, HB0, HR0⟩ := two_new w (.cells #[.slice x n cap] 23) (.cells rz.toArray 25)
  have hd256 : d < 256 := by rw [hd]; exact c.toNat_lt
  have hcd : w.cell? ⟨b, o, none⟩ = some (.int .u8 (d : Int)) := by rw [hd]; exact hc 0 (by simp)
  have hcW := keep_cell HG hcd
  have HSL := Lib.hid hsl
  have HS1 := Lib.hid hs1'
  have HC1 := Lib.hid hc1
  have HN := Lib.hid hn
  have HD := Lib.hid hd
  have HHG := Lib.hid HG
  have HHB := Lib.hid HB0
  have HHR := Lib.hid HR0
  have HL := Lib.hid hl
  have HH0 := Lib.hid h0
  have HH1 := Lib.hid h1
  subst hx
  clear hs hcap hl h0 h1 hsl hc1 hs1 hs1' hc hn hd hcd HG HB0 HR0 hb0
  go_enter Try.func36, Try.ntmps36
  go_wp2_with fail
  refine (must_yes _ _).mono ?_; rintro e w2 ⟨⟨v, rfl⟩, rfl⟩
  obtain ⟨W0, hW0⟩ : ∃ W0, W0 = (w.alloc (.cells #[.slice (some ⟨b, o, none⟩) n cap] 23)).alloc (.cells rz.toArray 25) := ⟨_, rfl⟩
  have HW0 := Lib.hid (show W0.heap.size = w.heap.size + 1 + 1 from by rw [hW0]; simp)
  rw [← hW0] at HHG HHB HHR hcW ⊢
  clear hW0
  have q0 : W0.cell? ⟨w.heap.size, 0, none⟩ = some (.slice (some ⟨b, o, none⟩) n cap) := cells_all HHB.out 0
  have HA := Lib.hid (heap_alloc_new W0 (.cells rz.toArray 25))
  have HAG := Lib.hid (World.grownBy_alloc W0 (.cells rz.toArray 25) none)
  go_wp2_with (with_reducible refine hold_st 25 _ _ rfl ?_)
  apply Lib.hid
  with_reducible refine wpList_store_all rfl 25 _ _ rfl _ ?cs1 ?hx1 ?hy1 _ _ HA.out ?hf1 _ ?hl1 Try.size25 ?h11 ?_
  case hy1 => exact rfl
  case hx1 => exact rfl
  case hf1 => exact rfl
  case hl1 => exact rfl
  case h11 => simp [allOne, Value.oneCell']
  intro w3 hb3 hg3
  have HB3 := Lib.hid ((hg3.block w.heap.size (by have := lt_of_block (keep_blk HAG.out HHB.out); exact this) (by have := HW0.out; simp; omega)).trans (keep_blk HAG.out HHB.out))
  have HR3 := Lib.hid ((hg3.block (w.heap.size + 1) (by have := lt_of_block (keep_blk HAG.out HHR.out); exact this) (by have := HW0.out; simp; omega)).trans (keep_blk HAG.out HHR.out))
  have HT3 := Lib.hid (show w3.heap[W0.heap.size]? = some (.cells ([.int .i64 0, .int .i64 (d : Nat), .int .i64 0, .slice none 0 0] : List Value).toArray 25 (0, 0)) from hb3)
  have HG3 := Lib.hid (grown_new3 (HHG.out.trans HAG.out) hg3 (fun g e => by cases e; have := HW0.out; omega))
  clear hb3 hg3 q0 hcW
  have q1 : w3.cell? ⟨w.heap.size, 0, none⟩ = some (.slice (some ⟨b, o, none⟩) n cap) := cells_all HB3.out 0
  have q2 : w3.frozen? ⟨w.heap.size, 0, none⟩ = false := frozen_all HB3.out 0
  go_wp2_with (with_reducible refine hold_sl 23 _ _ _ _ rfl ?_)
  apply Lib.hid
  refine wpList_val (by rfl) (exec_sl eB elemB (x := .tmp 18) (y := .const (.int .i64 1)) rfl (some ⟨b, o, none⟩) n cap 1 (by rfl) (by rfl) hn1 _ (.slice x1 (n - 1) cap1) HSL.out.symm) ?_
  go_wp2_with fail
  have hs3 := lf_set (x := x1) (cap := cap1) (r := t) HB3.out (HS1.out.keptNone HG3.out) HX1.out (by rw [← HN1.out]; exact HC1.out)
  rw [← HN1.out] at hs3
  have hg3 := grown_setCell w3 w.heap.size 0 (.slice x1 (n - 1) cap1)
  have HS3 := Lib.hid (show Rs w (w3.setCell ⟨w.heap.size, 0, none⟩ (.slice x1 (n - 1) cap1)) w.heap.size W0.heap.size x1 cap1 t [.int .i64 0, .int .i64 (d : Nat), .int .i64 0, .slice none 0 0] from
    ⟨hs3, (hg3.block _ (lt_of_block HR3.out) (by simp)).trans HR3.out, (hg3.block _ (lt_of_block HT3.out) (by have := HW0.out; simp; omega)).trans HT3.out, grown_new HG3.out hg3 (Nat.le_refl _)⟩)
  have HTS := Lib.hid (show W0.heap.size ≠ w.heap.size from by have := HW0.out; omega)
  have HTS1 := Lib.hid (show W0.heap.size ≠ w.heap.size + 1 from by have := HW0.out; omega)
  have HLT := Lib.hid (show t.length ≤ 1000000 from by have := HL.out; simp at this; omega)
  clear hs3 hg3 HB3 HR3 HT3 HG3 HA HAG HHG HHB HHR HSL HX1 HC1 HS1 q1 q2
  have HTN := Lib.hid (show w.heap.size ≤ W0.heap.size from by have := HW0.out; omega)
  obtain ⟨T, hT⟩ : ∃ T, T = W0.heap.size := ⟨_, rfl⟩
  rw [← hT] at HS3 HTS HTS1 HTN ⊢
  clear hT HW0
  refine (reader_ex w.heap.size 260 260 _).mono ?_; rintro e w4 ⟨C1, C2, C3, rfl, hg4, hC1, hC2, hC3⟩
  have HRD4 := Lib.hid (Rd.mk hC1 hC2 hC3)
  have HS4 := Lib.hid (HS3.out.kept hg4)
  clear hg4 hC1 hC2 hC3 HS3
  go_wp2_with fail
  refine (next_num HRD4.out HS4.out.lf HLT.out HTK.out).mono ?_; rintro e w5 ⟨x5, cap5, rfl, hlf, hgx, hrd⟩
  have HRD5 := Lib.hid hrd
  have HS5 := Lib.hid (HS4.out.step (Nat.le_refl _) HTS.out hlf hgx)
  clear hlf hgx hrd HS4 HRD4
  go_wp2_with fail
  refine (next_num HRD5.out HS5.out.lf (by have := HLT.out; have := HU.out; omega) HUK.out).mono ?_; rintro e w6 ⟨x6, cap6, rfl, hlf, hgx, hrd⟩
  have HRD6 := Lib.hid hrd
  have HS6 := Lib.hid (HS5.out.step (Nat.le_refl _) HTS.out hlf hgx)
  clear hlf hgx hrd HS5 HRD5
  go_wp2_with fail
  refine (must_yes _ _).mono ?_; rintro e w8 ⟨⟨vm, rfl⟩, rfl⟩
  obtain ⟨m, hm⟩ : ∃ m, m = v0.length := ⟨_, rfl⟩
  have q6 : w6.cell? ⟨w.heap.size, 0, none⟩ = some (.slice x6 m cap6) := by rw [hm]; exact cells_all HS6.out.lf.b 0
  have CL := clone_any x6 m cap6 v0 w6 hm HS6.out.lf.s (by have := HLT.out; have := HU.out; have := HUV.out; omega)
  have HMM := Lib.hid hm
  clear hm HUK HRD6
  go_wp2_with fail
  refine CL.mono ?_; rintro e w7 ⟨v3, rfl, hQ7, hg7, hr7⟩
  clear CL q6
  obtain ⟨a3, c3, rfl, hc3⟩ := hQ7.shape
  have HS7 := Lib.hid (HS6.out.kept hg7)
  have HQ7 := Lib.hid hQ7
  have HR7 := Lib.hid hr7
  have HSZ := Lib.hid (show w.heap.size ≤ w6.heap.size from HS6.out.g.size)
  have HT8 := Lib.hid (set3 (.int .i64 A) (.int .i64 (n0 : Nat)) (.slice a3 m c3) HS7.out.t)
  have k0 : w7.cell? ⟨T, 0, none⟩ = some (.int .i64 0) := cells_all HS7.out.t 0
  have k2 : w7.cell? ⟨T, 2, none⟩ = some (.int .i64 0) := cells_all HS7.out.t 2
  have k3 : w7.cell? ⟨T, 3, none⟩ = some (.slice none 0 0) := cells_all HS7.out.t 3
  have f0 := frozen_all HS7.out.t 0
  have f2 := frozen_all HS7.out.t 2
  have f3 := frozen_all HS7.out.t 3
  clear hQ7 hg7 hr7 hc3 HS6
  go_wp2_with (with_reducible refine hold_ld 25 _ rfl ?_)
  apply Lib.hid
  with_reducible refine wpList_load_blk rfl 25 _ rfl _ ?o4 ?hx4 _ _ _ HT8.out.1 _ 4 ?hn4 Try.underlying25 rfl Try.size25 ?_
  case hx4 => exact rfl
  case hn4 => exact rfl
  obtain ⟨W8, hW8⟩ : ∃ W8, W8 = (((w7.setCell ⟨T, 0, none⟩ (.int .i64 A)).setCell ⟨T, 2, none⟩ (.int .i64 (n0 : Nat))).setCell ⟨T, 3, none⟩ (.slice a3 m c3)) := ⟨_, rfl⟩
  rw [← hW8] at HT8 ⊢
  clear hW8 k0 k2 k3 f0 f2 f3
  go_wp2_with fail
  refine (right_any A d n0 a3 m c3 _).mono ?_; rintro e w9 ⟨rfl, hg9⟩
  have HT9 := Lib.hid (keep_blk hg9 HT8.out.1)
  have HR9 := Lib.hid (keep_blk hg9 ((HT8.out.2.block _ (lt_of_block HS7.out.r) (by have := HTS1.out; simp; omega)).trans HS7.out.r))
  have HG9 := Lib.hid hg9
  clear hg9
  have hRt : decide (Rt A d n0 m) = true := by rw [HAA.out, HD.out, HMM.out]; exact decide_eq_true HRT.out
  go_wp2_with fail
  refine (must_yes _ _).mono ?_; rintro e w10 ⟨⟨vn, rfl⟩, rfl⟩
  go_wp2_with (with_reducible refine hold_ld 25 _ rfl ?_)
  apply Lib.hid
  with_reducible refine wpList_load_blk rfl 25 _ rfl _ ?o2 ?hx2 _ _ _ HT9.out _ 4 ?hn2 Try.underlying25 rfl Try.size25 ?_
  case hx2 => exact rfl
  case hn2 => exact rfl
  go_wp2_with (with_reducible refine hold_st 25 _ _ rfl ?_)
  apply Lib.hid
  with_reducible refine wpList_store_all rfl 25 _ _ rfl _ ?cs3 ?hx3 ?hy3 _ _ HR9.out ?hf3 _ ?hl3 Try.size25 ?h13 ?_
  case hy3 => exact rfl
  case hx3 => exact rfl
  case hf3 => exact rfl
  case hl3 => exact rfl
  case h13 => simp [allOne, Value.oneCell']
  intro w10 hb10 hg10
  have HB10 := Lib.hid hb10
  have HG10 := Lib.hid hg10
  clear hb10 hg10
  go_wp2
  refine bodyPost_ret (results_c25 rfl _ _ _ _ (by rfl) (by rfl) HB10.out) (by rfl) ?_
  exact recDo_ok (HAA.out ▸ HD.out ▸ HO.out) HMM.out HQ7.out (fun g h => Nat.le_trans HSZ.out (HR7.out g h)) HS7.out.t HT8.out.2 HG9.out HR9.out HG10.out HS7.out.g (by have := lt_of_block HS7.out.t; exact HTN.out) (by simp)
set_option maxRecDepth 100000 in
set_option maxHeartbeats 4000000 in
theorem record_ok8 (x : Option Addr) (cap : Nat) (c : UInt8) (t : List UInt8) (last : Int) (w : World) (hs : Go.Proofs.Ytpoifobhbmhelaa.Src w x (c :: t)) (hcap : (c :: t).length ≤ cap) (hl : (c :: t).length ≤ 1000000) (h0 : 0 ≤ last) (h1 : last ≤ 4611686018427387904) (y n0 : Nat) (u v0 : List UInt8) (ht : take t = .num y u) (hu : take u = .num n0 v0) (hy : (y : Int) ≤ 4611686018427387904 - last) (hn0 : n0 < 65536) (hR : ¬ Rt (last + y) c.toNat n0 v0.length) (h8 : c.toNat = 8) (hn8 : n0 = 0) (hv8 : v0.length = 0) : Calls Try.prog 36 #[.slice x (c :: t).length cap, .int .i64 last] w fun e w' => RecDo w (decB (c :: t) last) e w' := by
  have HO := Lib.hid (show decB (c :: t) last = some ⟨last + y, c.toNat, n0, v0⟩ from decB_ok ht hu ⟨⟨hy, hn0⟩, .inr ⟨h8, hn8, hv8⟩⟩)
  have HRT := Lib.hid hR
  have HE8 := Lib.hid (And.intro h8 (And.intro hn8 hv8))
  clear hR h8 hn8 hv8
  have HY0 := Lib.hid hy
  have HU := Lib.hid (take_lt ht)
  have HUV := Lib.hid (take_lt hu)
  have HY := Lib.hid (take_inv ht).2
  have HNB := Lib.hid (take_inv hu).2
  have HTK := Lib.hid ht
  have HUK := Lib.hid hu
  obtain ⟨D, hD⟩ : ∃ D : Int, D = 4611686018427387904 - last := ⟨_, rfl⟩
  have hsub : IntKind.i64.wrap (4611686018427387904 - last) = D := by rw [IntKind.wrap_i64]; omega
  have HDD := Lib.hid hD
  clear ht hu hD
  obtain ⟨A, hA⟩ : ∃ A : Int, A = last + y := ⟨_, rfl⟩
  have hadd : IntKind.i64.wrap (last + (y : Int)) = A := by have h3 := HY0.out; rw [IntKind.wrap_i64]; omega
  have HAA := Lib.hid hA
  clear hA
  have hyD : decide ((y : Int) ≤ D) = true := decide_eq_true (by rw [HDD.out]; exact hy)
  have hnD : decide ((n0 : Int) < 65536) = true := decide_eq_true (by omega)
  obtain ⟨n, hn⟩ : ∃ n, n = (c :: t).length := ⟨_, rfl⟩
  have HN1 := Lib.hid (show n - 1 = t.length from by simp [hn])
  have hn1 : 1 ≤ n := by simp [hn]
  have hpos : 0 < n := hn1
  obtain ⟨b, o, hx, hc⟩ := src_some hs (by simp)
  obtain ⟨x1, cap1, hsl, hc1, hs1⟩ := src_from hs hcap 1 (by simp)
  have hb0 : b < w.heap.size := Go.Proofs.Ytpoifobhbmhelaa.Src.lt (hx ▸ hs) (by simp)
  rw [← hn] at hsl hc1 ⊢
  have hs1' : Go.Proofs.Ytpoifobhbmhelaa.Src w x1 t := by simpa using hs1
  have HX1 := Lib.hid (show ∀ b' o', x1 = some ⟨b', o', none⟩ → t ≠ [] → b' ≠ w.heap.size from fun b' o' e hne => by
    have := Go.Proofs.Ytpoifobhbmhelaa.Src.lt (e ▸ hs1') hne
    omega)
  obtain ⟨d, hd⟩ : ∃ d : Nat, d = c.toNat := ⟨_, rfl⟩
  obtain ⟨HG, HB0, HR0⟩ := two_new w (.cells #[.slice x n cap] 23) (.cells rz.toArray 25)
  have hd256 : d < 256 := by rw [hd]; exact c.toNat_lt
  have hcd : w.cell? ⟨b, o, none⟩ = some (.int .u8 (d : Int)) := by rw [hd]; exact hc 0 (by simp)
  have hcW := keep_cell HG hcd
  have HSL := Lib.hid hsl
  have HS1 := Lib.hid hs1'
  have HC1 := Lib.hid hc1
  have HN := Lib.hid hn
  have HD := Lib.hid hd
  have HHG := Lib.hid HG
  have HHB := Lib.hid HB0
  have HHR := Lib.hid HR0
  have HL := Lib.hid hl
  have HH0 := Lib.hid h0
  have HH1 := Lib.hid h1
  subst hx
  clear hs hcap hl h0 h1 hsl hc1 hs1 hs1' hc hn hd hcd HG HB0 HR0 hb0
  go_enter Try.func36, Try.ntmps36
  go_wp2_with fail
  refine (must_yes _ _).mono ?_; rintro e w2 ⟨⟨v, rfl⟩, rfl⟩
  obtain ⟨W0, hW0⟩ : ∃ W0, W0 = (w.alloc (.cells #[.slice (some ⟨b, o, none⟩) n cap] 23)).alloc (.cells rz.toArray 25) := ⟨_, rfl⟩
  have HW0 := Lib.hid (show W0.heap.size = w.heap.size + 1 + 1 from by rw [hW0]; simp)
  rw [← hW0] at HHG HHB HHR hcW ⊢
  clear hW0
  have q0 : W0.cell? ⟨w.heap.size, 0, none⟩ = some (.slice (some ⟨b, o, none⟩) n cap) := cells_all HHB.out 0
  have HA := Lib.hid (heap_alloc_new W0 (.cells rz.toArray 25))
  have HAG := Lib.hid (World.grownBy_alloc W0 (.cells rz.toArray 25) none)
  go_wp2_with (with_reducible refine hold_st 25 _ _ rfl ?_)
  apply Lib.hid
  with_reducible refine wpList_store_all rfl 25 _ _ rfl _ ?cs1 ?hx1 ?hy1 _ _ HA.out ?hf1 _ ?hl1 Try.size25 ?h11 ?_
  case hy1 => exact rfl
  case hx1 => exact rfl
  case hf1 => exact rfl
  case hl1 => exact rfl
  case h11 => simp [allOne, Value.oneCell']
  intro w3 hb3 hg3
  have HB3 := Lib.hid ((hg3.block w.heap.size (by have := lt_of_block (keep_blk HAG.out HHB.out); exact this) (by have := HW0.out; simp; omega)).trans (keep_blk HAG.out HHB.out))
  have HR3 := Lib.hid ((hg3.block (w.heap.size + 1) (by have := lt_of_block (keep_blk HAG.out HHR.out); exact this) (by have := HW0.out; simp; omega)).trans (keep_blk HAG.out HHR.out))
  have HT3 := Lib.hid (show w3.heap[W0.heap.size]? = some (.cells ([.int .i64 0, .int .i64 (d : Nat), .int .i64 0, .slice none 0 0] : List Value).toArray 25 (0, 0)) from hb3)
  have HG3 := Lib.hid (grown_new3 (HHG.out.trans HAG.out) hg3 (fun g e => by cases e; have := HW0.out; omega))
  clear hb3 hg3 q0 hcW
  have q1 : w3.cell? ⟨w.heap.size, 0, none⟩ = some (.slice (some ⟨b, o, none⟩) n cap) := cells_all HB3.out 0
  have q2 : w3.frozen? ⟨w.heap.size, 0, none⟩ = false := frozen_all HB3.out 0
  go_wp2_with (with_reducible refine hold_sl 23 _ _ _ _ rfl ?_)
  apply Lib.hid
  refine wpList_val (by rfl) (exec_sl eB elemB (x := .tmp 18) (y := .const (.int .i64 1)) rfl (some ⟨b, o, none⟩) n cap 1 (by rfl) (by rfl) hn1 _ (.slice x1 (n - 1) cap1) HSL.out.symm) ?_
  go_wp2_with fail
  have hs3 := lf_set (x := x1) (cap := cap1) (r := t) HB3.out (HS1.out.keptNone HG3.out) HX1.out (by rw [← HN1.out]; exact HC1.out)
  rw [← HN1.out] at hs3
  have hg3 := grown_setCell w3 w.heap.size 0 (.slice x1 (n - 1) cap1)
  have HS3 := Lib.hid (show Rs w (w3.setCell ⟨w.heap.size, 0, none⟩ (.slice x1 (n - 1) cap1)) w.heap.size W0.heap.size x1 cap1 t [.int .i64 0, .int .i64 (d : Nat), .int .i64 0, .slice none 0 0] from
    ⟨hs3, (hg3.block _ (lt_of_block HR3.out) (by simp)).trans HR3.out, (hg3.block _ (lt_of_block HT3.out) (by have := HW0.out; simp; omega)).trans HT3.out, grown_new HG3.out hg3 (Nat.le_refl _)⟩)
  have HTS := Lib.hid (show W0.heap.size ≠ w.heap.size from by have := HW0.out; omega)
  have HTS1 := Lib.hid (show W0.heap.size ≠ w.heap.size + 1 from by have := HW0.out; omega)
  have HLT := Lib.hid (show t.length ≤ 1000000 from by have := HL.out; simp at this; omega)
  clear hs3 hg3 HB3 HR3 HT3 HG3 HA HAG HHG HHB HHR HSL HX1 HC1 HS1 q1 q2
  have HTN := Lib.hid (show w.heap.size ≤ W0.heap.size from by have := HW0.out; omega)
  obtain ⟨T, hT⟩ : ∃ T, T = W0.heap.size := ⟨_, rfl⟩
  rw [← hT] at HS3 HTS HTS1 HTN ⊢
  clear hT HW0
  refine (reader_ex w.heap.size 260 260 _).mono ?_; rintro e w4 ⟨C1, C2, C3, rfl, hg4, hC1, hC2, hC3⟩
  have HRD4 := Lib.hid (Rd.mk hC1 hC2 hC3)
  have HS4 := Lib.hid (HS3.out.kept hg4)
  clear hg4 hC1 hC2 hC3 HS3
  go_wp2_with fail
  refine (next_num HRD4.out HS4.out.lf HLT.out HTK.out).mono ?_; rintro e w5 ⟨x5, cap5, rfl, hlf, hgx, hrd⟩
  have HRD5 := Lib.hid hrd
  have HS5 := Lib.hid (HS4.out.step (Nat.le_refl _) HTS.out hlf hgx)
  clear hlf hgx hrd HS4 HRD4
  go_wp2_with fail
  refine (next_num HRD5.out HS5.out.lf (by have := HLT.out; have := HU.out; omega) HUK.out).mono ?_; rintro e w6 ⟨x6, cap6, rfl, hlf, hgx, hrd⟩
  have HRD6 := Lib.hid hrd
  have HS6 := Lib.hid (HS5.out.step (Nat.le_refl _) HTS.out hlf hgx)
  clear hlf hgx hrd HS5 HRD5
  go_wp2_with fail
  refine (must_yes _ _).mono ?_; rintro e w8 ⟨⟨vm, rfl⟩, rfl⟩
  obtain ⟨m, hm⟩ : ∃ m, m = v0.length := ⟨_, rfl⟩
  have q6 : w6.cell? ⟨w.heap.size, 0, none⟩ = some (.slice x6 m cap6) := by rw [hm]; exact cells_all HS6.out.lf.b 0
  have CL := clone_any x6 m cap6 v0 w6 hm HS6.out.lf.s (by have := HLT.out; have := HU.out; have := HUV.out; omega)
  have HMM := Lib.hid hm
  clear hm HUK HRD6
  go_wp2_with fail
  refine CL.mono ?_; rintro e w7 ⟨v3, rfl, hQ7, hg7, hr7⟩
  clear CL q6
  obtain ⟨a3, c3, rfl, hc3⟩ := hQ7.shape
  have HS7 := Lib.hid (HS6.out.kept hg7)
  have HQ7 := Lib.hid hQ7
  have HR7 := Lib.hid hr7
  have HSZ := Lib.hid (show w.heap.size ≤ w6.heap.size from HS6.out.g.size)
  have HT8 := Lib.hid (set3 (.int .i64 A) (.int .i64 (n0 : Nat)) (.slice a3 m c3) HS7.out.t)
  have k0 : w7.cell? ⟨T, 0, none⟩ = some (.int .i64 0) := cells_all HS7.out.t 0
  have k2 : w7.cell? ⟨T, 2, none⟩ = some (.int .i64 0) := cells_all HS7.out.t 2
  have k3 : w7.cell? ⟨T, 3, none⟩ = some (.slice none 0 0) := cells_all HS7.out.t 3
  have f0 := frozen_all HS7.out.t 0
  have f2 := frozen_all HS7.out.t 2
  have f3 := frozen_all HS7.out.t 3
  clear hQ7 hg7 hr7 hc3 HS6
  go_wp2_with (with_reducible refine hold_ld 25 _ rfl ?_)
  apply Lib.hid
  with_reducible refine wpList_load_blk rfl 25 _ rfl _ ?o5 ?hx5 _ _ _ HT8.out.1 _ 4 ?hn5 Try.underlying25 rfl Try.size25 ?_
  case hx5 => exact rfl
  case hn5 => exact rfl
  obtain ⟨W8, hW8⟩ : ∃ W8, W8 = (((w7.setCell ⟨T, 0, none⟩ (.int .i64 A)).setCell ⟨T, 2, none⟩ (.int .i64 (n0 : Nat))).setCell ⟨T, 3, none⟩ (.slice a3 m c3)) := ⟨_, rfl⟩
  rw [← hW8] at HT8 ⊢
  clear hW8 k0 k2 k3 f0 f2 f3
  go_wp2_with fail
  refine (right_any A d n0 a3 m c3 _).mono ?_; rintro e w9 ⟨rfl, hg9⟩
  have HT9 := Lib.hid (keep_blk hg9 HT8.out.1)
  have HR9 := Lib.hid (keep_blk hg9 ((HT8.out.2.block _ (lt_of_block HS7.out.r) (by have := HTS1.out; simp; omega)).trans HS7.out.r))
  have HG9 := Lib.hid hg9
  clear hg9
  have hRt : decide (Rt A d n0 m) = false := by rw [HAA.out, HD.out, HMM.out]; exact decide_eq_false HRT.out
  have k1 : w9.cell? ⟨T, 1, none⟩ = some (.int .i64 d) := cells_all HT9.out 1
  have k2 : w9.cell? ⟨T, 2, none⟩ = some (.int .i64 (n0 : Nat)) := cells_all HT9.out 2
  have k3 : w9.cell? ⟨T, 3, none⟩ = some (.slice a3 m c3) := cells_all HT9.out 3
  have e8 : ((d : Int) == 8) = true := by have := HE8.out; have := HD.out; simp; omega
  have e9 : ((n0 : Int) == 0) = true := by have := HE8.out; simp; omega
  have e10 : ((m : Int) == 0) = true := by have := HE8.out; have := HMM.out; simp; omega
  go_wp2_with fail
  refine (must_yes _ _).mono ?_; rintro e w10 ⟨⟨vn, rfl⟩, rfl⟩
  go_wp2_with (with_reducible refine hold_ld 25 _ rfl ?_)
  apply Lib.hid
  with_reducible refine wpList_load_blk rfl 25 _ rfl _ ?o2 ?hx2 _ _ _ HT9.out _ 4 ?hn2 Try.underlying25 rfl Try.size25 ?_
  case hx2 => exact rfl
  case hn2 => exact rfl
  go_wp2_with (with_reducible refine hold_st 25 _ _ rfl ?_)
  apply Lib.hid
  with_reducible refine wpList_store_all rfl 25 _ _ rfl _ ?cs3 ?hx3 ?hy3 _ _ HR9.out ?hf3 _ ?hl3 Try.size25 ?h13 ?_
  case hy3 => exact rfl
  case hx3 => exact rfl
  case hf3 => exact rfl
  case hl3 => exact rfl
  case h13 => simp [allOne, Value.oneCell']
  intro w10 hb10 hg10
  have HB10 := Lib.hid hb10
  have HG10 := Lib.hid hg10
  clear hb10 hg10
  go_wp2
  refine bodyPost_ret (results_c25 rfl _ _ _ _ (by rfl) (by rfl) HB10.out) (by rfl) ?_
  exact recDo_ok (HAA.out ▸ HD.out ▸ HO.out) HMM.out HQ7.out (fun g h => Nat.le_trans HSZ.out (HR7.out g h)) HS7.out.t HT8.out.2 HG9.out HR9.out HG10.out HS7.out.g (by have := lt_of_block HS7.out.t; exact HTN.out) (by simp)
set_option maxRecDepth 100000 in
set_option maxHeartbeats 4000000 in
theorem record_b4k (x : Option Addr) (cap : Nat) (c : UInt8) (t : List UInt8) (last : Int) (w : World) (hs : Go.Proofs.Ytpoifobhbmhelaa.Src w x (c :: t)) (hcap : (c :: t).length ≤ cap) (hl : (c :: t).length ≤ 1000000) (h0 : 0 ≤ last) (h1 : last ≤ 4611686018427387904) (y n0 : Nat) (u v0 : List UInt8) (ht : take t = .num y u) (hu : take u = .num n0 v0) (hy : (y : Int) ≤ 4611686018427387904 - last) (hn0 : n0 < 65536) (hR : ¬ Rt (last + y) c.toNat n0 v0.length) (h8 : ¬ c.toNat = 8) : Calls Try.prog 36 #[.slice x (c :: t).length cap, .int .i64 last] w fun e w' => RecDo w (decB (c :: t) last) e w' := by
  rw [decB_b3 ht hu (fun h => h.2.elim hR (fun k => h8 k.1))]
  have HRT := Lib.hid hR
  have HE8 := Lib.hid h8
  clear hR h8
  have HY0 := Lib.hid hy
  have HU := Lib.hid (take_lt ht)
  have HUV := Lib.hid (take_lt hu)
  have HY := Lib.hid (take_inv ht).2
  have HNB := Lib.hid (take_inv hu).2
  have HTK := Lib.hid ht
  have HUK := Lib.hid hu
  obtain ⟨D, hD⟩ : ∃ D : Int, D = 4611686018427387904 - last := ⟨_, rfl⟩
  have hsub : IntKind.i64.wrap (4611686018427387904 - last) = D := by rw [IntKind.wrap_i64]; omega
  have HDD := Lib.hid hD
  clear ht hu hD
  obtain ⟨A, hA⟩ : ∃ A : Int, A = last + y := ⟨_, rfl⟩
  have hadd : IntKind.i64.wrap (last + (y : Int)) = A := by have h3 := HY0.out; rw [IntKind.wrap_i64]; omega
  have HAA := Lib.hid hA
  clear hA
  have hyD : decide ((y : Int) ≤ D) = true := decide_eq_true (by rw [HDD.out]; exact hy)
  have hnD : decide ((n0 : Int) < 65536) = true := decide_eq_true (by omega)
  obtain ⟨n, hn⟩ : ∃ n, n = (c :: t).length := ⟨_, rfl⟩
  have HN1 := Lib.hid (show n - 1 = t.length from by simp [hn])
  have hn1 : 1 ≤ n := by simp [hn]
  have hpos : 0 < n := hn1
  obtain ⟨b, o, hx, hc⟩ := src_some hs (by simp)
  obtain ⟨x1, cap1, hsl, hc1, hs1⟩ := src_from hs hcap 1 (by simp)
  have hb0 : b < w.heap.size := Go.Proofs.Ytpoifobhbmhelaa.Src.lt (hx ▸ hs) (by simp)
  rw [← hn] at hsl hc1 ⊢
  have hs1' : Go.Proofs.Ytpoifobhbmhelaa.Src w x1 t := by simpa using hs1
  have HX1 := Lib.hid (show ∀ b' o', x1 = some ⟨b', o', none⟩ → t ≠ [] → b' ≠ w.heap.size from fun b' o' e hne => by
    have := Go.Proofs.Ytpoifobhbmhelaa.Src.lt (e ▸ hs1') hne
    omega)
  obtain ⟨d, hd⟩ : ∃ d : Nat, d = c.toNat := ⟨_, rfl⟩
  obtain ⟨HG, HB0, HR0⟩ := two_new w (.cells #[.slice x n cap] 23) (.cells rz.toArray 25)
  have hd256 : d < 256 := by rw [hd]; exact c.toNat_lt
  have hcd : w.cell? ⟨b, o, none⟩ = some (.int .u8 (d : Int)) := by rw [hd]; exact hc 0 (by simp)
  have hcW := keep_cell HG hcd
  have HSL := Lib.hid hsl
  have HS1 := Lib.hid hs1'
  have HC1 := Lib.hid hc1
  have HN := Lib.hid hn
  have HD := Lib.hid hd
  have HHG := Lib.hid HG
  have HHB := Lib.hid HB0
  have HHR := Lib.hid HR0
  have HL := Lib.hid hl
  have HH0 := Lib.hid h0
  have HH1 := Lib.hid h1
  subst hx
  clear hs hcap hl h0 h1 hsl hc1 hs1 hs1' hc hn hd hcd HG HB0 HR0 hb0
  go_enter Try.func36, Try.ntmps36
  go_wp2_with fail
  refine (must_yes _ _).mono ?_; rintro e w2 ⟨⟨v, rfl⟩, rfl⟩
  obtain ⟨W0, hW0⟩ : ∃ W0, W0 = (w.alloc (.cells #[.slice (some ⟨b, o, none⟩) n cap] 23)).alloc (.cells rz.toArray 25) := ⟨_, rfl⟩
  have HW0 := Lib.hid (show W0.heap.size = w.heap.size + 1 + 1 from by rw [hW0]; simp)
  rw [← hW0] at HHG HHB HHR hcW ⊢
  clear hW0
  have q0 : W0.cell? ⟨w.heap.size, 0, none⟩ = some (.slice (some ⟨b, o, none⟩) n cap) := cells_all HHB.out 0
  have HA := Lib.hid (heap_alloc_new W0 (.cells rz.toArray 25))
  have HAG := Lib.hid (World.grownBy_alloc W0 (.cells rz.toArray 25) none)
  go_wp2_with (with_reducible refine hold_st 25 _ _ rfl ?_)
  apply Lib.hid
  with_reducible refine wpList_store_all rfl 25 _ _ rfl _ ?cs1 ?hx1 ?hy1 _ _ HA.out ?hf1 _ ?hl1 Try.size25 ?h11 ?_
  case hy1 => exact rfl
  case hx1 => exact rfl
  case hf1 => exact rfl
  case hl1 => exact rfl
  case h11 => simp [allOne, Value.oneCell']
  intro w3 hb3 hg3
  have HB3 := Lib.hid ((hg3.block w.heap.size (by have := lt_of_block (keep_blk HAG.out HHB.out); exact this) (by have := HW0.out; simp; omega)).trans (keep_blk HAG.out HHB.out))
  have HR3 := Lib.hid ((hg3.block (w.heap.size + 1) (by have := lt_of_block (keep_blk HAG.out HHR.out); exact this) (by have := HW0.out; simp; omega)).trans (keep_blk HAG.out HHR.out))
  have HT3 := Lib.hid (show w3.heap[W0.heap.size]? = some (.cells ([.int .i64 0, .int .i64 (d : Nat), .int .i64 0, .slice none 0 0] : List Value).toArray 25 (0, 0)) from hb3)
  have HG3 := Lib.hid (grown_new3 (HHG.out.trans HAG.out) hg3 (fun g e => by cases e; have := HW0.out; omega))
  clear hb3 hg3 q0 hcW
  have q1 : w3.cell? ⟨w.heap.size, 0, none⟩ = some (.slice (some ⟨b, o, none⟩) n cap) := cells_all HB3.out 0
  have q2 : w3.frozen? ⟨w.heap.size, 0, none⟩ = false := frozen_all HB3.out 0
  go_wp2_with (with_reducible refine hold_sl 23 _ _ _ _ rfl ?_)
  apply Lib.hid
  refine wpList_val (by rfl) (exec_sl eB elemB (x := .tmp 18) (y := .const (.int .i64 1)) rfl (some ⟨b, o, none⟩) n cap 1 (by rfl) (by rfl) hn1 _ (.slice x1 (n - 1) cap1) HSL.out.symm) ?_
  go_wp2_with fail
  have hs3 := lf_set (x := x1) (cap := cap1) (r := t) HB3.out (HS1.out.keptNone HG3.out) HX1.out (by rw [← HN1.out]; exact HC1.out)
  rw [← HN1.out] at hs3
  have hg3 := grown_setCell w3 w.heap.size 0 (.slice x1 (n - 1) cap1)
  have HS3 := Lib.hid (show Rs w (w3.setCell ⟨w.heap.size, 0, none⟩ (.slice x1 (n - 1) cap1)) w.heap.size W0.heap.size x1 cap1 t [.int .i64 0, .int .i64 (d : Nat), .int .i64 0, .slice none 0 0] from
    ⟨hs3, (hg3.block _ (lt_of_block HR3.out) (by simp)).trans HR3.out, (hg3.block _ (lt_of_block HT3.out) (by have := HW0.out; simp; omega)).trans HT3.out, grown_new HG3.out hg3 (Nat.le_refl _)⟩)
  have HTS := Lib.hid (show W0.heap.size ≠ w.heap.size from by have := HW0.out; omega)
  have HTS1 := Lib.hid (show W0.heap.size ≠ w.heap.size + 1 from by have := HW0.out; omega)
  have HLT := Lib.hid (show t.length ≤ 1000000 from by have := HL.out; simp at this; omega)
  clear hs3 hg3 HB3 HR3 HT3 HG3 HA HAG HHG HHB HHR HSL HX1 HC1 HS1 q1 q2
  have HTN := Lib.hid (show w.heap.size ≤ W0.heap.size from by have := HW0.out; omega)
  obtain ⟨T, hT⟩ : ∃ T, T = W0.heap.size := ⟨_, rfl⟩
  rw [← hT] at HS3 HTS HTS1 HTN ⊢
  clear hT HW0
  refine (reader_ex w.heap.size 260 260 _).mono ?_; rintro e w4 ⟨C1, C2, C3, rfl, hg4, hC1, hC2, hC3⟩
  have HRD4 := Lib.hid (Rd.mk hC1 hC2 hC3)
  have HS4 := Lib.hid (HS3.out.kept hg4)
  clear hg4 hC1 hC2 hC3 HS3
  go_wp2_with fail
  refine (next_num HRD4.out HS4.out.lf HLT.out HTK.out).mono ?_; rintro e w5 ⟨x5, cap5, rfl, hlf, hgx, hrd⟩
  have HRD5 := Lib.hid hrd
  have HS5 := Lib.hid (HS4.out.step (Nat.le_refl _) HTS.out hlf hgx)
  clear hlf hgx hrd HS4 HRD4
  go_wp2_with fail
  refine (next_num HRD5.out HS5.out.lf (by have := HLT.out; have := HU.out; omega) HUK.out).mono ?_; rintro e w6 ⟨x6, cap6, rfl, hlf, hgx, hrd⟩
  have HRD6 := Lib.hid hrd
  have HS6 := Lib.hid (HS5.out.step (Nat.le_refl _) HTS.out hlf hgx)
  clear hlf hgx hrd HS5 HRD5
  go_wp2_with fail
  refine (must_yes _ _).mono ?_; rintro e w8 ⟨⟨vm, rfl⟩, rfl⟩
  obtain ⟨m, hm⟩ : ∃ m, m = v0.length := ⟨_, rfl⟩
  have q6 : w6.cell? ⟨w.heap.size, 0, none⟩ = some (.slice x6 m cap6) := by rw [hm]; exact cells_all HS6.out.lf.b 0
  have CL := clone_any x6 m cap6 v0 w6 hm HS6.out.lf.s (by have := HLT.out; have := HU.out; have := HUV.out; omega)
  have HMM := Lib.hid hm
  clear hm HUK HRD6
  go_wp2_with fail
  refine CL.mono ?_; rintro e w7 ⟨v3, rfl, hQ7, hg7, hr7⟩
  clear CL q6
  obtain ⟨a3, c3, rfl, hc3⟩ := hQ7.shape
  have HS7 := Lib.hid (HS6.out.kept hg7)
  have HQ7 := Lib.hid hQ7
  have HR7 := Lib.hid hr7
  have HSZ := Lib.hid (show w.heap.size ≤ w6.heap.size from HS6.out.g.size)
  have HT8 := Lib.hid (set3 (.int .i64 A) (.int .i64 (n0 : Nat)) (.slice a3 m c3) HS7.out.t)
  have k0 : w7.cell? ⟨T, 0, none⟩ = some (.int .i64 0) := cells_all HS7.out.t 0
  have k2 : w7.cell? ⟨T, 2, none⟩ = some (.int .i64 0) := cells_all HS7.out.t 2
  have k3 : w7.cell? ⟨T, 3, none⟩ = some (.slice none 0 0) := cells_all HS7.out.t 3
  have f0 := frozen_all HS7.out.t 0
  have f2 := frozen_all HS7.out.t 2
  have f3 := frozen_all HS7.out.t 3
  clear hQ7 hg7 hr7 hc3 HS6
  go_wp2_with (with_reducible refine hold_ld 25 _ rfl ?_)
  apply Lib.hid
  with_reducible refine wpList_load_blk rfl 25 _ rfl _ ?o6 ?hx6 _ _ _ HT8.out.1 _ 4 ?hn6 Try.underlying25 rfl Try.size25 ?_
  case hx6 => exact rfl
  case hn6 => exact rfl
  obtain ⟨W8, hW8⟩ : ∃ W8, W8 = (((w7.setCell ⟨T, 0, none⟩ (.int .i64 A)).setCell ⟨T, 2, none⟩ (.int .i64 (n0 : Nat))).setCell ⟨T, 3, none⟩ (.slice a3 m c3)) := ⟨_, rfl⟩
  rw [← hW8] at HT8 ⊢
  clear hW8 k0 k2 k3 f0 f2 f3
  go_wp2_with fail
  refine (right_any A d n0 a3 m c3 _).mono ?_; rintro e w9 ⟨rfl, hg9⟩
  have HT9 := Lib.hid (keep_blk hg9 HT8.out.1)
  have HR9 := Lib.hid (keep_blk hg9 ((HT8.out.2.block _ (lt_of_block HS7.out.r) (by have := HTS1.out; simp; omega)).trans HS7.out.r))
  have HG9 := Lib.hid hg9
  clear hg9
  have hRt : decide (Rt A d n0 m) = false := by rw [HAA.out, HD.out, HMM.out]; exact decide_eq_false HRT.out
  have k1 : w9.cell? ⟨T, 1, none⟩ = some (.int .i64 d) := cells_all HT9.out 1
  have k2 : w9.cell? ⟨T, 2, none⟩ = some (.int .i64 (n0 : Nat)) := cells_all HT9.out 2
  have k3 : w9.cell? ⟨T, 3, none⟩ = some (.slice a3 m c3) := cells_all HT9.out 3
  have e8 : ((d : Int) == 8) = false := by have := HE8.out; have := HD.out; simp; omega
  go_wp2_with fail
  refine (must_no _ _).mono ?_; rintro e w10 ⟨rfl, rfl⟩
  go_wp2
  exact ⟨rfl, rfl, (grown_new HS7.out.g HT8.out.2 HTN.out).trans HG9.out⟩
set_option maxRecDepth 100000 in
set_option maxHeartbeats 4000000 in
theorem record_b4n (x : Option Addr) (cap : Nat) (c : UInt8) (t : List UInt8) (last : Int) (w : World) (hs : Go.Proofs.Ytpoifobhbmhelaa.Src w x (c :: t)) (hcap : (c :: t).length ≤ cap) (hl : (c :: t).length ≤ 1000000) (h0 : 0 ≤ last) (h1 : last ≤ 4611686018427387904) (y n0 : Nat) (u v0 : List UInt8) (ht : take t = .num y u) (hu : take u = .num n0 v0) (hy : (y : Int) ≤ 4611686018427387904 - last) (hn0 : n0 < 65536) (hR : ¬ Rt (last + y) c.toNat n0 v0.length) (h8 : c.toNat = 8) (hn8 : ¬ n0 = 0) : Calls Try.prog 36 #[.slice x (c :: t).length cap, .int .i64 last] w fun e w' => RecDo w (decB (c :: t) last) e w' := by
  rw [decB_b3 ht hu (fun h => h.2.elim hR (fun k => hn8 k.2.1))]
  have HRT := Lib.hid hR
  have HE8 := Lib.hid h8
  have HE9 := Lib.hid hn8
  clear hR h8 hn8
  have HY0 := Lib.hid hy
  have HU := Lib.hid (take_lt ht)
  have HUV := Lib.hid (take_lt hu)
  have HY := Lib.hid (take_inv ht).2
  have HNB := Lib.hid (take_inv hu).2
  have HTK := Lib.hid ht
  have HUK := Lib.hid hu
  obtain ⟨D, hD⟩ : ∃ D : Int, D = 4611686018427387904 - last := ⟨_, rfl⟩
  have hsub : IntKind.i64.wrap (4611686018427387904 - last) = D := by rw [IntKind.wrap_i64]; omega
  have HDD := Lib.hid hD
  clear ht hu hD
  obtain ⟨A, hA⟩ : ∃ A : Int, A = last + y := ⟨_, rfl⟩
  have hadd : IntKind.i64.wrap (last + (y : Int)) = A := by have h3 := HY0.out; rw [IntKind.wrap_i64]; omega
  have HAA := Lib.hid hA
  clear hA
  have hyD : decide ((y : Int) ≤ D) = true := decide_eq_true (by rw [HDD.out]; exact hy)
  have hnD : decide ((n0 : Int) < 65536) = true := decide_eq_true (by omega)
  obtain ⟨n, hn⟩ : ∃ n, n = (c :: t).length := ⟨_, rfl⟩
  have HN1 := Lib.hid (show n - 1 = t.length from by simp [hn])
  have hn1 : 1 ≤ n := by simp [hn]
  have hpos : 0 < n := hn1
  obtain ⟨b, o, hx, hc⟩ := src_some hs (by simp)
  obtain ⟨x1, cap1, hsl, hc1, hs1⟩ := src_from hs hcap 1 (by simp)
  have hb0 : b < w.heap.size := Go.Proofs.Ytpoifobhbmhelaa.Src.lt (hx ▸ hs) (by simp)
  rw [← hn] at hsl hc1 ⊢
  have hs1' : Go.Proofs.Ytpoifobhbmhelaa.Src w x1 t := by simpa using hs1
  have HX1 := Lib.hid (show ∀ b' o', x1 = some ⟨b', o', none⟩ → t ≠ [] → b' ≠ w.heap.size from fun b' o' e hne => by
    have := Go.Proofs.Ytpoifobhbmhelaa.Src.lt (e ▸ hs1') hne
    omega)
  obtain ⟨d, hd⟩ : ∃ d : Nat, d = c.toNat := ⟨_, rfl⟩
  obtain ⟨HG, HB0, HR0⟩ := two_new w (.cells #[.slice x n cap] 23) (.cells rz.toArray 25)
  have hd256 : d < 256 := by rw [hd]; exact c.toNat_lt
  have hcd : w.cell? ⟨b, o, none⟩ = some (.int .u8 (d : Int)) := by rw [hd]; exact hc 0 (by simp)
  have hcW := keep_cell HG hcd
  have HSL := Lib.hid hsl
  have HS1 := Lib.hid hs1'
  have HC1 := Lib.hid hc1
  have HN := Lib.hid hn
  have HD := Lib.hid hd
  have HHG := Lib.hid HG
  have HHB := Lib.hid HB0
  have HHR := Lib.hid HR0
  have HL := Lib.hid hl
  have HH0 := Lib.hid h0
  have HH1 := Lib.hid h1
  subst hx
  clear hs hcap hl h0 h1 hsl hc1 hs1 hs1' hc hn hd hcd HG HB0 HR0 hb0
  go_enter Try.func36, Try.ntmps36
  go_wp2_with fail
  refine (must_yes _ _).mono ?_; rintro e w2 ⟨⟨v, rfl⟩, rfl⟩
  obtain ⟨W0, hW0⟩ : ∃ W0, W0 = (w.alloc (.cells #[.slice (some ⟨b, o, none⟩) n cap] 23)).alloc (.cells rz.toArray 25) := ⟨_, rfl⟩
  have HW0 := Lib.hid (show W0.heap.size = w.heap.size + 1 + 1 from by rw [hW0]; simp)
  rw [← hW0] at HHG HHB HHR hcW ⊢
  clear hW0
  have q0 : W0.cell? ⟨w.heap.size, 0, none⟩ = some (.slice (some ⟨b, o, none⟩) n cap) := cells_all HHB.out 0
  have HA := Lib.hid (heap_alloc_new W0 (.cells rz.toArray 25))
  have HAG := Lib.hid (World.grownBy_alloc W0 (.cells rz.toArray 25) none)
  go_wp2_with (with_reducible refine hold_st 25 _ _ rfl ?_)
  apply Lib.hid
  with_reducible refine wpList_store_all rfl 25 _ _ rfl _ ?cs1 ?hx1 ?hy1 _ _ HA.out ?hf1 _ ?hl1 Try.size25 ?h11 ?_
  case hy1 => exact rfl
  case hx1 => exact rfl
  case hf1 => exact rfl
  case hl1 => exact rfl
  case h11 => simp [allOne, Value.oneCell']
  intro w3 hb3 hg3
  have HB3 := Lib.hid ((hg3.block w.heap.size (by have := lt_of_block (keep_blk HAG.out HHB.out); exact this) (by have := HW0.out; simp; omega)).trans (keep_blk HAG.out HHB.out))
  have HR3 := Lib.hid ((hg3.block (w.heap.size + 1) (by have := lt_of_block (keep_blk HAG.out HHR.out); exact this) (by have := HW0.out; simp; omega)).trans (keep_blk HAG.out HHR.out))
  have HT3 := Lib.hid (show w3.heap[W0.heap.size]? = some (.cells ([.int .i64 0, .int .i64 (d : Nat), .int .i64 0, .slice none 0 0] : List Value).toArray 25 (0, 0)) from hb3)
  have HG3 := Lib.hid (grown_new3 (HHG.out.trans HAG.out) hg3 (fun g e => by cases e; have := HW0.out; omega))
  clear hb3 hg3 q0 hcW
  have q1 : w3.cell? ⟨w.heap.size, 0, none⟩ = some (.slice (some ⟨b, o, none⟩) n cap) := cells_all HB3.out 0
  have q2 : w3.frozen? ⟨w.heap.size, 0, none⟩ = false := frozen_all HB3.out 0
  go_wp2_with (with_reducible refine hold_sl 23 _ _ _ _ rfl ?_)
  apply Lib.hid
  refine wpList_val (by rfl) (exec_sl eB elemB (x := .tmp 18) (y := .const (.int .i64 1)) rfl (some ⟨b, o, none⟩) n cap 1 (by rfl) (by rfl) hn1 _ (.slice x1 (n - 1) cap1) HSL.out.symm) ?_
  go_wp2_with fail
  have hs3 := lf_set (x := x1) (cap := cap1) (r := t) HB3.out (HS1.out.keptNone HG3.out) HX1.out (by rw [← HN1.out]; exact HC1.out)
  rw [← HN1.out] at hs3
  have hg3 := grown_setCell w3 w.heap.size 0 (.slice x1 (n - 1) cap1)
  have HS3 := Lib.hid (show Rs w (w3.setCell ⟨w.heap.size, 0, none⟩ (.slice x1 (n - 1) cap1)) w.heap.size W0.heap.size x1 cap1 t [.int .i64 0, .int .i64 (d : Nat), .int .i64 0, .slice none 0 0] from
    ⟨hs3, (hg3.block _ (lt_of_block HR3.out) (by simp)).trans HR3.out, (hg3.block _ (lt_of_block HT3.out) (by have := HW0.out; simp; omega)).trans HT3.out, grown_new HG3.out hg3 (Nat.le_refl _)⟩)
  have HTS := Lib.hid (show W0.heap.size ≠ w.heap.size from by have := HW0.out; omega)
  have HTS1 := Lib.hid (show W0.heap.size ≠ w.heap.size + 1 from by have := HW0.out; omega)
  have HLT := Lib.hid (show t.length ≤ 1000000 from by have := HL.out; simp at this; omega)
  clear hs3 hg3 HB3 HR3 HT3 HG3 HA HAG HHG HHB HHR HSL HX1 HC1 HS1 q1 q2
  have HTN := Lib.hid (show w.heap.size ≤ W0.heap.size from by have := HW0.out; omega)
  obtain ⟨T, hT⟩ : ∃ T, T = W0.heap.size := ⟨_, rfl⟩
  rw [← hT] at HS3 HTS HTS1 HTN ⊢
  clear hT HW0
  refine (reader_ex w.heap.size 260 260 _).mono ?_; rintro e w4 ⟨C1, C2, C3, rfl, hg4, hC1, hC2, hC3⟩
  have HRD4 := Lib.hid (Rd.mk hC1 hC2 hC3)
  have HS4 := Lib.hid (HS3.out.kept hg4)
  clear hg4 hC1 hC2 hC3 HS3
  go_wp2_with fail
  refine (next_num HRD4.out HS4.out.lf HLT.out HTK.out).mono ?_; rintro e w5 ⟨x5, cap5, rfl, hlf, hgx, hrd⟩
  have HRD5 := Lib.hid hrd
  have HS5 := Lib.hid (HS4.out.step (Nat.le_refl _) HTS.out hlf hgx)
  clear hlf hgx hrd HS4 HRD4
  go_wp2_with fail
  refine (next_num HRD5.out HS5.out.lf (by have := HLT.out; have := HU.out; omega) HUK.out).mono ?_; rintro e w6 ⟨x6, cap6, rfl, hlf, hgx, hrd⟩
  have HRD6 := Lib.hid hrd
  have HS6 := Lib.hid (HS5.out.step (Nat.le_refl _) HTS.out hlf hgx)
  clear hlf hgx hrd HS5 HRD5
  go_wp2_with fail
  refine (must_yes _ _).mono ?_; rintro e w8 ⟨⟨vm, rfl⟩, rfl⟩
  obtain ⟨m, hm⟩ : ∃ m, m = v0.length := ⟨_, rfl⟩
  have q6 : w6.cell? ⟨w.heap.size, 0, none⟩ = some (.slice x6 m cap6) := by rw [hm]; exact cells_all HS6.out.lf.b 0
  have CL := clone_any x6 m cap6 v0 w6 hm HS6.out.lf.s (by have := HLT.out; have := HU.out; have := HUV.out; omega)
  have HMM := Lib.hid hm
  clear hm HUK HRD6
  go_wp2_with fail
  refine CL.mono ?_; rintro e w7 ⟨v3, rfl, hQ7, hg7, hr7⟩
  clear CL q6
  obtain ⟨a3, c3, rfl, hc3⟩ := hQ7.shape
  have HS7 := Lib.hid (HS6.out.kept hg7)
  have HQ7 := Lib.hid hQ7
  have HR7 := Lib.hid hr7
  have HSZ := Lib.hid (show w.heap.size ≤ w6.heap.size from HS6.out.g.size)
  have HT8 := Lib.hid (set3 (.int .i64 A) (.int .i64 (n0 : Nat)) (.slice a3 m c3) HS7.out.t)
  have k0 : w7.cell? ⟨T, 0, none⟩ = some (.int .i64 0) := cells_all HS7.out.t 0
  have k2 : w7.cell? ⟨T, 2, none⟩ = some (.int .i64 0) := cells_all HS7.out.t 2
  have k3 : w7.cell? ⟨T, 3, none⟩ = some (.slice none 0 0) := cells_all HS7.out.t 3
  have f0 := frozen_all HS7.out.t 0
  have f2 := frozen_all HS7.out.t 2
  have f3 := frozen_all HS7.out.t 3
  clear hQ7 hg7 hr7 hc3 HS6
  go_wp2_with (with_reducible refine hold_ld 25 _ rfl ?_)
  apply Lib.hid
  with_reducible refine wpList_load_blk rfl 25 _ rfl _ ?o7 ?hx7 _ _ _ HT8.out.1 _ 4 ?hn7 Try.underlying25 rfl Try.size25 ?_
  case hx7 => exact rfl
  case hn7 => exact rfl
  obtain ⟨W8, hW8⟩ : ∃ W8, W8 = (((w7.setCell ⟨T, 0, none⟩ (.int .i64 A)).setCell ⟨T, 2, none⟩ (.int .i64 (n0 : Nat))).setCell ⟨T, 3, none⟩ (.slice a3 m c3)) := ⟨_, rfl⟩
  rw [← hW8] at HT8 ⊢
  clear hW8 k0 k2 k3 f0 f2 f3
  go_wp2_with fail
  refine (right_any A d n0 a3 m c3 _).mono ?_; rintro e w9 ⟨rfl, hg9⟩
  have HT9 := Lib.hid (keep_blk hg9 HT8.out.1)
  have HR9 := Lib.hid (keep_blk hg9 ((HT8.out.2.block _ (lt_of_block HS7.out.r) (by have := HTS1.out; simp; omega)).trans HS7.out.r))
  have HG9 := Lib.hid hg9
  clear hg9
  have hRt : decide (Rt A d n0 m) = false := by rw [HAA.out, HD.out, HMM.out]; exact decide_eq_false HRT.out
  have k1 : w9.cell? ⟨T, 1, none⟩ = some (.int .i64 d) := cells_all HT9.out 1
  have k2 : w9.cell? ⟨T, 2, none⟩ = some (.int .i64 (n0 : Nat)) := cells_all HT9.out 2
  have k3 : w9.cell? ⟨T, 3, none⟩ = some (.slice a3 m c3) := cells_all HT9.out 3
  have e8 : ((d : Int) == 8) = true := by have := HE8.out; have := HD.out; simp; omega
  have e9 : ((n0 : Int) == 0) = false := by have := HE9.out; simp; omega
  go_wp2_with fail
  refine (must_no _ _).mono ?_; rintro e w10 ⟨rfl, rfl⟩
  go_wp2
  exact ⟨rfl, rfl, (grown_new HS7.out.g HT8.out.2 HTN.out).trans HG9.out⟩
set_option maxRecDepth 100000 in
set_option maxHeartbeats 4000000 in
theorem record_b4v (x : Option Addr) (cap : Nat) (c : UInt8) (t : List UInt8) (last : Int) (w : World) (hs : Go.Proofs.Ytpoifobhbmhelaa.Src w x (c :: t)) (hcap : (c :: t).length ≤ cap) (hl : (c :: t).length ≤ 1000000) (h0 : 0 ≤ last) (h1 : last ≤ 4611686018427387904) (y n0 : Nat) (u v0 : List UInt8) (ht : take t = .num y u) (hu : take u = .num n0 v0) (hy : (y : Int) ≤ 4611686018427387904 - last) (hn0 : n0 < 65536) (hR : ¬ Rt (last + y) c.toNat n0 v0.length) (h8 : c.toNat = 8) (hn8 : n0 = 0) (hv8 : ¬ v0.length = 0) : Calls Try.prog 36 #[.slice x (c :: t).length cap, .int .i64 last] w fun e w' => RecDo w (decB (c :: t) last) e w' := by
  rw [decB_b3 ht hu (fun h => h.2.elim hR (fun k => hv8 k.2.2))]
  have HRT := Lib.hid hR
  have HE8 := Lib.hid h8
  have HE9 := Lib.hid hn8
  have HE10 := Lib.hid hv8
  clear hR h8 hn8 hv8
  have HY0 := Lib.hid hy
  have HU := Lib.hid (take_lt ht)
  have HUV := Lib.hid (take_lt hu)
  have HY := Lib.hid (take_inv ht).2
  have HNB := Lib.hid (take_inv hu).2
  have HTK := Lib.hid ht
  have HUK := Lib.hid hu
  obtain ⟨D, hD⟩ : ∃ D : Int, D = 4611686018427387904 - last := ⟨_, rfl⟩
  have hsub : IntKind.i64.wrap (4611686018427387904 - last) = D := by rw [IntKind.wrap_i64]; omega
  have HDD := Lib.hid hD
  clear ht hu hD
  obtain ⟨A, hA⟩ : ∃ A : Int, A = last + y := ⟨_, rfl⟩
  have hadd : IntKind.i64.wrap (last + (y : Int)) = A := by have h3 := HY0.out; rw [IntKind.wrap_i64]; omega
  have HAA := Lib.hid hA
  clear hA
  have hyD : decide ((y : Int) ≤ D) = true := decide_eq_true (by rw [HDD.out]; exact hy)
  have hnD : decide ((n0 : Int) < 65536) = true := decide_eq_true (by omega)
  obtain ⟨n, hn⟩ : ∃ n, n = (c :: t).length := ⟨_, rfl⟩
  have HN1 := Lib.hid (show n - 1 = t.length from by simp [hn])
  have hn1 : 1 ≤ n := by simp [hn]
  have hpos : 0 < n := hn1
  obtain ⟨b, o, hx, hc⟩ := src_some hs (by simp)
  obtain ⟨x1, cap1, hsl, hc1, hs1⟩ := src_from hs hcap 1 (by simp)
  have hb0 : b < w.heap.size := Go.Proofs.Ytpoifobhbmhelaa.Src.lt (hx ▸ hs) (by simp)
  rw [← hn] at hsl hc1 ⊢
  have hs1' : Go.Proofs.Ytpoifobhbmhelaa.Src w x1 t := by simpa using hs1
  have HX1 := Lib.hid (show ∀ b' o', x1 = some ⟨b', o', none⟩ → t ≠ [] → b' ≠ w.heap.size from fun b' o' e hne => by
    have := Go.Proofs.Ytpoifobhbmhelaa.Src.lt (e ▸ hs1') hne
    omega)
  obtain ⟨d, hd⟩ : ∃ d : Nat, d = c.toNat := ⟨_, rfl⟩
  obtain ⟨HG, HB0, HR0⟩ := two_new w (.cells #[.slice x n cap] 23) (.cells rz.toArray 25)
  have hd256 : d < 256 := by rw [hd]; exact c.toNat_lt
  have hcd : w.cell? ⟨b, o, none⟩ = some (.int .u8 (d : Int)) := by rw [hd]; exact hc 0 (by simp)
  have hcW := keep_cell HG hcd
  have HSL := Lib.hid hsl
  have HS1 := Lib.hid hs1'
  have HC1 := Lib.hid hc1
  have HN := Lib.hid hn
  have HD := Lib.hid hd
  have HHG := Lib.hid HG
  have HHB := Lib.hid HB0
  have HHR := Lib.hid HR0
  have HL := Lib.hid hl
  have HH0 := Lib.hid h0
  have HH1 := Lib.hid h1
  subst hx
  clear hs hcap hl h0 h1 hsl hc1 hs1 hs1' hc hn hd hcd HG HB0 HR0 hb0
  go_enter Try.func36, Try.ntmps36
  go_wp2_with fail
  refine (must_yes _ _).mono ?_; rintro e w2 ⟨⟨v, rfl⟩, rfl⟩
  obtain ⟨W0, hW0⟩ : ∃ W0, W0 = (w.alloc (.cells #[.slice (some ⟨b, o, none⟩) n cap] 23)).alloc (.cells rz.toArray 25) := ⟨_, rfl⟩
  have HW0 := Lib.hid (show W0.heap.size = w.heap.size + 1 + 1 from by rw [hW0]; simp)
  rw [← hW0] at HHG HHB HHR hcW ⊢
  clear hW0
  have q0 : W0.cell? ⟨w.heap.size, 0, none⟩ = some (.slice (some ⟨b, o, none⟩) n cap) := cells_all HHB.out 0
  have HA := Lib.hid (heap_alloc_new W0 (.cells rz.toArray 25))
  have HAG := Lib.hid (World.grownBy_alloc W0 (.cells rz.toArray 25) none)
  go_wp2_with (with_reducible refine hold_st 25 _ _ rfl ?_)
  apply Lib.hid
  with_reducible refine wpList_store_all rfl 25 _ _ rfl _ ?cs1 ?hx1 ?hy1 _ _ HA.out ?hf1 _ ?hl1 Try.size25 ?h11 ?_
  case hy1 => exact rfl
  case hx1 => exact rfl
  case hf1 => exact rfl
  case hl1 => exact rfl
  case h11 => simp [allOne, Value.oneCell']
  intro w3 hb3 hg3
  have HB3 := Lib.hid ((hg3.block w.heap.size (by have := lt_of_block (keep_blk HAG.out HHB.out); exact this) (by have := HW0.out; simp; omega)).trans (keep_blk HAG.out HHB.out))
  have HR3 := Lib.hid ((hg3.block (w.heap.size + 1) (by have := lt_of_block (keep_blk HAG.out HHR.out); exact this) (by have := HW0.out; simp; omega)).trans (keep_blk HAG.out HHR.out))
  have HT3 := Lib.hid (show w3.heap[W0.heap.size]? = some (.cells ([.int .i64 0, .int .i64 (d : Nat), .int .i64 0, .slice none 0 0] : List Value).toArray 25 (0, 0)) from hb3)
  have HG3 := Lib.hid (grown_new3 (HHG.out.trans HAG.out) hg3 (fun g e => by cases e; have := HW0.out; omega))
  clear hb3 hg3 q0 hcW
  have q1 : w3.cell? ⟨w.heap.size, 0, none⟩ = some (.slice (some ⟨b, o, none⟩) n cap) := cells_all HB3.out 0
  have q2 : w3.frozen? ⟨w.heap.size, 0, none⟩ = false := frozen_all HB3.out 0
  go_wp2_with (with_reducible refine hold_sl 23 _ _ _ _ rfl ?_)
  apply Lib.hid
  refine wpList_val (by rfl) (exec_sl eB elemB (x := .tmp 18) (y := .const (.int .i64 1)) rfl (some ⟨b, o, none⟩) n cap 1 (by rfl) (by rfl) hn1 _ (.slice x1 (n - 1) cap1) HSL.out.symm) ?_
  go_wp2_with fail
  have hs3 := lf_set (x := x1) (cap := cap1) (r := t) HB3.out (HS1.out.keptNone HG3.out) HX1.out (by rw [← HN1.out]; exact HC1.out)
  rw [← HN1.out] at hs3
  have hg3 := grown_setCell w3 w.heap.size 0 (.slice x1 (n - 1) cap1)
  have HS3 := Lib.hid (show Rs w (w3.setCell ⟨w.heap.size, 0, none⟩ (.slice x1 (n - 1) cap1)) w.heap.size W0.heap.size x1 cap1 t [.int .i64 0, .int .i64 (d : Nat), .int .i64 0, .slice none 0 0] from
    ⟨hs3, (hg3.block _ (lt_of_block HR3.out) (by simp)).trans HR3.out, (hg3.block _ (lt_of_block HT3.out) (by have := HW0.out; simp; omega)).trans HT3.out, grown_new HG3.out hg3 (Nat.le_refl _)⟩)
  have HTS := Lib.hid (show W0.heap.size ≠ w.heap.size from by have := HW0.out; omega)
  have HTS1 := Lib.hid (show W0.heap.size ≠ w.heap.size + 1 from by have := HW0.out; omega)
  have HLT := Lib.hid (show t.length ≤ 1000000 from by have := HL.out; simp at this; omega)
  clear hs3 hg3 HB3 HR3 HT3 HG3 HA HAG HHG HHB HHR HSL HX1 HC1 HS1 q1 q2
  have HTN := Lib.hid (show w.heap.size ≤ W0.heap.size from by have := HW0.out; omega)
  obtain ⟨T, hT⟩ : ∃ T, T = W0.heap.size := ⟨_, rfl⟩
  rw [← hT] at HS3 HTS HTS1 HTN ⊢
  clear hT HW0
  refine (reader_ex w.heap.size 260 260 _).mono ?_; rintro e w4 ⟨C1, C2, C3, rfl, hg4, hC1, hC2, hC3⟩
  have HRD4 := Lib.hid (Rd.mk hC1 hC2 hC3)
  have HS4 := Lib.hid (HS3.out.kept hg4)
  clear hg4 hC1 hC2 hC3 HS3
  go_wp2_with fail
  refine (next_num HRD4.out HS4.out.lf HLT.out HTK.out).mono ?_; rintro e w5 ⟨x5, cap5, rfl, hlf, hgx, hrd⟩
  have HRD5 := Lib.hid hrd
  have HS5 := Lib.hid (HS4.out.step (Nat.le_refl _) HTS.out hlf hgx)
  clear hlf hgx hrd HS4 HRD4
  go_wp2_with fail
  refine (next_num HRD5.out HS5.out.lf (by have := HLT.out; have := HU.out; omega) HUK.out).mono ?_; rintro e w6 ⟨x6, cap6, rfl, hlf, hgx, hrd⟩
  have HRD6 := Lib.hid hrd
  have HS6 := Lib.hid (HS5.out.step (Nat.le_refl _) HTS.out hlf hgx)
  clear hlf hgx hrd HS5 HRD5
  go_wp2_with fail
  refine (must_yes _ _).mono ?_; rintro e w8 ⟨⟨vm, rfl⟩, rfl⟩
  obtain ⟨m, hm⟩ : ∃ m, m = v0.length := ⟨_, rfl⟩
  have q6 : w6.cell? ⟨w.heap.size, 0, none⟩ = some (.slice x6 m cap6) := by rw [hm]; exact cells_all HS6.out.lf.b 0
  have CL := clone_any x6 m cap6 v0 w6 hm HS6.out.lf.s (by have := HLT.out; have := HU.out; have := HUV.out; omega)
  have HMM := Lib.hid hm
  clear hm HUK HRD6
  go_wp2_with fail
  refine CL.mono ?_; rintro e w7 ⟨v3, rfl, hQ7, hg7, hr7⟩
  clear CL q6
  obtain ⟨a3, c3, rfl, hc3⟩ := hQ7.shape
  have HS7 := Lib.hid (HS6.out.kept hg7)
  have HQ7 := Lib.hid hQ7
  have HR7 := Lib.hid hr7
  have HSZ := Lib.hid (show w.heap.size ≤ w6.heap.size from HS6.out.g.size)
  have HT8 := Lib.hid (set3 (.int .i64 A) (.int .i64 (n0 : Nat)) (.slice a3 m c3) HS7.out.t)
  have k0 : w7.cell? ⟨T, 0, none⟩ = some (.int .i64 0) := cells_all HS7.out.t 0
  have k2 : w7.cell? ⟨T, 2, none⟩ = some (.int .i64 0) := cells_all HS7.out.t 2
  have k3 : w7.cell? ⟨T, 3, none⟩ = some (.slice none 0 0) := cells_all HS7.out.t 3
  have f0 := frozen_all HS7.out.t 0
  have f2 := frozen_all HS7.out.t 2
  have f3 := frozen_all HS7.out.t 3
  clear hQ7 hg7 hr7 hc3 HS6
  go_wp2_with (with_reducible refine hold_ld 25 _ rfl ?_)
  apply Lib.hid
  with_reducible refine wpList_load_blk rfl 25 _ rfl _ ?o8 ?hx8 _ _ _ HT8.out.1 _ 4 ?hn8 Try.underlying25 rfl Try.size25 ?_
  case hx8 => exact rfl
  case hn8 => exact rfl
  obtain ⟨W8, hW8⟩ : ∃ W8, W8 = (((w7.setCell ⟨T, 0, none⟩ (.int .i64 A)).setCell ⟨T, 2, none⟩ (.int .i64 (n0 : Nat))).setCell ⟨T, 3, none⟩ (.slice a3 m c3)) := ⟨_, rfl⟩
  rw [← hW8] at HT8 ⊢
  clear hW8 k0 k2 k3 f0 f2 f3
  go_wp2_with fail
  refine (right_any A d n0 a3 m c3 _).mono ?_; rintro e w9 ⟨rfl, hg9⟩
  have HT9 := Lib.hid (keep_blk hg9 HT8.out.1)
  have HR9 := Lib.hid (keep_blk hg9 ((HT8.out.2.block _ (lt_of_block HS7.out.r) (by have := HTS1.out; simp; omega)).trans HS7.out.r))
  have HG9 := Lib.hid hg9
  clear hg9
  have hRt : decide (Rt A d n0 m) = false := by rw [HAA.out, HD.out, HMM.out]; exact decide_eq_false HRT.out
  have k1 : w9.cell? ⟨T, 1, none⟩ = some (.int .i64 d) := cells_all HT9.out 1
  have k2 : w9.cell? ⟨T, 2, none⟩ = some (.int .i64 (n0 : Nat)) := cells_all HT9.out 2
  have k3 : w9.cell? ⟨T, 3, none⟩ = some (.slice a3 m c3) := cells_all HT9.out 3
  have e8 : ((d : Int) == 8) = true := by have := HE8.out; have := HD.out; simp; omega
  have e9 : ((n0 : Int) == 0) = true := by have := HE9.out; simp; omega
  have e10 : ((m : Int) == 0) = false := by have := HE10.out; have := HMM.out; simp; omega
  go_wp2_with fail
  refine (must_no _ _).mono ?_; rintro e w10 ⟨rfl, rfl⟩
  go_wp2
  exact ⟨rfl, rfl, (grown_new HS7.out.g HT8.out.2 HTN.out).trans HG9.out⟩
theorem record_any (x : Option Addr) (cap : Nat) (l : List UInt8) (last : Int) (w : World) (hs : Go.Proofs.Ytpoifobhbmhelaa.Src w x l) (hcap : l.length ≤ cap) (hl : l.length ≤ 1000000) (h0 : 0 ≤ last) (h1 : last ≤ 4611686018427387904) : Calls Try.prog 36 #[.slice x l.length cap, .int .i64 last] w fun e w' => RecDo w (decB l last) e w' := by
  cases l with
  | nil => exact record_nil x cap last w
  | cons c t =>
    cases ht : take t with
    | no => exact record_b1no x cap c t last w hs hcap hl h0 h1 ht
    | soon => exact record_b1soon x cap c t last w hs hcap hl h0 h1 ht
    | num y u =>
      cases hu : take u with
      | no => exact record_b2no x cap c t last w hs hcap hl h0 h1 y u ht hu
      | soon => exact record_b2soon x cap c t last w hs hcap hl h0 h1 y u ht hu
      | num n0 v0 =>
        by_cases hy : (y : Int) ≤ 4611686018427387904 - last
        · by_cases hn0 : n0 < 65536
          · by_cases hR : Rt (last + y) c.toNat n0 v0.length
            · exact record_okR x cap c t last w hs hcap hl h0 h1 y n0 u v0 ht hu hy hn0 hR
            · by_cases h8 : c.toNat = 8
              · by_cases hn8 : n0 = 0
                · by_cases hv8 : v0.length = 0
                  · exact record_ok8 x cap c t last w hs hcap hl h0 h1 y n0 u v0 ht hu hy hn0 hR h8 hn8 hv8
                  · exact record_b4v x cap c t last w hs hcap hl h0 h1 y n0 u v0 ht hu hy hn0 hR h8 hn8 hv8
                · exact record_b4n x cap c t last w hs hcap hl h0 h1 y n0 u v0 ht hu hy hn0 hR h8 hn8
              · exact record_b4k x cap c t last w hs hcap hl h0 h1 y n0 u v0 ht hu hy hn0 hR h8
          · exact record_b3n x cap c t last w hs hcap hl h0 h1 y n0 u v0 ht hu hy hn0
        · exact record_b3y x cap c t last w hs hcap hl h0 h1 y n0 u v0 ht hu hy
end Go.Proofs.Ytpoifobhbmhelaa
