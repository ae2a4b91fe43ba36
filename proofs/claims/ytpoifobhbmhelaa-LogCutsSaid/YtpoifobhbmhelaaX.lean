/- ref.Encode. -/
import Derived.Test.YtpoifobhbmhelaaX0
set_option linter.unusedVariables false
set_option linter.unusedSimpArgs false
namespace Go.Proofs.Ytpoifobhbmhelaa
open Go.RowKit
theorem enc_short {n : Nat} (h : n ≤ 65536) : (enc n).length ≤ 3 := enc_len_le 2 n (by omega)
theorem ok_rec {t : Rv} (h : Rt t.a t.k t.n t.b.length) : (∃ k : Nat, t.k = (k : Nat) ∧ 1 ≤ k ∧ k ≤ 7) ∧ (∃ n : Nat, t.n = (n : Nat) ∧ n ≤ 65535) ∧ t.b.length ≤ 2048 ∧ 0 ≤ t.a ∧ t.a ≤ 4611686018427387904 := by
  obtain ⟨⟨h1, h2⟩, h3⟩ := h
  unfold lim at h3
  have hk : 1 ≤ t.k ∧ t.k ≤ 7 ∧ 0 ≤ t.n ∧ t.n ≤ 65535 ∧ t.b.length ≤ 2048 := by
    repeat' (first | (split at h3; next => simp [LimOk] at h3; omega) | skip)
    simp [LimOk] at h3
  exact ⟨⟨t.k.toNat, by omega, by omega, by omega⟩, ⟨t.n.toNat, by omega, by omega⟩, hk.2.2.2.2, h1, h2⟩
theorem recOf_nat (last a : Int) (k n N1 : Nat) (b : List UInt8) (h : a - last = (N1 : Nat)) : recOf last (k : Int) a (n : Int) b = enc (UInt8.ofNat k :: (enc N1 ++ (enc n ++ b))).length ++ UInt8.ofNat k :: (enc N1 ++ (enc n ++ b)) := by
  simp only [recOf, bodyOf, h, Int.toNat_natCast]
/-- A record is no longer than 15 and its bytes. -/
theorem rec_len (k N1 n : Nat) (b : List UInt8) (h1 : N1 < 9223372036854775808) (h2 : n ≤ 65535) (h3 : b.length ≤ 2048) : (enc (UInt8.ofNat k :: (enc N1 ++ (enc n ++ b))).length ++ UInt8.ofNat k :: (enc N1 ++ (enc n ++ b))).length ≤ 16 + b.length := by
  have e1 := enc_len h1
  have e2 := enc_short (n := n) (by omega)
  have e0 : (UInt8.ofNat k :: (enc N1 ++ (enc n ++ b))).length ≤ 2061 := by simp; omega
  have e3 : (enc (UInt8.ofNat k :: (enc N1 ++ (enc n ++ b))).length).length ≤ 2 := enc_len_le 1 _ (by omega)
  rw [List.length_append]
  simp only [List.length_cons, List.length_append] at e3 e0 ⊢
  omega
theorem recsOf_len : ∀ (ts : List Rv) (z : Int), 0 ≤ z → RsOk z (rsOf ts) → (recsOf z (rsOf ts)).length ≤ bdS ts
  | [], z, _, _ => by simp [recsOf, bdS]
  | t :: r, z, hz, h => by
    have h1 : Rt t.a t.k t.n t.b.length := h.1.1
    have h2 : z ≤ t.a := h.1.2
    obtain ⟨⟨k, hk, _⟩, ⟨n, hn, hn2⟩, hb, ha0, ha1⟩ := ok_rec h1
    have e := recOf_nat z t.a k n (t.a - z).toNat t.b (by omega)
    have e2 := rec_len k (t.a - z).toNat n t.b (by omega) hn2 hb
    have ih := recsOf_len r t.a ha0 h.2
    show (recOf z t.k t.a t.n t.b ++ recsOf t.a (rsOf r)).length ≤ _
    rw [List.length_append, hk, hn, e]
    simp only [bdS]
    omega
theorem lastOf_le : ∀ (ts : List Rv) (z : Int), 0 ≤ z ∧ z ≤ 4611686018427387904 → RsOk z (rsOf ts) → z ≤ lastOf z (rsOf ts) ∧ lastOf z (rsOf ts) ≤ 4611686018427387904
  | [], z, hz, _ => by simp [lastOf]; omega
  | t :: r, z, hz, h => by
    have h1 : Rt t.a t.k t.n t.b.length := h.1.1
    have h2 : z ≤ t.a := h.1.2
    have ih := lastOf_le r t.a ⟨h1.1.1, h1.1.2⟩ h.2
    show z ≤ lastOf t.a (rsOf r) ∧ lastOf t.a (rsOf r) ≤ 4611686018427387904
    omega
theorem endOf_len {f s m e : Int} {rs : List Rc} {wh : Bool} (h : (⟨f, s, m, rs, wh, e⟩ : Lg).Ok) (hz : 0 ≤ lastOf 0 rs) : (endOf ⟨f, s, m, rs, wh, e⟩).length ≤ 16 := by
  unfold endOf
  cases wh with
  | false => simp
  | true =>
    have h2 : lastOf 0 rs ≤ e := h.2.2 rfl
    have h3 : e ≤ 4611686018427387904 := h.1.1.2.2
    have e1 := recOf_nat (lastOf 0 rs) e 8 0 (e - lastOf 0 rs).toNat [] (by omega)
    have e2 := rec_len 8 (e - lastOf 0 rs).toNat 0 [] (by omega) (by omega) (by simp)
    simp only [if_true]
    have e1' : recOf (lastOf 0 rs) 8 e 0 [] = _ := e1
    rw [e1']
    simpa using e2
theorem headOf_len (f s m : Int) (rs : List Rc) (wh : Bool) (e : Int) (hf : f ≤ 32) (hs : s ≤ 32) (hm : m ≤ 65536) : (headOf ⟨f, s, m, rs, wh, e⟩).length ≤ 9 := by
  have e1 : (enc f.toNat).length ≤ 1 := enc_len_le 0 _ (by omega)
  have e2 : (enc s.toNat).length ≤ 1 := enc_len_le 0 _ (by omega)
  have e3 := enc_short (n := m.toNat) (by omega)
  simp only [headOf, List.length_append, magic, List.length_cons, List.length_nil]
  omega
/-- A log has at most so many bytes. -/
theorem encL_len {f s m e : Int} {ts : List Rv} {wh : Bool} (h : (⟨f, s, m, rsOf ts, wh, e⟩ : Lg).Ok) : (encL ⟨f, s, m, rsOf ts, wh, e⟩).length ≤ 32 + bdS ts := by
  have h1 := recsOf_len ts 0 (by omega) h.2.1
  have h2 := lastOf_le ts 0 (by omega) h.2.1
  have h3 := endOf_len h h2.1
  have hd : Hd f s m := h.1.1.1
  have h4 := headOf_len f s m (rsOf ts) wh e hd.1.1.2 hd.1.2.2 hd.2.2
  simp only [encL, List.length_append]
  omega
abbrev magO (p q : Nat) : Obj := .cells #[.int .u8 80, .int .u8 77, .int .u8 68, .int .u8 82] 5 (p, q)
theorem mag_wb (w : World) (o : Obj) (p q : Nat) : Wb (w.alloc o) ((w.alloc o).alloc (magO p q)) (.slice (some ⟨w.heap.size + 1, 0, none⟩) 4 4) magic := by
  have h := lit_mark (w.alloc o) magic p q
  rw [World.size_alloc] at h
  exact h
theorem mag_conv (w : World) (o : Obj) : (convert 23 23 (.slice (some ⟨w.heap.size + 1, 0, none⟩) 4 4)).run Try.prog ((w.alloc o).alloc (magO 0 0)) = .ok (.slice (some ⟨w.heap.size + 1, 0, none⟩) 4 4) ((w.alloc o).alloc (magO 4 5)) := by
  have h := conv_lit (w.alloc o) #[.int .u8 80, .int .u8 77, .int .u8 68, .int .u8 82] 4 4
  rw [World.size_alloc] at h
  exact h
set_option maxRecDepth 100000 in
set_option maxHeartbeats 8000000 in
theorem rencode_nat (F S M : Nat) (a : Option Addr) (c : Nat) (ts : List Rv) (wh : Bool) (e : Int) (w : World) (hs : RL w a ts) (hl : ts.length ≤ 1000000) (hb : bdS ts ≤ 90000) (hok : (⟨(F : Nat), (S : Nat), (M : Nat), rsOf ts, wh, e⟩ : Lg).Ok) :
    Calls Try.prog 14 #[lgV (F : Nat) (S : Nat) (M : Nat) a ts.length c wh e] w fun e' w' => ∃ v', e' = .returned v' ∧ Mb w w' v' (encL ⟨(F : Nat), (S : Nat), (M : Nat), rsOf ts, wh, e⟩) ∧ w.grownBy w' none := by
  obtain ⟨n, hn⟩ : ∃ n, n = ts.length := ⟨_, rfl⟩
  have HN := Lib.hid hn
  rw [← hn] at hl ⊢
  have hF : F ≤ 32 := by have : (F : Int) ≤ 32 := hok.1.1.1.1.1.2; omega
  have hS : S ≤ 32 := by have : (S : Int) ≤ 32 := hok.1.1.1.1.2.2; omega
  have hM : M ≤ 65536 := by have : (M : Int) ≤ 65536 := hok.1.1.1.2.2; omega
  have HA := Lib.hid (World.grownBy_alloc w (boxL (F : Nat) (S : Nat) (M : Nat) a n c wh e) none)
  have HB := Lib.hid (heap_alloc_new w (boxL (F : Nat) (S : Nat) (M : Nat) a n c wh e))
  have HS := Lib.hid (hs.kept HA.out)
  have HA2 := Lib.hid (World.grownBy_alloc (w.alloc (boxL (F : Nat) (S : Nat) (M : Nat) a n c wh e)) (magO 4 5) none)
  have kc := mag_conv w (boxL (F : Nat) (S : Nat) (M : Nat) a n c wh e)
  have HM0 := Lib.hid (mag_wb w (boxL (F : Nat) (S : Nat) (M : Nat) a n c wh e) 4 5)
  have HX1 := Lib.hid (enc_short (n := F) (by omega))
  have HX2 := Lib.hid (enc_short (n := S) (by omega))
  have HX3 := Lib.hid (enc_short hM)
  have HC1 := Lib.hid (rnumber_any F (by omega))
  have HC2 := Lib.hid (rnumber_any S (by omega))
  have HC3 := Lib.hid (rnumber_any M (by omega))
  have HOK := Lib.hid hok
  have HBD := Lib.hid hb
  clear hn hs hok hF hS hM hb
  obtain ⟨res, hres⟩ : ∃ res, res = encL ⟨(F : Nat), (S : Nat), (M : Nat), rsOf ts, wh, e⟩ := ⟨_, rfl⟩
  rw [← hres]
  have HRES0 := Lib.hid hres
  clear hres
  go_enter Try.func14, Try.ntmps14
  go_wp2_with fail
  refine (HC1.out _).mono ?_; rintro e u1 ⟨n1, rfl, hn1, hgn1⟩
  obtain ⟨b1, d1, rfl, -⟩ := hn1.shape
  have HN1 := Lib.hid hn1
  have HGN1 := Lib.hid hgn1
  obtain ⟨E1, hE1⟩ : ∃ E, E = (enc F).length := ⟨_, rfl⟩
  have HE1 := Lib.hid hE1
  have HB1 := Lib.hid (show E1 ≤ 9 from by rw [hE1]; have := HX1.out; omega)
  rw [← hE1]
  clear hE1 hn1 hgn1
  have HMK := Lib.hid (HM0.out.kept HGN1.out)
  go_wp2_with (at_builtin; refine wpList_wb rfl _ _ 23 rfl _ 4 4 _ magic (enc F) E1 HE1.out rfl rfl HMK.out rfl (HA2.out.trans HGN1.out) (by have h := HN1.out.src; rw [← HE1.out] at h; exact h) (by rw [HE1.out]; exact enc_len_pos F) (by have := HB1.out; omega) ?_)
  intro v1 w1 hM hG _ _ _
  obtain ⟨a1, c1, rfl, -⟩ := hM.shape
  obtain ⟨L1, hL1⟩ : ∃ L, L = (magic ++ enc F).length := ⟨_, rfl⟩
  rw [← hL1] at hM ⊢
  have HL1 := Lib.hid hL1
  have HLB1 := Lib.hid (show L1 ≤ 20 from by rw [hL1, List.length_append]; have := HX1.out; simp [magic]; omega)
  have HM1 := Lib.hid hM
  have HG1 := Lib.hid hG
  clear hM hG hL1 kc
  have HW1 := Lib.hid (keep_blk HG1.out HB.out)
  have HKS := Lib.hid (show w1.cell? ⟨w.heap.size, 1, none⟩ = some (.int .i64 (S : Nat)) from cells_all HW1.out 1)
  have HKM := Lib.hid (show w1.cell? ⟨w.heap.size, 2, none⟩ = some (.int .i64 (M : Nat)) from cells_all HW1.out 2)
  go_wp2
  refine regx_open (fun k => w.heap.size + 1 ≤ k) (n := 11) rfl (by kernel_rfl) ?_
  refine regx_take 0 (some 14) (v := ?_) rfl rfl (by kernel_rfl) (by kernel_rfl) (by kernel_rfl) (fun _ _ _ h => h) (by rfl) ?_ ?_
  rotate_left
  · intro W hW; go_simp; first | done | with_reducible rfl
  try simp only [Act.put, List.setIfInBounds_toArray, List.set_cons_zero, List.set_cons_succ]
  refine regx_take 1 (some 15) (v := ?_) rfl rfl (by kernel_rfl) (by kernel_rfl) (by kernel_rfl) (fun _ _ _ h => h) (by rfl) ?_ ?_
  rotate_left
  · intro W hW; go_simp; first | done | with_reducible rfl
  try simp only [Act.put, List.setIfInBounds_toArray, List.set_cons_zero, List.set_cons_succ]
  refine regx_take 2 (some 16) (v := ?_) rfl rfl (by kernel_rfl) (by kernel_rfl) (by kernel_rfl) (fun _ _ _ h => h) (by rfl) ?_ ?_
  rotate_left
  · intro W hW; go_simp; first | done | with_reducible rfl
  try simp only [Act.put, List.setIfInBounds_toArray, List.set_cons_zero, List.set_cons_succ]
  refine regx_take 3 (some 17) (v := ?_) rfl rfl (by kernel_rfl) (by kernel_rfl) (by kernel_rfl) (fun _ _ _ h => h) (by rfl) ?_ ?_
  rotate_left
  · intro W hW; have k := keeps_cell hW (show w1.drew.cell? ⟨w.heap.size, 1, none⟩ = some (.int .i64 (S : Nat)) from HKS.out) (by simp); go_simp; first | done | with_reducible rfl
  try simp only [Act.put, List.setIfInBounds_toArray, List.set_cons_zero, List.set_cons_succ]
  refine regx_take 6 (some 20) (v := ?_) rfl rfl (by kernel_rfl) (by kernel_rfl) (by kernel_rfl) (fun _ _ _ h => h) (by rfl) ?_ ?_
  rotate_left
  · intro W hW; go_simp; first | done | with_reducible rfl
  try simp only [Act.put, List.setIfInBounds_toArray, List.set_cons_zero, List.set_cons_succ]
  refine regx_take 7 (some 21) (v := ?_) rfl rfl (by kernel_rfl) (by kernel_rfl) (by kernel_rfl) (fun _ _ _ h => h) (by rfl) ?_ ?_
  rotate_left
  · intro W hW; have k := keeps_cell hW (show w1.drew.cell? ⟨w.heap.size, 2, none⟩ = some (.int .i64 (M : Nat)) from HKM.out) (by simp); go_simp; first | done | with_reducible rfl
  try simp only [Act.put, List.setIfInBounds_toArray, List.set_cons_zero, List.set_cons_succ]
  refine wpAnyH_ready (rs := [4]) (by kernel_rfl) (by simp) ?_
  refine (AllReadyH.cons (o := { dst := some 18, op := Op.call { callee := Callee.value (Operand.func 29), args := #[Operand.tmp 17], argTypes := #[2] }, type := 23, pos := "ref.go:84", after := #[{ on := 3, ground := Ground.data }], guard := none }) rfl (fun K hK => ?_) AllReadyH.nil)
  go_simp
  refine (HC2.out _).mono ?_; rintro e u2 ⟨n2, rfl, hn2, hgn2⟩; obtain ⟨b2, d2, rfl, -⟩ := hn2.shape
  refine regx_next hK (Keeps.keep hgn2) ?_
  clear hK K
  try simp only [Act.put, List.setIfInBounds_toArray, List.set_cons_zero, List.set_cons_succ]
  refine wpAnyH_ready (rs := [5]) (by kernel_rfl) (by simp) ?_
  refine (AllReadyH.cons (o := { dst := some 19, op := Op.call { callee := Callee.builtin Builtin.append, args := #[Operand.tmp 14, Operand.tmp 18], argTypes := #[23, 23] }, type := 23, pos := "ref.go:84", after := #[{ on := 0, ground := Ground.data }, { on := 4, ground := Ground.data }, { on := 4, ground := Ground.chain }], guard := none }) rfl (fun K hK => ?_) AllReadyH.nil)
  have hmk := HM1.out.kept (drewl hgn2)
  refine wp_gs eB 23 (.tmp 14) (.tmp 18) rfl (.slice a1 L1 c1) (.slice b2 (enc S).length d2) L1 (enc S).length (bsV (magic ++ enc F)) (bsV (enc S)) (by rfl) (by rfl) (by have h := hmk.1; rw [← HL1.out] at h; exact h) hn2.src (bs_one _) (by have := HLB1.out; have := HX2.out; omega) ?_
  intro v3 u3 hQ3 hg3 hr3
  obtain ⟨hM3, hG3⟩ := Mb.app (l := magic ++ enc F) (m := enc S) hmk (World.grownBy.refl _ _) (by rw [← HL1.out]; exact hQ3) hg3 hr3 (HG1.out.trans (drewl hgn2)) (Nat.le_refl _)
  obtain ⟨a3, c3, rfl, -⟩ := hM3.shape
  obtain ⟨L3, hL3⟩ : ∃ L, L = (magic ++ enc F ++ enc S).length := ⟨_, rfl⟩
  rw [← hL3] at hM3 ⊢
  have HL3 := Lib.hid hL3
  have HLB3 := Lib.hid (show L3 ≤ 30 from by have h1 := HL1.out; have h2 := HLB1.out; have := HX2.out; rw [hL3, List.length_append, ← h1]; omega)
  clear hL3
  have HROW1 := Lib.hid (show ∀ r, rowOf (.slice a1 L1 c1) = some r → w.heap.size + 1 ≤ r from fun r e => by have h := hmk.2 r e; simpa using h)
  refine regx_next hK (Keeps.of hg3 (fun r e => HROW1.out r e)) ?_
  clear hK K
  try simp only [Act.put, List.setIfInBounds_toArray, List.set_cons_zero, List.set_cons_succ]
  refine wpAnyH_ready (rs := [8]) (by kernel_rfl) (by simp) ?_
  refine (AllReadyH.cons (o := { dst := some 22, op := Op.call { callee := Callee.value (Operand.func 29), args := #[Operand.tmp 21], argTypes := #[2] }, type := 23, pos := "ref.go:84", after := #[{ on := 7, ground := Ground.data }, { on := 5, ground := Ground.chain }], guard := none }) rfl (fun K hK => ?_) AllReadyH.nil)
  go_simp
  refine (HC3.out _).mono ?_; rintro e u4 ⟨n4, rfl, hn4, hgn4⟩; obtain ⟨b4, d4, rfl, -⟩ := hn4.shape
  refine regx_next hK (Keeps.keep hgn4) ?_
  clear hK K
  try simp only [Act.put, List.setIfInBounds_toArray, List.set_cons_zero, List.set_cons_succ]
  refine wpAnyH_ready (rs := [9]) (by kernel_rfl) (by simp) ?_
  refine (AllReadyH.cons (o := { dst := some 23, op := Op.call { callee := Callee.builtin Builtin.append, args := #[Operand.tmp 19, Operand.tmp 22], argTypes := #[23, 23] }, type := 23, pos := "ref.go:84", after := #[{ on := 5, ground := Ground.data }, { on := 8, ground := Ground.data }, { on := 8, ground := Ground.chain }], guard := none }) rfl (fun K hK => ?_) AllReadyH.nil)
  have hmk4 := hM3.kept hgn4
  refine wp_gs eB 23 (.tmp 19) (.tmp 22) rfl (.slice a3 L3 c3) (.slice b4 (enc M).length d4) L3 (enc M).length (bsV (magic ++ enc F ++ enc S)) (bsV (enc M)) (by rfl) (by rfl) (by have h := hmk4.1; rw [← HL3.out] at h; exact h) hn4.src (bs_one _) (by have := HLB3.out; have := HX3.out; omega) ?_
  intro v5 u5 hQ5 hg5 hr5
  obtain ⟨hM5, hG5⟩ := Mb.app (l := magic ++ enc F ++ enc S) (m := enc M) hmk4 (World.grownBy.refl _ _) (by rw [← HL3.out]; exact hQ5) hg5 hr5 (hG3.trans hgn4) (Nat.le_refl _)
  obtain ⟨a5, c5, rfl, -⟩ := hM5.shape
  obtain ⟨L5, hL5⟩ : ∃ L, L = (magic ++ enc F ++ enc S ++ enc M).length := ⟨_, rfl⟩
  rw [← hL5] at hM5 ⊢
  have HL5 := Lib.hid hL5
  clear hL5
  have HROW3 := Lib.hid (show ∀ r, rowOf (.slice a3 L3 c3) = some r → w.heap.size + 1 ≤ r from fun r e => by have h := hmk4.2 r e; simpa using h)
  refine regx_next hK (Keeps.of hg5 (fun r e => HROW3.out r e)) ?_
  clear hK K
  try simp only [Act.put, List.setIfInBounds_toArray, List.set_cons_zero, List.set_cons_succ]
  refine regx_take 10 (some 3) (v := ?_) rfl rfl (by kernel_rfl) (by kernel_rfl) (by kernel_rfl) (fun _ _ _ h => h) (by rfl) ?_ ?_
  rotate_left
  · intro W hW; go_simp; first | done | with_reducible rfl
  try simp only [Act.put, List.setIfInBounds_toArray, List.set_cons_zero, List.set_cons_succ]
  refine wpAnyH_done (by kernel_rfl) ?_ _
  have HM5 := Lib.hid hM5
  have HG5 := Lib.hid hG5
  clear hM5 hG5 hQ5 hg5 hr5 hmk4 hn4 hgn4 hM3 hG3 hQ3 hg3 hr3 hmk hn2 hgn2
  have HT0 := Lib.hid (show headOf ⟨(F : Nat), (S : Nat), (M : Nat), rsOf ts, wh, e⟩ = magic ++ enc F ++ enc S ++ enc M from by simp [headOf])
  obtain ⟨T, hT⟩ : ∃ T, T = (magic ++ enc F ++ enc S ++ enc M) ++ recsOf 0 (rsOf ts) := ⟨_, rfl⟩
  have HTL := Lib.hid (show T.length ≤ 100000 from by have h1 := recsOf_len ts 0 (by omega) HOK.out.2.1; have h2 := HBD.out; have h3 := HX1.out; have h4 := HX2.out; have h5 := HX3.out; rw [hT]; simp only [List.length_append, magic, List.length_cons, List.length_nil]; omega)
  have HT := Lib.hid hT
  have HR := Lib.hid (show encL ⟨(F : Nat), (S : Nat), (M : Nat), rsOf ts, wh, e⟩ = T ++ endOf ⟨(F : Nat), (S : Nat), (M : Nat), rsOf ts, wh, e⟩ from by unfold encL; rw [HT0.out, hT]; simp)
  have HRES := Lib.hid (HRES0.out.trans HR.out)
  clear hT
  go_wp2
  go_loopw [3, 4, 5] (fun v last i wr => ∃ (k : Nat) (z : Int) (P : List UInt8), k ≤ n ∧ i = .int .i64 k ∧ last = .int .i64 z ∧ Mb (w.alloc (boxL (F : Nat) (S : Nat) (M : Nat) a n c wh e)) wr v P ∧ P ++ recsOf z ((rsOf ts).drop k) = T ∧ RsOk z ((rsOf ts).drop k) ∧ (0 ≤ z ∧ z ≤ 4611686018427387904) ∧ lastOf z ((rsOf ts).drop k) = lastOf 0 (rsOf ts) ∧ World.grownBy (w.alloc (boxL (F : Nat) (S : Nat) (M : Nat) a n c wh e)) wr none) (fun _ _ i _ => n - (intOf i).toNat)
  case atStart => exact ⟨0, 0, _, Nat.zero_le _, rfl, rfl, HM5.out, HT.out.symm, HOK.out.2.1, by omega, rfl, HG5.out⟩
  case round =>
    obtain ⟨k, z, P, hk, rfl, rfl, hMP, hPT, hrs, hz, hla, hgr⟩ := hrel
    obtain ⟨va, vc, rfl, -⟩ := hMP.shape
    obtain ⟨q, hq⟩ : ∃ q, q = P.length := ⟨_, rfl⟩
    rw [← hq] at hMP ⊢
    have HQ := Lib.hid hq
    have HMP := Lib.hid hMP
    have HPT := Lib.hid hPT
    have HRS := Lib.hid hrs
    have HZ := Lib.hid hz
    have HLA := Lib.hid hla
    have HGR := Lib.hid hgr
    have HPL := Lib.hid (show q ≤ 100000 from by have h1 := HTL.out; rw [← hPT, List.length_append] at h1; omega)
    have kb := keep_blk hgr HB.out
    have k3 := cells_all kb 3
    have k4 := cells_all kb 4
    have k5 := cells_all kb 5
    clear hq hMP hPT hrs hz hla hgr kb
    by_cases hlt : k < n
    · have hk1 : k < ts.length := by have := HN.out; omega
      obtain ⟨g1, o1, rfl, hat1⟩ := (HS.out.kept HGR.out).at k hk1
      have hd := rs_drop ts k hk1
      obtain ⟨t, ht⟩ : ∃ t, t = ts[k] := ⟨_, rfl⟩
      rw [← ht] at hat1 hd
      have hrs := HRS.out
      have hPT := HPT.out
      have hla := HLA.out
      rw [hd] at hrs hPT hla
      have hRt : Rt t.a t.k t.n t.b.length := hrs.1.1
      have hza : z ≤ t.a := hrs.1.2
      obtain ⟨⟨kk, hkk, hkk1, hkk7⟩, ⟨nn, hnn, hnn2⟩, hbl, ha0, ha1⟩ := ok_rec hRt
      have hz := HZ.out
      obtain ⟨N1, hN1⟩ : ∃ N1 : Nat, t.a - z = (N1 : Nat) := ⟨(t.a - z).toNat, by omega⟩
      obtain ⟨R, hR⟩ : ∃ R, R = recOf z t.k t.a t.n t.b := ⟨_, rfl⟩
      have hR2 : R = enc (UInt8.ofNat kk :: (enc N1 ++ (enc nn ++ t.b))).length ++ UInt8.ofNat kk :: (enc N1 ++ (enc nn ++ t.b)) := by rw [hR, hkk, hnn]; exact recOf_nat z t.a kk nn N1 t.b hN1
      have HPT2 := Lib.hid (show (P ++ R) ++ recsOf t.a ((rsOf ts).drop (k + 1)) = T from by rw [hR, List.append_assoc]; exact hPT)
      have HRL := Lib.hid (show R.length ≤ 100000 from by have h1 := HTL.out; rw [← HPT2.out, List.length_append, List.length_append] at h1; omega)
      have HR0 := Lib.hid (show 0 < R.length from by rw [hR2]; simp; omega)
      have HRS2 := Lib.hid (show RsOk t.a ((rsOf ts).drop (k + 1)) from hrs.2)
      have HLA2 := Lib.hid (show lastOf t.a ((rsOf ts).drop (k + 1)) = lastOf 0 (rsOf ts) from hla)
      have HA0 := Lib.hid (And.intro ha0 ha1)
      obtain ⟨p0, p1, p2, p3, p4, p5⟩ := hat1
      have HGA := Lib.hid (World.grownBy_alloc wr (.cells #[.int .i64 t.a, .int .i64 t.k, .int .i64 t.n, .slice t.x t.b.length t.c] 25) none)
      have HC := rrecord_any kk N1 nn t.k z t.a t.n t.x t.c t.b _ hkk hnn (by omega) hN1 (by omega) (by omega) (p4.keptNone HGA.out) (by omega)
      rw [← hR2] at HC
      have HC := Lib.hid HC
      have hlt' : (k : Int) < (n : Nat) := by omega
      have hwk : IntKind.i64.wrap ((k : Int) + 1) = ((k + 1 : Nat) : Int) := by rw [IntKind.wrap_i64]; omega
      have HMK := Lib.hid (HMP.out.kept HGA.out)
      have HGK := Lib.hid (HGR.out.trans HGA.out)
      have a0 := cells_all (heap_alloc_new wr (.cells #[.int .i64 t.a, .int .i64 t.k, .int .i64 t.n, .slice t.x t.b.length t.c] 25)) 0
      have HWA := Lib.hid (heap_alloc_new wr (.cells #[.int .i64 t.a, .int .i64 t.k, .int .i64 t.n, .slice t.x t.b.length t.c] 25))
      clear a0 hd ht hrs hPT hla hRt hza hkk hkk1 hkk7 hnn hnn2 hbl ha0 ha1 hz hN1 hR hR2 p4 p5 hk1
      go_wp2_with fail
      refine HC.out.mono ?_; rintro e0 u6 ⟨v6, rfl, hM6, hg6⟩
      obtain ⟨a6, c6, rfl, -⟩ := hM6.shape
      have HM6 := Lib.hid hM6
      have HG6 := Lib.hid hg6
      have HMK6 := Lib.hid (HMK.out.kept hg6)
      have HGK6 := Lib.hid (HGK.out.trans hg6)
      have HWA6 := Lib.hid (keep_blk hg6 HWA.out)
      obtain ⟨rl, hrl⟩ : ∃ rl, rl = R.length := ⟨_, rfl⟩
      have HRLL := Lib.hid hrl
      rw [← hrl]
      clear hrl hM6 hg6
      go_wp2_with (at_builtin; refine wpList_gs eB rfl _ _ 23 rfl _ q rl (bsV P) (bsV R) rfl rfl (by have h := HMK6.out.1; rw [← HQ.out] at h; exact h) (by have h := HM6.out.src; rw [← HRLL.out] at h; exact h) (bs_one _) (by have := HPL.out; have := HRL.out; have := HRLL.out; omega) ?_)
      intro v7 u7 hQ7 hg7 hr7
      obtain ⟨hM7, hG7⟩ := Mb.app (l := P) (m := R) HMK6.out (World.grownBy.refl _ _) (by rw [← HQ.out, ← HRLL.out]; exact hQ7) hg7 hr7 HGK6.out (Nat.le_refl _)
      have hneq : rowOf (.slice va q vc) ≠ some wr.heap.size := fun h => by have h1 := HMP.out.1.lt _ h; omega
      have i0 := cells_all ((hg7.block wr.heap.size (lt_of_block HWA6.out) (fun e => hneq e.symm)).trans HWA6.out) 0
      have HM7 := Lib.hid hM7
      have HG7 := Lib.hid hG7
      clear hM7 hG7 hQ7 hg7 hr7 hneq
      go_wp2
      go_roundw
      case rel => exact ⟨k + 1, t.a, P ++ R, by omega, rfl, rfl, HM7.out, HPT2.out, HRS2.out, HA0.out, HLA2.out, HG7.out⟩
      case measure => simp [intOf]; omega
    · have hd := rs_end ts k (by have := HN.out; omega)
      have hlt' : ¬ (k : Int) < (n : Nat) := by omega
      have HPE := Lib.hid (show P = T from by have h := HPT.out; rw [hd] at h; simpa [recsOf] using h)
      have HZE := Lib.hid (show z = lastOf 0 (rsOf ts) from by rw [← HLA.out, hd]; rfl)
      clear hd
      cases wh with
      | false =>
        go_wp2
        go_ret
        refine ⟨_, rfl, ?_, HA.out.trans HGR.out⟩
        have h := HMP.out.later (w0 := w) (HA.out.size)
        rw [HPE.out] at h
        rw [HRES.out]
        simpa [endOf] using h
      | true =>
        obtain ⟨N1, hN1⟩ : ∃ N1 : Nat, e - z = (N1 : Nat) := ⟨(e - z).toNat, by have h1 : lastOf 0 (rsOf ts) ≤ e := HOK.out.2.2 rfl; rw [← HZE.out] at h1; omega⟩
        have he62 : e ≤ 4611686018427387904 := HOK.out.1.1.2.2
        have hz := HZ.out
        obtain ⟨R, hR⟩ : ∃ R, R = recOf z 8 e 0 [] := ⟨_, rfl⟩
        have hR2 : R = enc (UInt8.ofNat 8 :: (enc N1 ++ (enc 0 ++ []))).length ++ UInt8.ofNat 8 :: (enc N1 ++ (enc 0 ++ [])) := by rw [hR]; exact recOf_nat z e 8 0 N1 [] hN1
        have HRL := Lib.hid (show R.length ≤ 16 from by rw [hR2]; have h := rec_len 8 N1 0 [] (by omega) (by omega) (by simp); simpa using h)
        have HC := rrecord_any 8 N1 0 8 z e 0 none 0 [] wr rfl rfl (by omega) hN1 (by omega) (by omega) (.inl rfl) (by simp)
        rw [← hR2] at HC
        have HC := Lib.hid HC
        have HRE := Lib.hid (show endOf ⟨(F : Nat), (S : Nat), (M : Nat), rsOf ts, true, e⟩ = R from by rw [hR, HZE.out]; rfl)
        clear hN1 he62 hz hR hR2
        go_wp2_with fail
        refine HC.out.mono ?_; rintro e0 u6 ⟨v6, rfl, hM6, hg6⟩
        obtain ⟨a6, c6, rfl, -⟩ := hM6.shape
        have HM6 := Lib.hid hM6
        have HMK6 := Lib.hid (HMP.out.kept hg6)
        have HGK6 := Lib.hid (HGR.out.trans hg6)
        obtain ⟨rl, hrl⟩ : ∃ rl, rl = R.length := ⟨_, rfl⟩
        have HRLL := Lib.hid hrl
        rw [← hrl]
        clear hrl hM6 hg6
        go_wp2_with (at_builtin; refine wpList_gs eB rfl _ _ 23 rfl _ q rl (bsV P) (bsV R) rfl rfl (by have h := HMK6.out.1; rw [← HQ.out] at h; exact h) (by have h := HM6.out.src; rw [← HRLL.out] at h; exact h) (bs_one _) (by have := HPL.out; have := HRL.out; have := HRLL.out; omega) ?_)
        intro v7 u7 hQ7 hg7 hr7
        obtain ⟨hM7, hG7⟩ := Mb.app (l := P) (m := R) HMK6.out (World.grownBy.refl _ _) (by rw [← HQ.out, ← HRLL.out]; exact hQ7) hg7 hr7 HGK6.out (Nat.le_refl _)
        have HM7 := Lib.hid hM7
        have HG7 := Lib.hid hG7
        clear hM7 hG7 hQ7 hg7 hr7
        go_wp2
        go_ret
        refine ⟨_, rfl, ?_, HA.out.trans HG7.out⟩
        have h := HM7.out.later (w0 := w) (HA.out.size)
        rw [HPE.out] at h
        rw [HRES.out, HRE.out]
        exact h
end Go.Proofs.Ytpoifobhbmhelaa
