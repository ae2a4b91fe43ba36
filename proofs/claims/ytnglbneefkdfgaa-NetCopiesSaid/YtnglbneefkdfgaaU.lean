import Derived.Test.YtnglbneefkdfgaaT
set_option linter.unusedVariables false
namespace Go.Proofs.Ytnglbneefkdfgaa
open Go.RowKit
def Nh.nextB (g : Nh) : List UInt8 := (g.came.drop g.taken).getD 0 []
def Nh.nextAt (g : Nh) : Nat := if g.more then tot (g.came.take g.taken) else 0
theorem Nh.nextB_eq (g : Nh) (h : g.taken < g.came.length) : g.nextB = g.came[g.taken]'h := by
  rw [Nh.nextB, List.getD_eq_getElem?_getD, List.getElem?_drop, Nat.add_zero, List.getElem?_eq_getElem h]; rfl
theorem Nh.nextB_nil (g : Nh) (h : g.came.length ≤ g.taken) : g.nextB = [] := by
  rw [Nh.nextB, List.getD_eq_getElem?_getD, List.getElem?_drop, List.getElem?_eq_none (by omega)]; rfl
theorem next_any (M : Nat → Prop) (B : Nat) (c : Nc) (g : Nh) (n : Nat) (w : World) (h : NS M w B c g) (hb : Nb g) (hle : ∀ l ∈ g.came, l.length ≤ 1000000) (hn : n = g.nextB.length) :
    Calls Try.prog 16 #[.pointer (some ⟨B, 0, none⟩)] w fun e w' => ∃ a cap, e = .returned (.tuple #[.slice a n cap, .int .i64 (g.nextAt : Nat), .bool g.more]) ∧ Go.Proofs.Ytnglbneefkdfgaa.Src w' a g.nextB ∧ (∀ k, rowOf (.slice a n cap) = some k → w.heap.size ≤ k) ∧ Gs eB w' (.slice a n cap) n (bsV g.nextB) ∧ w.grownBy w' none := by
  have htk := h.tk
  have hcl := hb.came
  by_cases hk : g.taken < g.came.length
  · refine (next_one M B c g w h hle (by omega) hk).mono ?_
    rintro e w' ⟨v', rfl, h1, h2, h3⟩
    obtain ⟨a, cap, rfl, _⟩ := h1.shape
    rw [← g.nextB_eq hk] at h1 h2 ⊢
    rw [hn]
    exact ⟨a, cap, by simp [Nh.nextAt, Nh.more, hk], h1.toSrc, h2, h1, h3⟩
  · refine (next_none M B c g w h hle (by omega) (by omega)).mono ?_
    rintro e w' ⟨rfl, h3⟩
    rw [hn, g.nextB_nil (by omega)]
    exact ⟨none, 0, by simp [Nh.nextAt, Nh.more, hk], .inl rfl, fun k h => by (cases h), Gs.nil eB _, h3⟩
theorem ref_next_any (M : Nat → Prop) (r : Rf) (g : Nh) (n : Nat) (w : World) (h : RS M w r g) (hb : Nb g) (hn : n = g.nextB.length) :
    Calls Try.prog 34 #[r.val] w fun e w' => ∃ a cap, e = .returned (.tuple #[.slice a n cap, .int .i64 (g.nextAt : Nat), .bool g.more]) ∧ Go.Proofs.Ytnglbneefkdfgaa.Src w' a g.nextB ∧ w.grownBy w' none := by
  have htk := h.tkl
  have hcl := hb.came
  have htc := hb.tc
  by_cases hk : g.taken < g.came.length
  · refine (ref_next_one M r g w h hk (by omega) (by omega)).mono ?_
    rintro e w' ⟨v', rfl, ⟨a, cap, rfl, h2, _⟩, h3⟩
    rw [hn, g.nextB_eq hk]
    exact ⟨a, cap, by simp [Nh.nextAt, Nh.more, hk], h2, h3⟩
  · refine (ref_next_none M r g w h (by omega)).mono ?_
    rintro e w' ⟨rfl, h3⟩
    rw [hn, g.nextB_nil (by omega)]
    exact ⟨none, 0, by simp [Nh.nextAt, Nh.more, hk], .inl rfl, h3⟩
theorem count_ns (M : Nat → Prop) (B : Nat) (c : Nc) (g : Nh) (w : World) (h : NS M w B c g) : Calls Try.prog 28 #[.pointer (some ⟨B, 0, none⟩)] w fun e w' => e = .returned (.tuple #[.int .i64 (tot g.came : Nat), .int .i64 (tot g.sent : Nat)]) ∧ w.drew = w' := by
  have := count_nk B c w h.nk
  rwa [h.ni, h.no] at this
theorem waits_ns (M : Nat → Prop) (B : Nat) (c : Nc) (g : Nh) (n : Nat) (w : World) (hn : n = (g.came.drop g.taken).length) (h : NS M w B c g) : Calls Try.prog 14 #[.pointer (some ⟨B, 0, none⟩)] w fun e w' => e = .returned (.int .i64 (n : Nat)) ∧ w = w' := by
  obtain ⟨vs, hq, _⟩ := h.q
  rw [hn, List.length_drop]
  exact waits_nk B c _ vs w h.nk hq
theorem queue_q (M : Nat → Prop) (B : Nat) (c : Nc) (g : Nh) (q : List (List UInt8)) (n : Nat) (w : World) (hq : q = g.came.drop g.taken) (hn : n = (g.came.drop g.taken).length) (h : NS M w B c g) (hb : Nb g) (hle : ∀ l ∈ g.came, l.length ≤ 1000000) :
    Calls Try.prog 25 #[.pointer (some ⟨B, 0, none⟩)] w fun e w' => ∃ a cap vs, e = .returned (.slice a n cap) ∧ Gs eL w' (.slice a n cap) n vs ∧ RB w' vs q ∧ w.grownBy w' none := by
  have hcl := hb.came
  subst hq hn
  refine (queue_nk M B c g w h hle (by omega)).mono ?_
  rintro e w' ⟨v, rfl, ⟨vs, h1, _, h2⟩, h3⟩
  obtain ⟨a, cap, rfl, _⟩ := h1.shape
  exact ⟨a, cap, vs, rfl, h1, h2.rb, h3⟩
theorem sent_q (M : Nat → Prop) (B : Nat) (c : Nc) (g : Nh) (m : Nat) (w : World) (hn : m = g.sent.length) (h : NS M w B c g) (hb : Nb g) (hle : ∀ l ∈ g.sent, l.length ≤ 1000000) :
    Calls Try.prog 26 #[.pointer (some ⟨B, 0, none⟩)] w fun e w' => ∃ a cap vs, e = .returned (.slice a m cap) ∧ Gs eL w' (.slice a m cap) m vs ∧ RB w' vs g.sent ∧ w.grownBy w' none := by
  have hcl := hb.sent
  subst hn
  refine (sent_nk M B c g w h hle (by omega)).mono ?_
  rintro e w' ⟨v, rfl, ⟨vs, h1, _, h2⟩, h3⟩
  obtain ⟨a, cap, rfl, _⟩ := h1.shape
  exact ⟨a, cap, vs, rfl, h1, h2.rb, h3⟩
theorem BL.rb {M : Nat → Prop} {w : World} {vs : List Value} {ls : List (List UInt8)} (h : BL M w vs ls) : RB w vs ls := h.less (fun k hk => hk.elim)
theorem ref_queue_q (M : Nat → Prop) (r : Rf) (g : Nh) (q : List (List UInt8)) (n : Nat) (w : World) (hq : q = g.came.drop g.taken) (hn : n = (g.came.drop g.taken).length) (h : RS M w r g) :
    Calls Try.prog 35 #[r.val] w fun e w' => ∃ a cap vs, e = .returned (.slice a n cap) ∧ Gs eL w' (.slice a n cap) n vs ∧ RB w' vs q ∧ w.grownBy w' none := by
  subst hq hn
  refine (ref_queue M r g w h).mono ?_
  rintro e w' ⟨v, vs, rfl, h1, h2, h3⟩
  rw [← List.length_drop] at h1
  obtain ⟨a, cap, rfl, _⟩ := h1.shape
  exact ⟨a, cap, vs, rfl, h1, h2.rb, h3⟩
theorem same_yes (a1 a2 : Option Addr) (n cap1 cap2 : Nat) (vs1 vs2 : List Value) (ls : List (List UInt8)) (w : World) (hn : n = ls.length) (h1 : Gs eL w (.slice a1 n cap1) n vs1) (b1 : RB w vs1 ls) (h2 : Gs eL w (.slice a2 n cap2) n vs2) (b2 : RB w vs2 ls) (hm : n ≤ 1000000) :
    Calls Try.prog 36 #[.slice a1 n cap1, .slice a2 n cap2] w fun e w' => e = .returned (.bool true) ∧ w.grownBy w' none := by
  have := same_lists a1 a2 n n cap1 cap2 vs1 vs2 ls ls w hn hn h1 b1 h2 b2 hm
  simpa using this
theorem bytes_n (a : Option Addr) (n cap : Nat) (vs : List Value) (ls : List (List UInt8)) (w : World) (hn : n = ls.length) (h : Gs eL w (.slice a n cap) n vs) (hb : RB w vs ls) (hm : ls.length < 100000) (hbd : tot ls ≤ 100000000) :
    Calls Try.prog 37 #[.slice a n cap] w fun e w' => e = .returned (.int .i64 (tot ls : Nat)) ∧ w = w' := by
  subst hn
  exact bytes_any _ a cap vs ls w h hb (by omega) (by omega)
/-- Packets are no longer than a megabyte. -/
def Lb (g : Nh) : Prop := (∀ l ∈ g.came, l.length ≤ 1000000) ∧ ∀ l ∈ g.sent, l.length ≤ 1000000
set_option maxRecDepth 100000 in
set_option maxHeartbeats 8000000 in
/-- 'is': they stand alike. -/
theorem is_ok (M : Nat → Prop) (B : Nat) (c : Nc) (r : Rf) (g : Nh) (w : World) (hNS : NS M w B c g) (hRS : RS M w r g) (hb : Nb g) (hL : Lb g) :
    Calls Try.prog 20 #[.pointer (some ⟨B, 0, none⟩), r.val] w fun e w' => e = .returned (.bool true) ∧ w.grownBy w' none := by
  obtain ⟨q, hq⟩ : ∃ q, q = g.came.drop g.taken := ⟨_, rfl⟩
  obtain ⟨n, hn⟩ : ∃ n, n = (g.came.drop g.taken).length := ⟨_, rfl⟩
  obtain ⟨m, hm⟩ : ∃ m, m = g.sent.length := ⟨_, rfl⟩
  obtain ⟨lb, hlb⟩ : ∃ lb, lb = g.nextB.length := ⟨_, rfl⟩
  have hn1 : n ≤ 1000000 := by rw [hn, List.length_drop]; have := hb.came; omega
  have hm1 : m ≤ 1000000 := by rw [hm]; have := hb.sent; omega
  obtain ⟨ca, cn, cc, tk, sa, sn, sc⟩ := r
  have hcn := hRS.cn
  have hsn := hRS.sn
  simp only at hcn hsn
  obtain rfl : sn = m := by rw [hsn, hm]
  obtain ⟨vsC, hvC, hbC⟩ := hRS.p
  obtain ⟨vsS, hvS, hbS⟩ := hRS.t
  simp only at hvC hvS
  rw [← hcn] at hvC
  rw [← hm] at hvS
  have hg1 := World.grownBy_alloc w (.cells (⟨ca, cn, cc, tk, sa, sn, sc⟩ : Rf).cells 40) none
  have HB1 := Lib.hid (heap_alloc_new w (.cells (⟨ca, cn, cc, tk, sa, sn, sc⟩ : Rf).cells 40))
  have HNS1 := Lib.hid (hNS.keptNone hg1)
  have HRS1 := Lib.hid (hRS.keptNone hg1)
  have HG1 := Lib.hid hg1
  have HQ := Lib.hid hq
  have HNQ := Lib.hid hn
  have HNQ2 := Lib.hid (show n = q.length from by rw [hq]; exact hn)
  have HMS := Lib.hid hm
  have HLB := Lib.hid hlb
  have HCN := Lib.hid hcn
  have HVC0 := Lib.hid (hvC.keptNone hg1)
  have HVS0 := Lib.hid (hvS.keptNone hg1)
  have HBC0 := Lib.hid (hbC.rb.kept hg1)
  have HBS0 := Lib.hid (hbS.rb.kept hg1)
  have HL1 := Lib.hid hL.1
  have HL2 := Lib.hid hL.2
  clear hq hn hm hlb hcn hsn hvC hvS hbC hbS hg1 hNS hRS hL
  go_enter Try.func20, Try.ntmps20
  go_wp2_with fail
  refine (next_any M B c g lb _ HNS1.out hb HL1.out HLB.out).mono ?_; rintro e w2 ⟨a1, c1, rfl, hs1, -, -, h1⟩
  have HB2 := Lib.hid ((h1.block _ (lt_of_block HB1.out) (by simp)).trans HB1.out)
  have HNS2 := Lib.hid (HNS1.out.keptNone h1)
  have HRS2 := Lib.hid (HRS1.out.keptNone h1)
  have HG2 := Lib.hid (HG1.out.trans h1)
  have H1 := Lib.hid h1
  have HS10 := Lib.hid hs1
  clear HB1 hs1 h1
  go_wp2_with (with_reducible refine hold_ldn 40 _ rfl rfl ?_)
  apply Lib.hid
  with_reducible refine wpList_load_blk rfl 40 _ rfl _ ?o1001 ?hx1001 _ _ _ HB2.out _ 3 ?hn1001 Try.underlying40 rfl Try.size40 ?_
  case hx1001 => exact rfl
  case hn1001 => exact rfl
  go_wp2_with fail
  refine (ref_next_any M _ g lb _ HRS2.out hb HLB.out).mono ?_; rintro e w3 ⟨a2, c2, rfl, hs2, h2⟩
  have HB3 := Lib.hid ((h2.block _ (lt_of_block HB2.out) (by simp)).trans HB2.out)
  have HNS3 := Lib.hid (HNS2.out.keptNone h2)
  have HRS3 := Lib.hid (HRS2.out.keptNone h2)
  have HG3 := Lib.hid (HG2.out.trans h2)
  have HS1 := Lib.hid (HS10.out.keptNone h2)
  have HS2 := Lib.hid hs2
  have H2 := Lib.hid h2
  clear HB2 hs2 h2
  go_wp2_with fail
  refine (count_ns M B c g _ HNS3.out).mono ?_; rintro e w4 ⟨rfl, hw4⟩
  have hd4 : w3.grownBy w4 none := hw4 ▸ ⟨rfl, rfl, rfl, Nat.le_refl _, fun _ _ _ => rfl⟩
  have HB4 := Lib.hid ((hd4.block _ (lt_of_block HB3.out) (by simp)).trans HB3.out)
  have HNS := Lib.hid (HNS3.out.keptNone hd4)
  have HRS := Lib.hid (HRS3.out.keptNone hd4)
  have HG4 := Lib.hid (HG3.out.trans hd4)
  have HS1' := Lib.hid (HS1.out.keptNone hd4)
  have HS2' := Lib.hid (HS2.out.keptNone hd4)
  have hall := (H1.out.trans H2.out).trans hd4
  have HVC := Lib.hid (HVC0.out.keptNone hall)
  have HVS := Lib.hid (HVS0.out.keptNone hall)
  have HBC := Lib.hid (HBC0.out.kept hall)
  have HBS := Lib.hid (HBS0.out.kept hall)
  clear HS1 HS2 HB3 HNS3 HRS3 HG3 HVC0 HVS0 HBC0 HBS0 hall H1 H2 hd4 hw4
  have HS1 := HS1'
  have HS2 := HS2'
  go_wp2
  refine reg_open (none) (n := 52) rfl (by kernel_rfl) ?_
  refine reg_take 0 (some 30) (v := ?_) rfl rfl (by kernel_rfl) (by kernel_rfl) (by kernel_rfl) (fun _ _ _ h => h) (by rfl) ?_ ?_
  rotate_left
  · intro W hW; go_simp; first | done | with_reducible rfl
  try simp only [Act.put, List.setIfInBounds_toArray, List.set_cons_zero, List.set_cons_succ]
  refine reg_take 1 (some 31) (v := ?_) rfl rfl (by kernel_rfl) (by kernel_rfl) (by kernel_rfl) (fun _ _ _ h => h) (by rfl) ?_ ?_
  rotate_left
  · intro W hW; have k1 := conv_srcn (c := c1) HLB.out (HS1.out.keptNone (drewl hW)); go_simp; first | done | with_reducible rfl
  try simp only [Act.put, List.setIfInBounds_toArray, List.set_cons_zero, List.set_cons_succ]
  refine reg_take 2 (some 32) (v := ?_) rfl rfl (by kernel_rfl) (by kernel_rfl) (by kernel_rfl) (fun _ _ _ h => h) (by rfl) ?_ ?_
  rotate_left
  · intro W hW; go_simp; first | done | with_reducible rfl
  try simp only [Act.put, List.setIfInBounds_toArray, List.set_cons_zero, List.set_cons_succ]
  refine reg_take 3 (some 33) (v := ?_) rfl rfl (by kernel_rfl) (by kernel_rfl) (by kernel_rfl) (fun _ _ _ h => h) (by rfl) ?_ ?_
  rotate_left
  · intro W hW; have k1 := conv_srcn (c := c2) HLB.out (HS2.out.keptNone (drewl hW)); go_simp; first | done | with_reducible rfl
  try simp only [Act.put, List.setIfInBounds_toArray, List.set_cons_zero, List.set_cons_succ]
  refine reg_take 4 (some 34) (v := ?_) rfl rfl (by kernel_rfl) (by kernel_rfl) (by kernel_rfl) (fun _ _ _ h => h) (by rfl) ?_ ?_
  rotate_left
  · intro W hW; go_simp; first | done | with_reducible rfl
  try simp only [Act.put, List.setIfInBounds_toArray, List.set_cons_zero, List.set_cons_succ]
  refine reg_take 5 (some 35) (v := ?_) rfl rfl (by kernel_rfl) (by kernel_rfl) (by kernel_rfl) (fun _ _ _ h => h) (by rfl) ?_ ?_
  rotate_left
  · intro W hW; go_simp; first | done | with_reducible rfl
  try simp only [Act.put, List.setIfInBounds_toArray, List.set_cons_zero, List.set_cons_succ]
  refine reg_take 6 (some 36) (v := ?_) rfl rfl (by kernel_rfl) (by kernel_rfl) (by kernel_rfl) (fun _ _ _ h => h) (by rfl) ?_ ?_
  rotate_left
  · intro W hW; go_simp; first | done | with_reducible rfl
  try simp only [Act.put, List.setIfInBounds_toArray, List.set_cons_zero, List.set_cons_succ]
  refine reg_take 7 (some 37) (v := ?_) rfl rfl (by kernel_rfl) (by kernel_rfl) (by kernel_rfl) (fun _ _ _ h => h) (by rfl) ?_ ?_
  rotate_left
  · intro W hW; go_simp; first | done | with_reducible rfl
  try simp only [Act.put, List.setIfInBounds_toArray, List.set_cons_zero, List.set_cons_succ]
  refine reg_take 8 (some 38) (v := ?_) rfl rfl (by kernel_rfl) (by kernel_rfl) (by kernel_rfl) (fun _ _ _ h => h) (by rfl) ?_ ?_
  rotate_left
  · intro W hW; go_simp; first | done | with_reducible rfl
  try simp only [Act.put, List.setIfInBounds_toArray, List.set_cons_zero, List.set_cons_succ]
  refine reg_take 9 (some 39) (v := ?_) rfl rfl (by kernel_rfl) (by kernel_rfl) (by kernel_rfl) (fun _ _ _ h => h) (by rfl) ?_ ?_
  rotate_left
  · intro W hW; go_simp; first | done | with_reducible rfl
  try simp only [Act.put, List.setIfInBounds_toArray, List.set_cons_zero, List.set_cons_succ]
  refine reg_take 10 (some 40) (v := ?_) rfl rfl (by kernel_rfl) (by kernel_rfl) (by kernel_rfl) (fun _ _ _ h => h) (by rfl) ?_ ?_
  rotate_left
  · intro W hW; go_simp; first | done | with_reducible rfl
  try simp only [Act.put, List.setIfInBounds_toArray, List.set_cons_zero, List.set_cons_succ]
  refine reg_take 11 (some 41) (v := ?_) rfl rfl (by kernel_rfl) (by kernel_rfl) (by kernel_rfl) (fun _ _ _ h => h) (by rfl) ?_ ?_
  rotate_left
  · intro W hW; go_simp; first | done | with_reducible rfl
  try simp only [Act.put, List.setIfInBounds_toArray, List.set_cons_zero, List.set_cons_succ]
  refine reg_take 12 (some 42) (v := ?_) rfl rfl (by kernel_rfl) (by kernel_rfl) (by kernel_rfl) (fun _ _ _ h => h) (by rfl) ?_ ?_
  rotate_left
  · intro W hW; go_simp; first | done | with_reducible rfl
  try simp only [Act.put, List.setIfInBounds_toArray, List.set_cons_zero, List.set_cons_succ]
  refine reg_take 13 (some 43) (v := ?_) rfl rfl (by kernel_rfl) (by kernel_rfl) (by kernel_rfl) (fun _ _ _ h => h) (by rfl) ?_ ?_
  rotate_left
  · intro W hW; go_simp; first | done | with_reducible rfl
  try simp only [Act.put, List.setIfInBounds_toArray, List.set_cons_zero, List.set_cons_succ]
  refine reg_take 14 (some 44) (v := ?_) rfl rfl (by kernel_rfl) (by kernel_rfl) (by kernel_rfl) (fun _ _ _ h => h) (by rfl) ?_ ?_
  rotate_left
  · intro W hW; go_simp; first | done | with_reducible rfl
  try simp only [Act.put, List.setIfInBounds_toArray, List.set_cons_zero, List.set_cons_succ]
  refine reg_take 15 (some 45) (v := ?_) rfl rfl (by kernel_rfl) (by kernel_rfl) (by kernel_rfl) (fun _ _ _ h => h) (by rfl) ?_ ?_
  rotate_left
  · intro W hW; go_simp; first | done | with_reducible rfl
  try simp only [Act.put, List.setIfInBounds_toArray, List.set_cons_zero, List.set_cons_succ]
  refine reg_take 16 (some 46) (v := ?_) rfl rfl (by kernel_rfl) (by kernel_rfl) (by kernel_rfl) (fun _ _ _ h => h) (by rfl) ?_ ?_
  rotate_left
  · intro W hW; go_simp; first | done | with_reducible rfl
  try simp only [Act.put, List.setIfInBounds_toArray, List.set_cons_zero, List.set_cons_succ]
  refine reg_take 18 (some 48) (v := ?_) rfl rfl (by kernel_rfl) (by kernel_rfl) (by kernel_rfl) (fun _ _ _ h => h) (by rfl) ?_ ?_
  rotate_left
  · intro W hW; refine exec_ld40 (x := Operand.tmp 3) ?_ ?_ (((hW).block w.heap.size (lt_of_block HB4.out) (by simp)).trans HB4.out) <;> rfl
  try simp only [Act.put, List.setIfInBounds_toArray, List.set_cons_zero, List.set_cons_succ]
  refine wpAnyH_ready (rs := [17]) (by kernel_rfl) (by simp) ?_
  refine (AllReadyH.cons (o := { dst := some 47, op := Op.call { callee := Callee.value (Operand.func 14), args := #[Operand.tmp 46], argTypes := #[24] }, type := 3, pos := "law.go:43", after := #[{ on := 16, ground := Ground.data }, { on := 15, ground := Ground.chain }, { on := 15, ground := Ground.guard }], guard := some (15, true) }) rfl (fun K hK => ?_) AllReadyH.nil)
  go_simp
  refine (waits_ns M B c g n _ HNQ.out (HNS.out.keptNone (drewl (World.grownBy.refl _ _)))).mono ?_; rintro e w' ⟨rfl, rfl⟩
  refine reg_same hK ?_
  clear hK K
  try simp only [Act.put, List.setIfInBounds_toArray, List.set_cons_zero, List.set_cons_succ]
  refine wpAnyH_ready (rs := [19]) (by kernel_rfl) (by simp) ?_
  refine (AllReadyH.cons (o := { dst := some 49, op := Op.call { callee := Callee.value (Operand.func 35), args := #[Operand.tmp 48], argTypes := #[40] }, type := 34, pos := "law.go:43", after := #[{ on := 18, ground := Ground.data }, { on := 17, ground := Ground.chain }, { on := 15, ground := Ground.guard }], guard := some (15, true) }) rfl (fun K hK => ?_) AllReadyH.nil)
  go_simp
  refine (ref_queue_q M _ g q n _ HQ.out HNQ.out (HRS.out.keptNone (drewl (World.grownBy.refl _ _)))).mono ?_; rintro e u1 ⟨a49, c49, vs49, rfl, -, -, h1⟩
  refine reg_next hK h1 ?_
  clear hK K
  try simp only [Act.put, List.setIfInBounds_toArray, List.set_cons_zero, List.set_cons_succ]
  refine reg_take 20 (some 50) (v := ?_) rfl rfl (by kernel_rfl) (by kernel_rfl) (by kernel_rfl) (fun _ _ _ h => h) (by rfl) ?_ ?_
  rotate_left
  · intro W hW; go_simp; first | done | with_reducible rfl
  try simp only [Act.put, List.setIfInBounds_toArray, List.set_cons_zero, List.set_cons_succ]
  refine reg_take 21 (some 51) (v := ?_) rfl rfl (by kernel_rfl) (by kernel_rfl) (by kernel_rfl) (fun _ _ _ h => h) (by rfl) ?_ ?_
  rotate_left
  · intro W hW; go_simp; first | done | with_reducible rfl
  try simp only [Act.put, List.setIfInBounds_toArray, List.set_cons_zero, List.set_cons_succ]
  refine reg_take 22 (some 52) (v := ?_) rfl rfl (by kernel_rfl) (by kernel_rfl) (by kernel_rfl) (fun _ _ _ h => h) (by rfl) ?_ ?_
  rotate_left
  · intro W hW; go_simp; first | done | with_reducible rfl
  try simp only [Act.put, List.setIfInBounds_toArray, List.set_cons_zero, List.set_cons_succ]
  refine reg_take 23 (some 53) (v := ?_) rfl rfl (by kernel_rfl) (by kernel_rfl) (by kernel_rfl) (fun _ _ _ h => h) (by rfl) ?_ ?_
  rotate_left
  · intro W hW; go_simp; first | done | with_reducible rfl
  try simp only [Act.put, List.setIfInBounds_toArray, List.set_cons_zero, List.set_cons_succ]
  refine reg_take 24 (some 54) (v := ?_) rfl rfl (by kernel_rfl) (by kernel_rfl) (by kernel_rfl) (fun _ _ _ h => h) (by rfl) ?_ ?_
  rotate_left
  · intro W hW; go_simp; first | done | with_reducible rfl
  try simp only [Act.put, List.setIfInBounds_toArray, List.set_cons_zero, List.set_cons_succ]
  refine reg_take 26 (some 56) (v := ?_) rfl rfl (by kernel_rfl) (by kernel_rfl) (by kernel_rfl) (fun _ _ _ h => h) (by rfl) ?_ ?_
  rotate_left
  · intro W hW; refine exec_ld40 (x := Operand.tmp 3) ?_ ?_ ((((h1.trans hW)).block w.heap.size (lt_of_block HB4.out) (by simp)).trans HB4.out) <;> rfl
  try simp only [Act.put, List.setIfInBounds_toArray, List.set_cons_zero, List.set_cons_succ]
  refine wpAnyH_ready (rs := [25]) (by kernel_rfl) (by simp) ?_
  refine (AllReadyH.cons (o := { dst := some 55, op := Op.call { callee := Callee.value (Operand.func 25), args := #[Operand.tmp 54], argTypes := #[24] }, type := 34, pos := "law.go:43", after := #[{ on := 24, ground := Ground.data }, { on := 23, ground := Ground.chain }, { on := 23, ground := Ground.guard }], guard := some (23, true) }) rfl (fun K hK => ?_) AllReadyH.nil)
  go_simp
  refine (queue_q M B c g q n _ HQ.out HNQ.out (HNS.out.keptNone (drewl h1)) hb HL1.out).mono ?_; rintro e u2 ⟨a55, c55, vs55, rfl, hv55, hb55, h2⟩
  refine reg_next hK h2 ?_
  clear hK K
  try simp only [Act.put, List.setIfInBounds_toArray, List.set_cons_zero, List.set_cons_succ]
  refine wpAnyH_ready (rs := [27]) (by kernel_rfl) (by simp) ?_
  refine (AllReadyH.cons (o := { dst := some 57, op := Op.call { callee := Callee.value (Operand.func 35), args := #[Operand.tmp 56], argTypes := #[40] }, type := 34, pos := "law.go:43", after := #[{ on := 26, ground := Ground.data }, { on := 25, ground := Ground.chain }, { on := 23, ground := Ground.guard }], guard := some (23, true) }) rfl (fun K hK => ?_) AllReadyH.nil)
  go_simp
  refine (ref_queue_q M _ g q n _ HQ.out HNQ.out (HRS.out.keptNone (drewl (h1.trans h2)))).mono ?_; rintro e u3 ⟨a57, c57, vs57, rfl, hv57, hb57, h3⟩
  refine reg_next hK h3 ?_
  clear hK K
  try simp only [Act.put, List.setIfInBounds_toArray, List.set_cons_zero, List.set_cons_succ]
  refine wpAnyH_ready (rs := [28]) (by kernel_rfl) (by simp) ?_
  refine (AllReadyH.cons (o := { dst := some 58, op := Op.call { callee := Callee.value (Operand.func 36), args := #[Operand.tmp 55, Operand.tmp 57], argTypes := #[34, 34] }, type := 4, pos := "law.go:43", after := #[{ on := 25, ground := Ground.data }, { on := 27, ground := Ground.data }, { on := 27, ground := Ground.chain }, { on := 23, ground := Ground.guard }], guard := some (23, true) }) rfl (fun K hK => ?_) AllReadyH.nil)
  go_simp
  refine (same_yes a55 a57 n c55 c57 vs55 vs57 q _ HNQ2.out (hv55.keptNone h3) (hb55.kept h3) (hv57.keptNone (World.grownBy.refl _ _)) (hb57.kept (World.grownBy.refl _ _)) (by omega)).mono ?_; rintro e u4 ⟨rfl, h4⟩
  refine reg_next hK h4 ?_
  clear hK K
  try simp only [Act.put, List.setIfInBounds_toArray, List.set_cons_zero, List.set_cons_succ]
  refine reg_take 29 (some 59) (v := ?_) rfl rfl (by kernel_rfl) (by kernel_rfl) (by kernel_rfl) (fun _ _ _ h => h) (by rfl) ?_ ?_
  rotate_left
  · intro W hW; go_simp; first | done | with_reducible rfl
  try simp only [Act.put, List.setIfInBounds_toArray, List.set_cons_zero, List.set_cons_succ]
  refine reg_take 30 (some 60) (v := ?_) rfl rfl (by kernel_rfl) (by kernel_rfl) (by kernel_rfl) (fun _ _ _ h => h) (by rfl) ?_ ?_
  rotate_left
  · intro W hW; go_simp; first | done | with_reducible rfl
  try simp only [Act.put, List.setIfInBounds_toArray, List.set_cons_zero, List.set_cons_succ]
  refine reg_take 31 (some 61) (v := ?_) rfl rfl (by kernel_rfl) (by kernel_rfl) (by kernel_rfl) (fun _ _ _ h => h) (by rfl) ?_ ?_
  rotate_left
  · intro W hW; go_simp; first | done | with_reducible rfl
  try simp only [Act.put, List.setIfInBounds_toArray, List.set_cons_zero, List.set_cons_succ]
  refine reg_take 33 (some 63) (v := ?_) rfl rfl (by kernel_rfl) (by kernel_rfl) (by kernel_rfl) (fun _ _ _ h => h) (by rfl) ?_ ?_
  rotate_left
  · intro W hW; go_simp; first | done | with_reducible rfl
  try simp only [Act.put, List.setIfInBounds_toArray, List.set_cons_zero, List.set_cons_succ]
  refine reg_take 34 (some 64) (v := ?_) rfl rfl (by kernel_rfl) (by kernel_rfl) (by kernel_rfl) (fun _ _ _ h => h) (by rfl) ?_ ?_
  rotate_left
  · intro W hW; have k1 := cells_all ((((h1.trans (h2.trans (h3.trans (h4.trans hW))))).block w.heap.size (lt_of_block HB4.out) (by simp)).trans HB4.out) 2; go_simp; first | done | with_reducible rfl
  try simp only [Act.put, List.setIfInBounds_toArray, List.set_cons_zero, List.set_cons_succ]
  refine wpAnyH_ready (rs := [32]) (by kernel_rfl) (by simp) ?_
  refine (AllReadyH.cons (o := { dst := some 62, op := Op.call { callee := Callee.value (Operand.func 26), args := #[Operand.tmp 61], argTypes := #[24] }, type := 34, pos := "law.go:43", after := #[{ on := 31, ground := Ground.data }, { on := 30, ground := Ground.chain }, { on := 30, ground := Ground.guard }], guard := some (30, true) }) rfl (fun K hK => ?_) AllReadyH.nil)
  go_simp
  refine (sent_q M B c g sn _ HMS.out (HNS.out.keptNone (drewl (h1.trans (h2.trans (h3.trans h4))))) hb HL2.out).mono ?_; rintro e u5 ⟨a62, c62, vs62, rfl, hv62, hb62, h5⟩
  refine reg_next hK h5 ?_
  clear hK K
  try simp only [Act.put, List.setIfInBounds_toArray, List.set_cons_zero, List.set_cons_succ]
  refine wpAnyH_ready (rs := [35]) (by kernel_rfl) (by simp) ?_
  refine (AllReadyH.cons (o := { dst := some 65, op := Op.call { callee := Callee.value (Operand.func 36), args := #[Operand.tmp 62, Operand.tmp 64], argTypes := #[34, 34] }, type := 4, pos := "law.go:43", after := #[{ on := 32, ground := Ground.data }, { on := 34, ground := Ground.data }, { on := 32, ground := Ground.chain }, { on := 30, ground := Ground.guard }], guard := some (30, true) }) rfl (fun K hK => ?_) AllReadyH.nil)
  go_simp
  refine (same_yes a62 sa sn c62 sc vs62 vsS g.sent _ HMS.out (hv62.keptNone (World.grownBy.refl _ _)) (hb62.kept (World.grownBy.refl _ _)) (HVS.out.keptNone (drewl (h1.trans (h2.trans (h3.trans (h4.trans h5)))))) (HBS.out.kept (drewl (h1.trans (h2.trans (h3.trans (h4.trans h5)))))) (by omega)).mono ?_; rintro e u6 ⟨rfl, h6⟩
  refine reg_next hK h6 ?_
  clear hK K
  try simp only [Act.put, List.setIfInBounds_toArray, List.set_cons_zero, List.set_cons_succ]
  refine reg_take 36 (some 66) (v := ?_) rfl rfl (by kernel_rfl) (by kernel_rfl) (by kernel_rfl) (fun _ _ _ h => h) (by rfl) ?_ ?_
  rotate_left
  · intro W hW; go_simp; first | done | with_reducible rfl
  try simp only [Act.put, List.setIfInBounds_toArray, List.set_cons_zero, List.set_cons_succ]
  refine reg_take 37 (some 67) (v := ?_) rfl rfl (by kernel_rfl) (by kernel_rfl) (by kernel_rfl) (fun _ _ _ h => h) (by rfl) ?_ ?_
  rotate_left
  · intro W hW; go_simp; first | done | with_reducible rfl
  try simp only [Act.put, List.setIfInBounds_toArray, List.set_cons_zero, List.set_cons_succ]
  refine reg_take 38 (some 68) (v := ?_) rfl rfl (by kernel_rfl) (by kernel_rfl) (by kernel_rfl) (fun _ _ _ h => h) (by rfl) ?_ ?_
  rotate_left
  · intro W hW; go_simp; first | done | with_reducible rfl
  try simp only [Act.put, List.setIfInBounds_toArray, List.set_cons_zero, List.set_cons_succ]
  refine reg_take 39 (some 69) (v := ?_) rfl rfl (by kernel_rfl) (by kernel_rfl) (by kernel_rfl) (fun _ _ _ h => h) (by rfl) ?_ ?_
  rotate_left
  · intro W hW; go_simp; first | done | with_reducible rfl
  try simp only [Act.put, List.setIfInBounds_toArray, List.set_cons_zero, List.set_cons_succ]
  refine reg_take 40 (some 70) (v := ?_) rfl rfl (by kernel_rfl) (by kernel_rfl) (by kernel_rfl) (fun _ _ _ h => h) (by rfl) ?_ ?_
  rotate_left
  · intro W hW; have k1 := cells_all ((((h1.trans (h2.trans (h3.trans (h4.trans (h5.trans (h6.trans hW))))))).block w.heap.size (lt_of_block HB4.out) (by simp)).trans HB4.out) 0; go_simp; first | done | with_reducible rfl
  try simp only [Act.put, List.setIfInBounds_toArray, List.set_cons_zero, List.set_cons_succ]
  refine wpAnyH_ready (rs := [41]) (by kernel_rfl) (by simp) ?_
  refine (AllReadyH.cons (o := { dst := some 71, op := Op.call { callee := Callee.value (Operand.func 37), args := #[Operand.tmp 70], argTypes := #[34] }, type := 3, pos := "law.go:43", after := #[{ on := 40, ground := Ground.data }, { on := 37, ground := Ground.chain }, { on := 37, ground := Ground.guard }], guard := some (37, true) }) rfl (fun K hK => ?_) AllReadyH.nil)
  go_simp
  refine (bytes_n ca cn cc vsC g.came _ HCN.out (HVC.out.keptNone (drewl (h1.trans (h2.trans (h3.trans (h4.trans (h5.trans h6))))))) (HBC.out.kept (drewl (h1.trans (h2.trans (h3.trans (h4.trans (h5.trans h6))))))) hb.came hb.tc).mono ?_; rintro e w' ⟨rfl, rfl⟩
  refine reg_same hK ?_
  clear hK K
  try simp only [Act.put, List.setIfInBounds_toArray, List.set_cons_zero, List.set_cons_succ]
  refine reg_take 42 (some 72) (v := ?_) rfl rfl (by kernel_rfl) (by kernel_rfl) (by kernel_rfl) (fun _ _ _ h => h) (by rfl) ?_ ?_
  rotate_left
  · intro W hW; go_simp; first | done | with_reducible rfl
  try simp only [Act.put, List.setIfInBounds_toArray, List.set_cons_zero, List.set_cons_succ]
  refine reg_take 43 (some 73) (v := ?_) rfl rfl (by kernel_rfl) (by kernel_rfl) (by kernel_rfl) (fun _ _ _ h => h) (by rfl) ?_ ?_
  rotate_left
  · intro W hW; go_simp; first | done | with_reducible rfl
  try simp only [Act.put, List.setIfInBounds_toArray, List.set_cons_zero, List.set_cons_succ]
  refine reg_take 44 (some 74) (v := ?_) rfl rfl (by kernel_rfl) (by kernel_rfl) (by kernel_rfl) (fun _ _ _ h => h) (by rfl) ?_ ?_
  rotate_left
  · intro W hW; go_simp; first | done | with_reducible rfl
  try simp only [Act.put, List.setIfInBounds_toArray, List.set_cons_zero, List.set_cons_succ]
  refine reg_take 45 (some 75) (v := ?_) rfl rfl (by kernel_rfl) (by kernel_rfl) (by kernel_rfl) (fun _ _ _ h => h) (by rfl) ?_ ?_
  rotate_left
  · intro W hW; go_simp; first | done | with_reducible rfl
  try simp only [Act.put, List.setIfInBounds_toArray, List.set_cons_zero, List.set_cons_succ]
  refine reg_take 46 (some 76) (v := ?_) rfl rfl (by kernel_rfl) (by kernel_rfl) (by kernel_rfl) (fun _ _ _ h => h) (by rfl) ?_ ?_
  rotate_left
  · intro W hW; go_simp; first | done | with_reducible rfl
  try simp only [Act.put, List.setIfInBounds_toArray, List.set_cons_zero, List.set_cons_succ]
  refine reg_take 47 (some 77) (v := ?_) rfl rfl (by kernel_rfl) (by kernel_rfl) (by kernel_rfl) (fun _ _ _ h => h) (by rfl) ?_ ?_
  rotate_left
  · intro W hW; have k1 := cells_all ((((h1.trans (h2.trans (h3.trans (h4.trans (h5.trans (h6.trans hW))))))).block w.heap.size (lt_of_block HB4.out) (by simp)).trans HB4.out) 2; go_simp; first | done | with_reducible rfl
  try simp only [Act.put, List.setIfInBounds_toArray, List.set_cons_zero, List.set_cons_succ]
  refine wpAnyH_ready (rs := [48]) (by kernel_rfl) (by simp) ?_
  refine (AllReadyH.cons (o := { dst := some 78, op := Op.call { callee := Callee.value (Operand.func 37), args := #[Operand.tmp 77], argTypes := #[34] }, type := 3, pos := "law.go:43", after := #[{ on := 47, ground := Ground.data }, { on := 44, ground := Ground.chain }, { on := 44, ground := Ground.guard }], guard := some (44, true) }) rfl (fun K hK => ?_) AllReadyH.nil)
  go_simp
  refine (bytes_n sa sn sc vsS g.sent _ HMS.out (HVS.out.keptNone (drewl (h1.trans (h2.trans (h3.trans (h4.trans (h5.trans h6))))))) (HBS.out.kept (drewl (h1.trans (h2.trans (h3.trans (h4.trans (h5.trans h6))))))) hb.sent hb.ts).mono ?_; rintro e w' ⟨rfl, rfl⟩
  refine reg_same hK ?_
  clear hK K
  try simp only [Act.put, List.setIfInBounds_toArray, List.set_cons_zero, List.set_cons_succ]
  refine reg_take 49 (some 79) (v := ?_) rfl rfl (by kernel_rfl) (by kernel_rfl) (by kernel_rfl) (fun _ _ _ h => h) (by rfl) ?_ ?_
  rotate_left
  · intro W hW; go_simp; first | done | with_reducible rfl
  try simp only [Act.put, List.setIfInBounds_toArray, List.set_cons_zero, List.set_cons_succ]
  refine reg_take 50 (some 80) (v := ?_) rfl rfl (by kernel_rfl) (by kernel_rfl) (by kernel_rfl) (fun _ _ _ h => h) (by rfl) ?_ ?_
  rotate_left
  · intro W hW; go_simp; first | done | with_reducible rfl
  try simp only [Act.put, List.setIfInBounds_toArray, List.set_cons_zero, List.set_cons_succ]
  refine reg_take 51 (some 4) (v := ?_) rfl rfl (by kernel_rfl) (by kernel_rfl) (by kernel_rfl) (fun _ _ _ h => h) (by rfl) ?_ ?_
  rotate_left
  · intro W hW; go_simp; first | done | with_reducible rfl
  try simp only [Act.put, List.setIfInBounds_toArray, List.set_cons_zero, List.set_cons_succ]
  refine wpAnyH_done (by kernel_rfl) ?_ _
  have HG := Lib.hid (HG4.out.trans (drewl (h1.trans (h2.trans (h3.trans (h4.trans (h5.trans h6)))))))
  clear hv55 hb55 hv57 hb57 hv62 hb62 h1 h2 h3 h4 h5 h6
  go_wp2
  go_ret
  exact ⟨rfl, HG.out⟩
end Go.Proofs.Ytnglbneefkdfgaa
