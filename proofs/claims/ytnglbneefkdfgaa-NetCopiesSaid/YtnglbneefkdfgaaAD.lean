import Derived.Test.YtnglbneefkdfgaaAC
set_option linter.unusedVariables false
namespace Go.Proofs.Ytnglbneefkdfgaa
open Go.RowKit
theorem copy_post {M : Nat → Prop} {w u1 u2 u3 : World} {B : Nat} {c : Nc} {g : Nh} {n m : Nat} {vs us : List Value} {a1 a2 : Option Addr} {c1 c2 : Nat} (h : NS M w B c g) (hn : n = g.came.length - g.taken) (hm : m = g.sent.length)
    (hpk : PK M w vs (g.came.drop g.taken) (tot (g.came.take g.taken))) (hbl : BL M w us g.sent) (h1 : w.grownBy u1 none) (h2 : u1.grownBy u2 none) (h3 : u2.grownBy u3 none)
    (hv1 : Gs eP u1 (.slice a1 n c1) n vs) (hr1 : ∀ k, rowOf (.slice a1 n c1) = some k → w.heap.size ≤ k) (hv2 : Gs eL u2 (.slice a2 m c2) m us) (hr2 : ∀ k, rowOf (.slice a2 m c2) = some k → u1.heap.size ≤ k)
    (hb : u3.heap[u2.heap.size]? = some (.cells (⟨.slice a1 n c1, .slice a2 m c2, (tot g.came : Nat), (tot g.sent : Nat)⟩ : Nc).cells 59 (0, 0))) :
    NS (with_ M (own ⟨.slice a1 n c1, .slice a2 m c2, (tot g.came : Nat), (tot g.sent : Nat)⟩ u2.heap.size)) u3 u2.heap.size ⟨.slice a1 n c1, .slice a2 m c2, (tot g.came : Nat), (tot g.sent : Nat)⟩ g ∧ (∀ k, own ⟨.slice a1 n c1, .slice a2 m c2, (tot g.came : Nat), (tot g.sent : Nat)⟩ u2.heap.size k → w.heap.size ≤ k ∧ k < u3.heap.size) ∧ w.grownBy u3 none := by
  have z1 := h1.size
  have z2 := h2.size
  have z3 := h3.size
  have hall := (h1.trans h2).trans h3
  have hlt := lt_of_block hb
  have ho : ∀ k, own ⟨.slice a1 n c1, .slice a2 m c2, (tot g.came : Nat), (tot g.sent : Nat)⟩ u2.heap.size k → w.heap.size ≤ k ∧ k < u3.heap.size := fun k hk => by
    rcases hk with rfl | hk | hk
    · omega
    · have := hr1 k hk; have := hv1.lt k hk; omega
    · have := hr2 k hk; have := hv2.lt k hk; omega
  have hm2 : ∀ k, with_ M (own ⟨.slice a1 n c1, .slice a2 m c2, (tot g.came : Nat), (tot g.sent : Nat)⟩ u2.heap.size) k → M k ∨ w.heap.size ≤ k := fun k hk => hk.imp id (fun h => (ho k h).1)
  refine ⟨⟨hb, h.tk, ⟨vs, ?_, (hpk.more hm2).keeps (X := fun _ => False) (Keeps.keep hall) (fun _ _ h => h.elim)⟩, ⟨us, ?_, (hbl.more hm2).keeps (X := fun _ => False) (Keeps.keep hall) (fun _ _ h => h.elim)⟩, rfl, rfl, fun k hk => .inr hk⟩, ho, hall⟩
  · rw [← hn]; exact (hv1.keptNone h2).keptNone h3
  · rw [← hm]; exact hv2.keptNone h3
set_option maxHeartbeats 8000000 in
theorem copy_nk (M : Nat → Prop) (B : Nat) (c : Nc) (g : Nh) (w : World) (h : NS M w B c g) (hb : Nb g) :
    Calls Try.prog 23 #[.pointer (some ⟨B, 0, none⟩)] w fun e w' => ∃ B' c', e = .returned (.pointer (some ⟨B', 0, none⟩)) ∧ NS (with_ M (own c' B')) w' B' c' g ∧ (∀ k, own c' B' k → w.heap.size ≤ k ∧ k < w'.heap.size) ∧ w.grownBy w' none := by
  obtain ⟨vs, hq, hpk⟩ := h.q
  obtain ⟨us, hs, hbl⟩ := h.s
  obtain ⟨n, hn⟩ : ∃ n, n = g.came.length - g.taken := ⟨_, rfl⟩
  obtain ⟨m, hm⟩ : ∃ m, m = g.sent.length := ⟨_, rfl⟩
  rw [← hn] at hq
  rw [← hm] at hs
  have hn1 : n ≤ 1000000 := by have := hb.came; omega
  have hm1 : m ≤ 1000000 := by have := hb.sent; omega
  obtain ⟨qa, qcap, hqv, _⟩ := hq.shape
  obtain ⟨sa, scap, hsv, _⟩ := hs.shape
  have HNS := Lib.hid h
  have HQ := Lib.hid (hqv ▸ hq)
  have HS := Lib.hid (hsv ▸ hs)
  have HWV := Lib.hid hqv
  have HSV := Lib.hid hsv
  have HNN := Lib.hid hn
  have HMM := Lib.hid hm
  have HPK := Lib.hid hpk
  have HBK := Lib.hid hbl
  clear h hq hs hqv hsv hn hm hpk hbl
  go_enter Try.func23, Try.ntmps23
  go_wp2_with fail
  refine (none_nk B c _ HNS.out.nk).mono ?_; rintro e w' ⟨rfl, rfl⟩
  go_wp2
  refine reg_open (none) (n := 21) rfl (by kernel_rfl) ?_
  refine reg_take 0 (some 5) (v := ?_) rfl rfl (by kernel_rfl) (by kernel_rfl) (by kernel_rfl) (fun _ _ _ h => h) (by rfl) ?_ ?_
  rotate_left
  · intro W hW; go_simp; first | done | with_reducible rfl
  try simp only [Act.put, List.setIfInBounds_toArray, List.set_cons_zero, List.set_cons_succ]
  refine reg_take 1 (some 6) (v := ?_) rfl rfl (by kernel_rfl) (by kernel_rfl) (by kernel_rfl) (fun _ _ _ h => h) (by rfl) ?_ ?_
  rotate_left
  · intro W hW; go_simp; first | done | with_reducible rfl
  try simp only [Act.put, List.setIfInBounds_toArray, List.set_cons_zero, List.set_cons_succ]
  refine reg_take 2 (some 7) (v := ?_) rfl rfl (by kernel_rfl) (by kernel_rfl) (by kernel_rfl) (fun _ _ _ h => h) (by rfl) ?_ ?_
  rotate_left
  · intro W hW; go_simp; first | done | with_reducible rfl
  try simp only [Act.put, List.setIfInBounds_toArray, List.set_cons_zero, List.set_cons_succ]
  refine reg_take 3 (some 8) (v := ?_) rfl rfl (by kernel_rfl) (by kernel_rfl) (by kernel_rfl) (fun _ _ _ h => h) (by rfl) ?_ ?_
  rotate_left
  · intro W hW; have k1 := (HNS.out.nk.keptNone (drewl hW)).cell 0; have k2 := k1.trans (congrArg some HWV.out); clear k1; go_simp; first | done | with_reducible rfl
  try simp only [Act.put, List.setIfInBounds_toArray, List.set_cons_zero, List.set_cons_succ]
  refine reg_take 5 (some 10) (v := ?_) rfl rfl (by kernel_rfl) (by kernel_rfl) (by kernel_rfl) (fun _ _ _ h => h) (by rfl) ?_ ?_
  rotate_left
  · intro W hW; go_simp; first | done | with_reducible rfl
  try simp only [Act.put, List.setIfInBounds_toArray, List.set_cons_zero, List.set_cons_succ]
  refine reg_take 6 (some 11) (v := ?_) rfl rfl (by kernel_rfl) (by kernel_rfl) (by kernel_rfl) (fun _ _ _ h => h) (by rfl) ?_ ?_
  rotate_left
  · intro W hW; go_simp; first | done | with_reducible rfl
  try simp only [Act.put, List.setIfInBounds_toArray, List.set_cons_zero, List.set_cons_succ]
  refine reg_take 7 (some 12) (v := ?_) rfl rfl (by kernel_rfl) (by kernel_rfl) (by kernel_rfl) (fun _ _ _ h => h) (by rfl) ?_ ?_
  rotate_left
  · intro W hW; go_simp; first | done | with_reducible rfl
  try simp only [Act.put, List.setIfInBounds_toArray, List.set_cons_zero, List.set_cons_succ]
  refine reg_take 8 (some 13) (v := ?_) rfl rfl (by kernel_rfl) (by kernel_rfl) (by kernel_rfl) (fun _ _ _ h => h) (by rfl) ?_ ?_
  rotate_left
  · intro W hW; have k1 := (HNS.out.nk.keptNone (drewl hW)).cell 1; have k2 := k1.trans (congrArg some HSV.out); clear k1; go_simp; first | done | with_reducible rfl
  try simp only [Act.put, List.setIfInBounds_toArray, List.set_cons_zero, List.set_cons_succ]
  refine reg_take 10 (some 15) (v := ?_) rfl rfl (by kernel_rfl) (by kernel_rfl) (by kernel_rfl) (fun _ _ _ h => h) (by rfl) ?_ ?_
  rotate_left
  · intro W hW; go_simp; first | done | with_reducible rfl
  try simp only [Act.put, List.setIfInBounds_toArray, List.set_cons_zero, List.set_cons_succ]
  refine reg_take 11 (some 16) (v := ?_) rfl rfl (by kernel_rfl) (by kernel_rfl) (by kernel_rfl) (fun _ _ _ h => h) (by rfl) ?_ ?_
  rotate_left
  · intro W hW; go_simp; first | done | with_reducible rfl
  try simp only [Act.put, List.setIfInBounds_toArray, List.set_cons_zero, List.set_cons_succ]
  refine reg_take 12 (some 17) (v := ?_) rfl rfl (by kernel_rfl) (by kernel_rfl) (by kernel_rfl) (fun _ _ _ h => h) (by rfl) ?_ ?_
  rotate_left
  · intro W hW; go_simp; first | done | with_reducible rfl
  try simp only [Act.put, List.setIfInBounds_toArray, List.set_cons_zero, List.set_cons_succ]
  refine reg_take 13 (some 18) (v := ?_) rfl rfl (by kernel_rfl) (by kernel_rfl) (by kernel_rfl) (fun _ _ _ h => h) (by rfl) ?_ ?_
  rotate_left
  · intro W hW; have k1 := (HNS.out.nk.keptNone (drewl hW)).cell 2; have k2 := k1.trans (congrArg (fun z => some (Value.int .i64 z)) HNS.out.ni); clear k1; go_simp; first | done | with_reducible rfl
  try simp only [Act.put, List.setIfInBounds_toArray, List.set_cons_zero, List.set_cons_succ]
  refine reg_take 14 (some 19) (v := ?_) rfl rfl (by kernel_rfl) (by kernel_rfl) (by kernel_rfl) (fun _ _ _ h => h) (by rfl) ?_ ?_
  rotate_left
  · intro W hW; go_simp; first | done | with_reducible rfl
  try simp only [Act.put, List.setIfInBounds_toArray, List.set_cons_zero, List.set_cons_succ]
  refine reg_take 15 (some 20) (v := ?_) rfl rfl (by kernel_rfl) (by kernel_rfl) (by kernel_rfl) (fun _ _ _ h => h) (by rfl) ?_ ?_
  rotate_left
  · intro W hW; go_simp; first | done | with_reducible rfl
  try simp only [Act.put, List.setIfInBounds_toArray, List.set_cons_zero, List.set_cons_succ]
  refine reg_take 16 (some 21) (v := ?_) rfl rfl (by kernel_rfl) (by kernel_rfl) (by kernel_rfl) (fun _ _ _ h => h) (by rfl) ?_ ?_
  rotate_left
  · intro W hW; go_simp; first | done | with_reducible rfl
  try simp only [Act.put, List.setIfInBounds_toArray, List.set_cons_zero, List.set_cons_succ]
  refine reg_take 17 (some 22) (v := ?_) rfl rfl (by kernel_rfl) (by kernel_rfl) (by kernel_rfl) (fun _ _ _ h => h) (by rfl) ?_ ?_
  rotate_left
  · intro W hW; have k1 := (HNS.out.nk.keptNone (drewl hW)).cell 3; have k2 := k1.trans (congrArg (fun z => some (Value.int .i64 z)) HNS.out.no); clear k1; go_simp; first | done | with_reducible rfl
  try simp only [Act.put, List.setIfInBounds_toArray, List.set_cons_zero, List.set_cons_succ]
  refine wpAnyH_ready (rs := [4]) (by kernel_rfl) (by simp) ?_
  refine (AllReadyH.cons (o := { dst := some 9, op := Op.call { callee := Callee.value (Operand.func 38), args := #[Operand.tmp 8], argTypes := #[57] }, type := 57, pos := "net.go:146", after := #[{ on := 3, ground := Ground.data }], guard := none }) rfl (fun K hK => ?_) AllReadyH.nil)
  go_simp
  refine (copied_p _ n vs _ (HQ.out.keptNone (drewl (World.grownBy.refl _ _))) hn1).mono ?_; rintro e u1 ⟨v1, rfl, hv1, h1, hr1⟩; obtain ⟨a1, c1, rfl, -⟩ := hv1.shape
  refine reg_next hK h1 ?_
  clear hK K
  try simp only [Act.put, List.setIfInBounds_toArray, List.set_cons_zero, List.set_cons_succ]
  refine wpAnyH_ready (rs := [9]) (by kernel_rfl) (by simp) ?_
  refine (AllReadyH.cons (o := { dst := some 14, op := Op.call { callee := Callee.value (Operand.func 39), args := #[Operand.tmp 13], argTypes := #[34] }, type := 34, pos := "net.go:146", after := #[{ on := 8, ground := Ground.data }, { on := 4, ground := Ground.chain }], guard := none }) rfl (fun K hK => ?_) AllReadyH.nil)
  go_simp
  refine (copied_l _ m us _ (HS.out.keptNone (drewl h1)) hm1).mono ?_; rintro e u2 ⟨v2, rfl, hv2, h2, hr2⟩; obtain ⟨a2, c2, rfl, -⟩ := hv2.shape
  refine reg_next hK h2 ?_
  clear hK K
  try simp only [Act.put, List.setIfInBounds_toArray, List.set_cons_zero, List.set_cons_succ]
  refine reg_take 18 (some 23) (v := ?_) rfl rfl (by kernel_rfl) (by kernel_rfl) (by kernel_rfl) (fun _ _ _ h => h) (by rfl) ?_ ?_
  rotate_left
  · intro W hW; go_simp; first | done | with_reducible rfl
  try simp only [Act.put, List.setIfInBounds_toArray, List.set_cons_zero, List.set_cons_succ]
  refine wpAnyH_ready (rs := [19]) (by kernel_rfl) (by simp) ?_
  refine (AllReadyH.cons (o := { dst := some 24, op := Op.box 59 (Operand.tmp 23), type := 24, pos := "net.go:146", after := #[{ on := 18, ground := Ground.data }], guard := none }) rfl (fun K hK => ?_) AllReadyH.nil)
  go_simp
  have hn := heap_alloc_new u2 (.cells (⟨.slice a1 n c1, .slice a2 m c2, (tot g.came : Nat), (tot g.sent : Nat)⟩ : Nc).cells 59); have h3 := World.grownBy_alloc u2 (.cells (⟨.slice a1 n c1, .slice a2 m c2, (tot g.came : Nat), (tot g.sent : Nat)⟩ : Nc).cells 59) none
  refine reg_next hK h3 ?_
  clear hK K
  try simp only [Act.put, List.setIfInBounds_toArray, List.set_cons_zero, List.set_cons_succ]
  refine reg_take 20 (some 2) (v := ?_) rfl rfl (by kernel_rfl) (by kernel_rfl) (by kernel_rfl) (fun _ _ _ h => h) (by rfl) ?_ ?_
  rotate_left
  · intro W hW; go_simp; first | done | with_reducible rfl
  try simp only [Act.put, List.setIfInBounds_toArray, List.set_cons_zero, List.set_cons_succ]
  refine wpAnyH_done (by kernel_rfl) ?_ _
  have hf := copy_post (M := M) HNS.out HNN.out HMM.out HPK.out HBK.out (drewl h1) h2 h3 hv1 hr1 hv2 hr2 hn
  have HF := Lib.hid hf
  clear hf hn h1 h2 h3 hv1 hr1 hv2 hr2
  go_wp2
  go_ret
  exact ⟨_, _, rfl, HF.out⟩
theorem copy_nil (w : World) : Calls Try.prog 23 #[.pointer none] w fun e w' => e = .returned (.pointer none) ∧ w = w' := by
  go_enter Try.func23, Try.ntmps23
  go_wp2_with fail
  refine (none_nil _).mono ?_; rintro e w' ⟨rfl, rfl⟩
  go_wp2
  go_ret
  exact ⟨rfl, rfl⟩
/-- Two stand alike. -/
def sameN (ga gb : Nh) : Bool := decide (ga.came.drop ga.taken = gb.came.drop gb.taken) && (decide (ga.sent = gb.sent) && decide (tot ga.came = tot gb.came))
set_option maxRecDepth 100000 in
set_option maxHeartbeats 16000000 in
theorem same_nk (Ma Mb : Nat → Prop) (A B : Nat) (ca cb : Nc) (ga gb : Nh) (w : World) (hA : NS Ma w A ca ga) (hB : NS Mb w B cb gb) (hba : Nb ga) (hbb : Nb gb) (hla : Lb ga) (hlb : Lb gb) :
    Calls Try.prog 24 #[.pointer (some ⟨A, 0, none⟩), .pointer (some ⟨B, 0, none⟩)] w fun e w' => e = .returned (.bool (sameN ga gb)) ∧ w.grownBy w' none := by
  obtain ⟨qa, hqa⟩ : ∃ q, q = ga.came.drop ga.taken := ⟨_, rfl⟩
  obtain ⟨qb, hqb⟩ : ∃ q, q = gb.came.drop gb.taken := ⟨_, rfl⟩
  obtain ⟨na, hna'⟩ : ∃ n, n = (ga.came.drop ga.taken).length := ⟨_, rfl⟩
  obtain ⟨nb, hnb'⟩ : ∃ n, n = (gb.came.drop gb.taken).length := ⟨_, rfl⟩
  obtain ⟨ma, hma'⟩ : ∃ m, m = ga.sent.length := ⟨_, rfl⟩
  obtain ⟨mb, hmb'⟩ : ∃ m, m = gb.sent.length := ⟨_, rfl⟩
  have hna : na ≤ 1000000 := by rw [hna', List.length_drop]; have := hba.came; omega
  have hma : ma ≤ 1000000 := by rw [hma']; have := hba.sent; omega
  obtain ⟨usa, hsa, hbla⟩ := hA.s
  obtain ⟨usb, hsb, hblb⟩ := hB.s
  rw [← hma'] at hsa
  rw [← hmb'] at hsb
  obtain ⟨sa, sca, hsva, _⟩ := hsa.shape
  obtain ⟨sb, scb, hsvb, _⟩ := hsb.shape
  have HA := Lib.hid hA
  have HB := Lib.hid hB
  have HQA := Lib.hid hqa
  have HQB := Lib.hid hqb
  have HNA := Lib.hid hna'
  have HNB := Lib.hid hnb'
  have HNQA := Lib.hid (show na = qa.length from by rw [hqa]; exact hna')
  have HNQB := Lib.hid (show nb = qb.length from by rw [hqb]; exact hnb')
  have HMA := Lib.hid hma'
  have HMB := Lib.hid hmb'
  have HSVA := Lib.hid hsva
  have HSVB := Lib.hid hsvb
  have HSA := Lib.hid (hsva ▸ hsa)
  have HSB := Lib.hid (hsvb ▸ hsb)
  have HBA := Lib.hid hbla.rb
  have HBB := Lib.hid hblb.rb
  have HLA := Lib.hid hla.1
  have HLB := Lib.hid hlb.1
  have HLQ := Lib.hid (show ∀ x ∈ qa, x.length ≤ 1000000 from fun x hx => hla.1 x (by rw [hqa] at hx; exact List.mem_of_mem_drop hx))
  have HLS := Lib.hid hla.2
  clear hA hB hqa hqb hna' hnb' hma' hmb' hsva hsvb hsa hsb hbla hblb hla hlb
  by_cases hq : qa = qb
  rotate_left
  · have HDQ := Lib.hid (show decide (qa = qb) = false from by simpa using hq)
    have HR := Lib.hid (show false = sameN ga gb from by rw [sameN, ← HQA.out, ← HQB.out]; simp [hq])
    clear hq
    go_enter Try.func24, Try.ntmps24
    go_wp2_with fail
    refine (none_nk A ca _ HA.out.nk).mono ?_; rintro e w' ⟨rfl, rfl⟩
    go_wp2_with fail
    refine (none_nk B cb _ HB.out.nk).mono ?_; rintro e w' ⟨rfl, rfl⟩
    go_wp2
    refine reg_open (none) (n := 30) rfl (by kernel_rfl) ?_
    refine reg_take 0 (some 18) (v := ?_) rfl rfl (by kernel_rfl) (by kernel_rfl) (by kernel_rfl) (fun _ _ _ h => h) (by rfl) ?_ ?_
    rotate_left
    · intro W hW; go_simp; first | done | with_reducible rfl
    try simp only [Act.put, List.setIfInBounds_toArray, List.set_cons_zero, List.set_cons_succ]
    refine reg_take 1 (some 19) (v := ?_) rfl rfl (by kernel_rfl) (by kernel_rfl) (by kernel_rfl) (fun _ _ _ h => h) (by rfl) ?_ ?_
    rotate_left
    · intro W hW; go_simp; first | done | with_reducible rfl
    try simp only [Act.put, List.setIfInBounds_toArray, List.set_cons_zero, List.set_cons_succ]
    refine reg_take 3 (some 21) (v := ?_) rfl rfl (by kernel_rfl) (by kernel_rfl) (by kernel_rfl) (fun _ _ _ h => h) (by rfl) ?_ ?_
    rotate_left
    · intro W hW; go_simp; first | done | with_reducible rfl
    try simp only [Act.put, List.setIfInBounds_toArray, List.set_cons_zero, List.set_cons_succ]
    refine wpAnyH_ready (rs := [2]) (by kernel_rfl) (by simp) ?_
    refine (AllReadyH.cons (o := { dst := some 20, op := Op.call { callee := Callee.value (Operand.func 25), args := #[Operand.tmp 19], argTypes := #[24] }, type := 34, pos := "net.go:155", after := #[{ on := 1, ground := Ground.data }], guard := none }) rfl (fun K hK => ?_) AllReadyH.nil)
    go_simp
    refine (queue_q Ma A ca ga qa na _ HQA.out HNA.out (HA.out.keptNone (drewl (World.grownBy.refl _ _))) hba HLA.out).mono ?_; rintro e u1 ⟨a1, c1, vs1, rfl, hv1, hb1, h1⟩
    refine reg_next hK h1 ?_
    clear hK K
    try simp only [Act.put, List.setIfInBounds_toArray, List.set_cons_zero, List.set_cons_succ]
    refine wpAnyH_ready (rs := [4]) (by kernel_rfl) (by simp) ?_
    refine (AllReadyH.cons (o := { dst := some 22, op := Op.call { callee := Callee.value (Operand.func 25), args := #[Operand.tmp 21], argTypes := #[24] }, type := 34, pos := "net.go:155", after := #[{ on := 3, ground := Ground.data }, { on := 2, ground := Ground.chain }], guard := none }) rfl (fun K hK => ?_) AllReadyH.nil)
    go_simp
    refine (queue_q Mb B cb gb qb nb _ HQB.out HNB.out (HB.out.keptNone (drewl h1)) hbb HLB.out).mono ?_; rintro e u2 ⟨a2, c2, vs2, rfl, hv2, hb2, h2⟩
    refine reg_next hK h2 ?_
    clear hK K
    try simp only [Act.put, List.setIfInBounds_toArray, List.set_cons_zero, List.set_cons_succ]
    refine wpAnyH_ready (rs := [5]) (by kernel_rfl) (by simp) ?_
    refine (AllReadyH.cons (o := { dst := some 23, op := Op.call { callee := Callee.value (Operand.tmp 18), args := #[Operand.tmp 20, Operand.tmp 22], argTypes := #[34, 34] }, type := 4, pos := "net.go:155", after := #[{ on := 0, ground := Ground.data }, { on := 2, ground := Ground.data }, { on := 4, ground := Ground.data }, { on := 4, ground := Ground.chain }], guard := none }) rfl (fun K hK => ?_) AllReadyH.nil)
    go_simp
    have C3 := like_any a1 a2 na nb c1 c2 vs1 vs2 qa qb u2 HNQA.out HNQB.out (hv1.keptNone h2) (hb1.kept h2) hv2 hb2 hna HLQ.out; rw [HDQ.out] at C3; refine C3.mono ?_; rintro e u3 ⟨rfl, h3⟩; clear C3
    refine reg_next hK h3 ?_
    clear hK K
    try simp only [Act.put, List.setIfInBounds_toArray, List.set_cons_zero, List.set_cons_succ]
    refine reg_take 6 (some 24) (v := ?_) rfl rfl (by kernel_rfl) (by kernel_rfl) (by kernel_rfl) (fun _ _ _ h => h) (by rfl) ?_ ?_
    rotate_left
    · intro W hW; go_simp; first | done | with_reducible rfl
    try simp only [Act.put, List.setIfInBounds_toArray, List.set_cons_zero, List.set_cons_succ]
    refine reg_skip 7 (some 25) rfl rfl (by kernel_rfl) (by kernel_rfl) (by kernel_rfl) (fun _ _ _ h => h) (by rfl) ?_
    try simp only [Act.put, List.setIfInBounds_toArray, List.set_cons_zero, List.set_cons_succ]
    refine reg_skip 8 (some 26) rfl rfl (by kernel_rfl) (by kernel_rfl) (by kernel_rfl) (fun _ _ _ h => h) (by rfl) ?_
    try simp only [Act.put, List.setIfInBounds_toArray, List.set_cons_zero, List.set_cons_succ]
    refine reg_skip 9 (some 27) rfl rfl (by kernel_rfl) (by kernel_rfl) (by kernel_rfl) (fun _ _ _ h => h) (by rfl) ?_
    try simp only [Act.put, List.setIfInBounds_toArray, List.set_cons_zero, List.set_cons_succ]
    refine reg_skip 10 (some 28) rfl rfl (by kernel_rfl) (by kernel_rfl) (by kernel_rfl) (fun _ _ _ h => h) (by rfl) ?_
    try simp only [Act.put, List.setIfInBounds_toArray, List.set_cons_zero, List.set_cons_succ]
    refine reg_skip 11 (some 29) rfl rfl (by kernel_rfl) (by kernel_rfl) (by kernel_rfl) (fun _ _ _ h => h) (by rfl) ?_
    try simp only [Act.put, List.setIfInBounds_toArray, List.set_cons_zero, List.set_cons_succ]
    refine reg_skip 12 (some 30) rfl rfl (by kernel_rfl) (by kernel_rfl) (by kernel_rfl) (fun _ _ _ h => h) (by rfl) ?_
    try simp only [Act.put, List.setIfInBounds_toArray, List.set_cons_zero, List.set_cons_succ]
    refine reg_skip 13 (some 31) rfl rfl (by kernel_rfl) (by kernel_rfl) (by kernel_rfl) (fun _ _ _ h => h) (by rfl) ?_
    try simp only [Act.put, List.setIfInBounds_toArray, List.set_cons_zero, List.set_cons_succ]
    refine reg_skip 14 (some 32) rfl rfl (by kernel_rfl) (by kernel_rfl) (by kernel_rfl) (fun _ _ _ h => h) (by rfl) ?_
    try simp only [Act.put, List.setIfInBounds_toArray, List.set_cons_zero, List.set_cons_succ]
    refine reg_skip 15 (some 33) rfl rfl (by kernel_rfl) (by kernel_rfl) (by kernel_rfl) (fun _ _ _ h => h) (by rfl) ?_
    try simp only [Act.put, List.setIfInBounds_toArray, List.set_cons_zero, List.set_cons_succ]
    refine reg_skip 16 (some 34) rfl rfl (by kernel_rfl) (by kernel_rfl) (by kernel_rfl) (fun _ _ _ h => h) (by rfl) ?_
    try simp only [Act.put, List.setIfInBounds_toArray, List.set_cons_zero, List.set_cons_succ]
    refine reg_take 17 (some 35) (v := ?_) rfl rfl (by kernel_rfl) (by kernel_rfl) (by kernel_rfl) (fun _ _ _ h => h) (by rfl) ?_ ?_
    rotate_left
    · intro W hW; go_simp; first | done | with_reducible rfl
    try simp only [Act.put, List.setIfInBounds_toArray, List.set_cons_zero, List.set_cons_succ]
    refine reg_take 18 (some 36) (v := ?_) rfl rfl (by kernel_rfl) (by kernel_rfl) (by kernel_rfl) (fun _ _ _ h => h) (by rfl) ?_ ?_
    rotate_left
    · intro W hW; go_simp; first | done | with_reducible rfl
    try simp only [Act.put, List.setIfInBounds_toArray, List.set_cons_zero, List.set_cons_succ]
    refine reg_skip 19 (some 37) rfl rfl (by kernel_rfl) (by kernel_rfl) (by kernel_rfl) (fun _ _ _ h => h) (by rfl) ?_
    try simp only [Act.put, List.setIfInBounds_toArray, List.set_cons_zero, List.set_cons_succ]
    refine reg_skip 20 (some 38) rfl rfl (by kernel_rfl) (by kernel_rfl) (by kernel_rfl) (fun _ _ _ h => h) (by rfl) ?_
    try simp only [Act.put, List.setIfInBounds_toArray, List.set_cons_zero, List.set_cons_succ]
    refine reg_skip 21 (some 39) rfl rfl (by kernel_rfl) (by kernel_rfl) (by kernel_rfl) (fun _ _ _ h => h) (by rfl) ?_
    try simp only [Act.put, List.setIfInBounds_toArray, List.set_cons_zero, List.set_cons_succ]
    refine reg_skip 22 (some 40) rfl rfl (by kernel_rfl) (by kernel_rfl) (by kernel_rfl) (fun _ _ _ h => h) (by rfl) ?_
    try simp only [Act.put, List.setIfInBounds_toArray, List.set_cons_zero, List.set_cons_succ]
    refine reg_skip 23 (some 41) rfl rfl (by kernel_rfl) (by kernel_rfl) (by kernel_rfl) (fun _ _ _ h => h) (by rfl) ?_
    try simp only [Act.put, List.setIfInBounds_toArray, List.set_cons_zero, List.set_cons_succ]
    refine reg_skip 24 (some 42) rfl rfl (by kernel_rfl) (by kernel_rfl) (by kernel_rfl) (fun _ _ _ h => h) (by rfl) ?_
    try simp only [Act.put, List.setIfInBounds_toArray, List.set_cons_zero, List.set_cons_succ]
    refine reg_skip 25 (some 43) rfl rfl (by kernel_rfl) (by kernel_rfl) (by kernel_rfl) (fun _ _ _ h => h) (by rfl) ?_
    try simp only [Act.put, List.setIfInBounds_toArray, List.set_cons_zero, List.set_cons_succ]
    refine reg_skip 26 (some 44) rfl rfl (by kernel_rfl) (by kernel_rfl) (by kernel_rfl) (fun _ _ _ h => h) (by rfl) ?_
    try simp only [Act.put, List.setIfInBounds_toArray, List.set_cons_zero, List.set_cons_succ]
    refine reg_skip 27 (some 45) rfl rfl (by kernel_rfl) (by kernel_rfl) (by kernel_rfl) (fun _ _ _ h => h) (by rfl) ?_
    try simp only [Act.put, List.setIfInBounds_toArray, List.set_cons_zero, List.set_cons_succ]
    refine reg_take 28 (some 46) (v := ?_) rfl rfl (by kernel_rfl) (by kernel_rfl) (by kernel_rfl) (fun _ _ _ h => h) (by rfl) ?_ ?_
    rotate_left
    · intro W hW; go_simp; first | done | with_reducible rfl
    try simp only [Act.put, List.setIfInBounds_toArray, List.set_cons_zero, List.set_cons_succ]
    refine reg_take 29 (some 4) (v := ?_) rfl rfl (by kernel_rfl) (by kernel_rfl) (by kernel_rfl) (fun _ _ _ h => h) (by rfl) ?_ ?_
    rotate_left
    · intro W hW; go_simp; first | done | with_reducible rfl
    try simp only [Act.put, List.setIfInBounds_toArray, List.set_cons_zero, List.set_cons_succ]
    refine wpAnyH_done (by kernel_rfl) ?_ _
    have HG := Lib.hid (show w.grownBy u3 none from (drewl (h1.trans (h2.trans h3))))
    clear h1 h2 h3 hv1 hb1 hv2 hb2
    go_wp2
    go_ret
    exact ⟨congrArg (fun z => Ending.returned (.bool z)) HR.out, HG.out⟩
  have HDQ := Lib.hid (show decide (qa = qb) = true from by simpa using hq)
  by_cases hs : ga.sent = gb.sent
  rotate_left
  · have HDS := Lib.hid (show decide (ga.sent = gb.sent) = false from by simpa using hs)
    have HR := Lib.hid (show false = sameN ga gb from by rw [sameN, ← HQA.out, ← HQB.out]; simp [hs])
    clear hq hs
    go_enter Try.func24, Try.ntmps24
    go_wp2_with fail
    refine (none_nk A ca _ HA.out.nk).mono ?_; rintro e w' ⟨rfl, rfl⟩
    go_wp2_with fail
    refine (none_nk B cb _ HB.out.nk).mono ?_; rintro e w' ⟨rfl, rfl⟩
    go_wp2
    refine reg_open (none) (n := 30) rfl (by kernel_rfl) ?_
    refine reg_take 0 (some 18) (v := ?_) rfl rfl (by kernel_rfl) (by kernel_rfl) (by kernel_rfl) (fun _ _ _ h => h) (by rfl) ?_ ?_
    rotate_left
    · intro W hW; go_simp; first | done | with_reducible rfl
    try simp only [Act.put, List.setIfInBounds_toArray, List.set_cons_zero, List.set_cons_succ]
    refine reg_take 1 (some 19) (v := ?_) rfl rfl (by kernel_rfl) (by kernel_rfl) (by kernel_rfl) (fun _ _ _ h => h) (by rfl) ?_ ?_
    rotate_left
    · intro W hW; go_simp; first | done | with_reducible rfl
    try simp only [Act.put, List.setIfInBounds_toArray, List.set_cons_zero, List.set_cons_succ]
    refine reg_take 3 (some 21) (v := ?_) rfl rfl (by kernel_rfl) (by kernel_rfl) (by kernel_rfl) (fun _ _ _ h => h) (by rfl) ?_ ?_
    rotate_left
    · intro W hW; go_simp; first | done | with_reducible rfl
    try simp only [Act.put, List.setIfInBounds_toArray, List.set_cons_zero, List.set_cons_succ]
    refine wpAnyH_ready (rs := [2]) (by kernel_rfl) (by simp) ?_
    refine (AllReadyH.cons (o := { dst := some 20, op := Op.call { callee := Callee.value (Operand.func 25), args := #[Operand.tmp 19], argTypes := #[24] }, type := 34, pos := "net.go:155", after := #[{ on := 1, ground := Ground.data }], guard := none }) rfl (fun K hK => ?_) AllReadyH.nil)
    go_simp
    refine (queue_q Ma A ca ga qa na _ HQA.out HNA.out (HA.out.keptNone (drewl (World.grownBy.refl _ _))) hba HLA.out).mono ?_; rintro e u1 ⟨a1, c1, vs1, rfl, hv1, hb1, h1⟩
    refine reg_next hK h1 ?_
    clear hK K
    try simp only [Act.put, List.setIfInBounds_toArray, List.set_cons_zero, List.set_cons_succ]
    refine wpAnyH_ready (rs := [4]) (by kernel_rfl) (by simp) ?_
    refine (AllReadyH.cons (o := { dst := some 22, op := Op.call { callee := Callee.value (Operand.func 25), args := #[Operand.tmp 21], argTypes := #[24] }, type := 34, pos := "net.go:155", after := #[{ on := 3, ground := Ground.data }, { on := 2, ground := Ground.chain }], guard := none }) rfl (fun K hK => ?_) AllReadyH.nil)
    go_simp
    refine (queue_q Mb B cb gb qb nb _ HQB.out HNB.out (HB.out.keptNone (drewl h1)) hbb HLB.out).mono ?_; rintro e u2 ⟨a2, c2, vs2, rfl, hv2, hb2, h2⟩
    refine reg_next hK h2 ?_
    clear hK K
    try simp only [Act.put, List.setIfInBounds_toArray, List.set_cons_zero, List.set_cons_succ]
    refine wpAnyH_ready (rs := [5]) (by kernel_rfl) (by simp) ?_
    refine (AllReadyH.cons (o := { dst := some 23, op := Op.call { callee := Callee.value (Operand.tmp 18), args := #[Operand.tmp 20, Operand.tmp 22], argTypes := #[34, 34] }, type := 4, pos := "net.go:155", after := #[{ on := 0, ground := Ground.data }, { on := 2, ground := Ground.data }, { on := 4, ground := Ground.data }, { on := 4, ground := Ground.chain }], guard := none }) rfl (fun K hK => ?_) AllReadyH.nil)
    go_simp
    have C3 := like_any a1 a2 na nb c1 c2 vs1 vs2 qa qb u2 HNQA.out HNQB.out (hv1.keptNone h2) (hb1.kept h2) hv2 hb2 hna HLQ.out; rw [HDQ.out] at C3; refine C3.mono ?_; rintro e u3 ⟨rfl, h3⟩; clear C3
    refine reg_next hK h3 ?_
    clear hK K
    try simp only [Act.put, List.setIfInBounds_toArray, List.set_cons_zero, List.set_cons_succ]
    refine reg_take 6 (some 24) (v := ?_) rfl rfl (by kernel_rfl) (by kernel_rfl) (by kernel_rfl) (fun _ _ _ h => h) (by rfl) ?_ ?_
    rotate_left
    · intro W hW; go_simp; first | done | with_reducible rfl
    try simp only [Act.put, List.setIfInBounds_toArray, List.set_cons_zero, List.set_cons_succ]
    refine reg_take 7 (some 25) (v := ?_) rfl rfl (by kernel_rfl) (by kernel_rfl) (by kernel_rfl) (fun _ _ _ h => h) (by rfl) ?_ ?_
    rotate_left
    · intro W hW; go_simp; first | done | with_reducible rfl
    try simp only [Act.put, List.setIfInBounds_toArray, List.set_cons_zero, List.set_cons_succ]
    refine reg_take 8 (some 26) (v := ?_) rfl rfl (by kernel_rfl) (by kernel_rfl) (by kernel_rfl) (fun _ _ _ h => h) (by rfl) ?_ ?_
    rotate_left
    · intro W hW; go_simp; first | done | with_reducible rfl
    try simp only [Act.put, List.setIfInBounds_toArray, List.set_cons_zero, List.set_cons_succ]
    refine reg_take 9 (some 27) (v := ?_) rfl rfl (by kernel_rfl) (by kernel_rfl) (by kernel_rfl) (fun _ _ _ h => h) (by rfl) ?_ ?_
    rotate_left
    · intro W hW; go_simp; first | done | with_reducible rfl
    try simp only [Act.put, List.setIfInBounds_toArray, List.set_cons_zero, List.set_cons_succ]
    refine reg_take 10 (some 28) (v := ?_) rfl rfl (by kernel_rfl) (by kernel_rfl) (by kernel_rfl) (fun _ _ _ h => h) (by rfl) ?_ ?_
    rotate_left
    · intro W hW; go_simp; first | done | with_reducible rfl
    try simp only [Act.put, List.setIfInBounds_toArray, List.set_cons_zero, List.set_cons_succ]
    refine reg_take 11 (some 29) (v := ?_) rfl rfl (by kernel_rfl) (by kernel_rfl) (by kernel_rfl) (fun _ _ _ h => h) (by rfl) ?_ ?_
    rotate_left
    · intro W hW; have k1 := (HA.out.nk.keptNone (drewl (h1.trans (h2.trans (h3.trans hW))))).cell 1; have k2 := k1.trans (congrArg some HSVA.out); clear k1; go_simp; first | done | with_reducible rfl
    try simp only [Act.put, List.setIfInBounds_toArray, List.set_cons_zero, List.set_cons_succ]
    refine reg_take 12 (some 30) (v := ?_) rfl rfl (by kernel_rfl) (by kernel_rfl) (by kernel_rfl) (fun _ _ _ h => h) (by rfl) ?_ ?_
    rotate_left
    · intro W hW; go_simp; first | done | with_reducible rfl
    try simp only [Act.put, List.setIfInBounds_toArray, List.set_cons_zero, List.set_cons_succ]
    refine reg_take 13 (some 31) (v := ?_) rfl rfl (by kernel_rfl) (by kernel_rfl) (by kernel_rfl) (fun _ _ _ h => h) (by rfl) ?_ ?_
    rotate_left
    · intro W hW; go_simp; first | done | with_reducible rfl
    try simp only [Act.put, List.setIfInBounds_toArray, List.set_cons_zero, List.set_cons_succ]
    refine reg_take 14 (some 32) (v := ?_) rfl rfl (by kernel_rfl) (by kernel_rfl) (by kernel_rfl) (fun _ _ _ h => h) (by rfl) ?_ ?_
    rotate_left
    · intro W hW; go_simp; first | done | with_reducible rfl
    try simp only [Act.put, List.setIfInBounds_toArray, List.set_cons_zero, List.set_cons_succ]
    refine reg_take 15 (some 33) (v := ?_) rfl rfl (by kernel_rfl) (by kernel_rfl) (by kernel_rfl) (fun _ _ _ h => h) (by rfl) ?_ ?_
    rotate_left
    · intro W hW; have k1 := (HB.out.nk.keptNone (drewl (h1.trans (h2.trans (h3.trans hW))))).cell 1; have k2 := k1.trans (congrArg some HSVB.out); clear k1; go_simp; first | done | with_reducible rfl
    try simp only [Act.put, List.setIfInBounds_toArray, List.set_cons_zero, List.set_cons_succ]
    refine wpAnyH_ready (rs := [16]) (by kernel_rfl) (by simp) ?_
    refine (AllReadyH.cons (o := { dst := some 34, op := Op.call { callee := Callee.value (Operand.tmp 25), args := #[Operand.tmp 29, Operand.tmp 33], argTypes := #[34, 34] }, type := 4, pos := "net.go:155", after := #[{ on := 7, ground := Ground.data }, { on := 11, ground := Ground.data }, { on := 15, ground := Ground.data }, { on := 6, ground := Ground.chain }, { on := 6, ground := Ground.guard }], guard := some (6, true) }) rfl (fun K hK => ?_) AllReadyH.nil)
    go_simp
    have C4 := like_any sa sb ma mb sca scb usa usb ga.sent gb.sent u3 HMA.out HMB.out (HSA.out.keptNone (drewl (h1.trans (h2.trans h3)))) (HBA.out.kept (drewl (h1.trans (h2.trans h3)))) (HSB.out.keptNone (drewl (h1.trans (h2.trans h3)))) (HBB.out.kept (drewl (h1.trans (h2.trans h3)))) hma HLS.out; rw [HDS.out] at C4; refine C4.mono ?_; rintro e u4 ⟨rfl, h4⟩; clear C4
    refine reg_next hK h4 ?_
    clear hK K
    try simp only [Act.put, List.setIfInBounds_toArray, List.set_cons_zero, List.set_cons_succ]
    refine reg_take 17 (some 35) (v := ?_) rfl rfl (by kernel_rfl) (by kernel_rfl) (by kernel_rfl) (fun _ _ _ h => h) (by rfl) ?_ ?_
    rotate_left
    · intro W hW; go_simp; first | done | with_reducible rfl
    try simp only [Act.put, List.setIfInBounds_toArray, List.set_cons_zero, List.set_cons_succ]
    refine reg_take 18 (some 36) (v := ?_) rfl rfl (by kernel_rfl) (by kernel_rfl) (by kernel_rfl) (fun _ _ _ h => h) (by rfl) ?_ ?_
    rotate_left
    · intro W hW; go_simp; first | done | with_reducible rfl
    try simp only [Act.put, List.setIfInBounds_toArray, List.set_cons_zero, List.set_cons_succ]
    refine reg_skip 19 (some 37) rfl rfl (by kernel_rfl) (by kernel_rfl) (by kernel_rfl) (fun _ _ _ h => h) (by rfl) ?_
    try simp only [Act.put, List.setIfInBounds_toArray, List.set_cons_zero, List.set_cons_succ]
    refine reg_skip 20 (some 38) rfl rfl (by kernel_rfl) (by kernel_rfl) (by kernel_rfl) (fun _ _ _ h => h) (by rfl) ?_
    try simp only [Act.put, List.setIfInBounds_toArray, List.set_cons_zero, List.set_cons_succ]
    refine reg_skip 21 (some 39) rfl rfl (by kernel_rfl) (by kernel_rfl) (by kernel_rfl) (fun _ _ _ h => h) (by rfl) ?_
    try simp only [Act.put, List.setIfInBounds_toArray, List.set_cons_zero, List.set_cons_succ]
    refine reg_skip 22 (some 40) rfl rfl (by kernel_rfl) (by kernel_rfl) (by kernel_rfl) (fun _ _ _ h => h) (by rfl) ?_
    try simp only [Act.put, List.setIfInBounds_toArray, List.set_cons_zero, List.set_cons_succ]
    refine reg_skip 23 (some 41) rfl rfl (by kernel_rfl) (by kernel_rfl) (by kernel_rfl) (fun _ _ _ h => h) (by rfl) ?_
    try simp only [Act.put, List.setIfInBounds_toArray, List.set_cons_zero, List.set_cons_succ]
    refine reg_skip 24 (some 42) rfl rfl (by kernel_rfl) (by kernel_rfl) (by kernel_rfl) (fun _ _ _ h => h) (by rfl) ?_
    try simp only [Act.put, List.setIfInBounds_toArray, List.set_cons_zero, List.set_cons_succ]
    refine reg_skip 25 (some 43) rfl rfl (by kernel_rfl) (by kernel_rfl) (by kernel_rfl) (fun _ _ _ h => h) (by rfl) ?_
    try simp only [Act.put, List.setIfInBounds_toArray, List.set_cons_zero, List.set_cons_succ]
    refine reg_skip 26 (some 44) rfl rfl (by kernel_rfl) (by kernel_rfl) (by kernel_rfl) (fun _ _ _ h => h) (by rfl) ?_
    try simp only [Act.put, List.setIfInBounds_toArray, List.set_cons_zero, List.set_cons_succ]
    refine reg_skip 27 (some 45) rfl rfl (by kernel_rfl) (by kernel_rfl) (by kernel_rfl) (fun _ _ _ h => h) (by rfl) ?_
    try simp only [Act.put, List.setIfInBounds_toArray, List.set_cons_zero, List.set_cons_succ]
    refine reg_take 28 (some 46) (v := ?_) rfl rfl (by kernel_rfl) (by kernel_rfl) (by kernel_rfl) (fun _ _ _ h => h) (by rfl) ?_ ?_
    rotate_left
    · intro W hW; go_simp; first | done | with_reducible rfl
    try simp only [Act.put, List.setIfInBounds_toArray, List.set_cons_zero, List.set_cons_succ]
    refine reg_take 29 (some 4) (v := ?_) rfl rfl (by kernel_rfl) (by kernel_rfl) (by kernel_rfl) (fun _ _ _ h => h) (by rfl) ?_ ?_
    rotate_left
    · intro W hW; go_simp; first | done | with_reducible rfl
    try simp only [Act.put, List.setIfInBounds_toArray, List.set_cons_zero, List.set_cons_succ]
    refine wpAnyH_done (by kernel_rfl) ?_ _
    have HG := Lib.hid (show w.grownBy u4 none from (drewl (h1.trans (h2.trans (h3.trans h4)))))
    clear h1 h2 h3 hv1 hb1 hv2 hb2 h4
    go_wp2
    go_ret
    exact ⟨congrArg (fun z => Ending.returned (.bool z)) HR.out, HG.out⟩
  have HDS := Lib.hid (show decide (ga.sent = gb.sent) = true from by simpa using hs)
  obtain ⟨dt, hdt⟩ : ∃ dt, ((tot ga.came : Int) == (tot gb.came : Nat)) = dt := ⟨_, rfl⟩
  have HDT := Lib.hid hdt
  have HR := Lib.hid (show dt = sameN ga gb from by
    rw [sameN, ← HQA.out, ← HQB.out, ← hdt]
    simp only [hq, hs, decide_true, Bool.true_and]
    rw [Bool.eq_iff_iff]
    simp only [beq_iff_eq, decide_eq_true_eq]
    omega)
  clear hq hs hdt
  go_enter Try.func24, Try.ntmps24
  go_wp2_with fail
  refine (none_nk A ca _ HA.out.nk).mono ?_; rintro e w' ⟨rfl, rfl⟩
  go_wp2_with fail
  refine (none_nk B cb _ HB.out.nk).mono ?_; rintro e w' ⟨rfl, rfl⟩
  go_wp2
  refine reg_open (none) (n := 30) rfl (by kernel_rfl) ?_
  refine reg_take 0 (some 18) (v := ?_) rfl rfl (by kernel_rfl) (by kernel_rfl) (by kernel_rfl) (fun _ _ _ h => h) (by rfl) ?_ ?_
  rotate_left
  · intro W hW; go_simp; first | done | with_reducible rfl
  try simp only [Act.put, List.setIfInBounds_toArray, List.set_cons_zero, List.set_cons_succ]
  refine reg_take 1 (some 19) (v := ?_) rfl rfl (by kernel_rfl) (by kernel_rfl) (by kernel_rfl) (fun _ _ _ h => h) (by rfl) ?_ ?_
  rotate_left
  · intro W hW; go_simp; first | done | with_reducible rfl
  try simp only [Act.put, List.setIfInBounds_toArray, List.set_cons_zero, List.set_cons_succ]
  refine reg_take 3 (some 21) (v := ?_) rfl rfl (by kernel_rfl) (by kernel_rfl) (by kernel_rfl) (fun _ _ _ h => h) (by rfl) ?_ ?_
  rotate_left
  · intro W hW; go_simp; first | done | with_reducible rfl
  try simp only [Act.put, List.setIfInBounds_toArray, List.set_cons_zero, List.set_cons_succ]
  refine wpAnyH_ready (rs := [2]) (by kernel_rfl) (by simp) ?_
  refine (AllReadyH.cons (o := { dst := some 20, op := Op.call { callee := Callee.value (Operand.func 25), args := #[Operand.tmp 19], argTypes := #[24] }, type := 34, pos := "net.go:155", after := #[{ on := 1, ground := Ground.data }], guard := none }) rfl (fun K hK => ?_) AllReadyH.nil)
  go_simp
  refine (queue_q Ma A ca ga qa na _ HQA.out HNA.out (HA.out.keptNone (drewl (World.grownBy.refl _ _))) hba HLA.out).mono ?_; rintro e u1 ⟨a1, c1, vs1, rfl, hv1, hb1, h1⟩
  refine reg_next hK h1 ?_
  clear hK K
  try simp only [Act.put, List.setIfInBounds_toArray, List.set_cons_zero, List.set_cons_succ]
  refine wpAnyH_ready (rs := [4]) (by kernel_rfl) (by simp) ?_
  refine (AllReadyH.cons (o := { dst := some 22, op := Op.call { callee := Callee.value (Operand.func 25), args := #[Operand.tmp 21], argTypes := #[24] }, type := 34, pos := "net.go:155", after := #[{ on := 3, ground := Ground.data }, { on := 2, ground := Ground.chain }], guard := none }) rfl (fun K hK => ?_) AllReadyH.nil)
  go_simp
  refine (queue_q Mb B cb gb qb nb _ HQB.out HNB.out (HB.out.keptNone (drewl h1)) hbb HLB.out).mono ?_; rintro e u2 ⟨a2, c2, vs2, rfl, hv2, hb2, h2⟩
  refine reg_next hK h2 ?_
  clear hK K
  try simp only [Act.put, List.setIfInBounds_toArray, List.set_cons_zero, List.set_cons_succ]
  refine wpAnyH_ready (rs := [5]) (by kernel_rfl) (by simp) ?_
  refine (AllReadyH.cons (o := { dst := some 23, op := Op.call { callee := Callee.value (Operand.tmp 18), args := #[Operand.tmp 20, Operand.tmp 22], argTypes := #[34, 34] }, type := 4, pos := "net.go:155", after := #[{ on := 0, ground := Ground.data }, { on := 2, ground := Ground.data }, { on := 4, ground := Ground.data }, { on := 4, ground := Ground.chain }], guard := none }) rfl (fun K hK => ?_) AllReadyH.nil)
  go_simp
  have C3 := like_any a1 a2 na nb c1 c2 vs1 vs2 qa qb u2 HNQA.out HNQB.out (hv1.keptNone h2) (hb1.kept h2) hv2 hb2 hna HLQ.out; rw [HDQ.out] at C3; refine C3.mono ?_; rintro e u3 ⟨rfl, h3⟩; clear C3
  refine reg_next hK h3 ?_
  clear hK K
  try simp only [Act.put, List.setIfInBounds_toArray, List.set_cons_zero, List.set_cons_succ]
  refine reg_take 6 (some 24) (v := ?_) rfl rfl (by kernel_rfl) (by kernel_rfl) (by kernel_rfl) (fun _ _ _ h => h) (by rfl) ?_ ?_
  rotate_left
  · intro W hW; go_simp; first | done | with_reducible rfl
  try simp only [Act.put, List.setIfInBounds_toArray, List.set_cons_zero, List.set_cons_succ]
  refine reg_take 7 (some 25) (v := ?_) rfl rfl (by kernel_rfl) (by kernel_rfl) (by kernel_rfl) (fun _ _ _ h => h) (by rfl) ?_ ?_
  rotate_left
  · intro W hW; go_simp; first | done | with_reducible rfl
  try simp only [Act.put, List.setIfInBounds_toArray, List.set_cons_zero, List.set_cons_succ]
  refine reg_take 8 (some 26) (v := ?_) rfl rfl (by kernel_rfl) (by kernel_rfl) (by kernel_rfl) (fun _ _ _ h => h) (by rfl) ?_ ?_
  rotate_left
  · intro W hW; go_simp; first | done | with_reducible rfl
  try simp only [Act.put, List.setIfInBounds_toArray, List.set_cons_zero, List.set_cons_succ]
  refine reg_take 9 (some 27) (v := ?_) rfl rfl (by kernel_rfl) (by kernel_rfl) (by kernel_rfl) (fun _ _ _ h => h) (by rfl) ?_ ?_
  rotate_left
  · intro W hW; go_simp; first | done | with_reducible rfl
  try simp only [Act.put, List.setIfInBounds_toArray, List.set_cons_zero, List.set_cons_succ]
  refine reg_take 10 (some 28) (v := ?_) rfl rfl (by kernel_rfl) (by kernel_rfl) (by kernel_rfl) (fun _ _ _ h => h) (by rfl) ?_ ?_
  rotate_left
  · intro W hW; go_simp; first | done | with_reducible rfl
  try simp only [Act.put, List.setIfInBounds_toArray, List.set_cons_zero, List.set_cons_succ]
  refine reg_take 11 (some 29) (v := ?_) rfl rfl (by kernel_rfl) (by kernel_rfl) (by kernel_rfl) (fun _ _ _ h => h) (by rfl) ?_ ?_
  rotate_left
  · intro W hW; have k1 := (HA.out.nk.keptNone (drewl (h1.trans (h2.trans (h3.trans hW))))).cell 1; have k2 := k1.trans (congrArg some HSVA.out); clear k1; go_simp; first | done | with_reducible rfl
  try simp only [Act.put, List.setIfInBounds_toArray, List.set_cons_zero, List.set_cons_succ]
  refine reg_take 12 (some 30) (v := ?_) rfl rfl (by kernel_rfl) (by kernel_rfl) (by kernel_rfl) (fun _ _ _ h => h) (by rfl) ?_ ?_
  rotate_left
  · intro W hW; go_simp; first | done | with_reducible rfl
  try simp only [Act.put, List.setIfInBounds_toArray, List.set_cons_zero, List.set_cons_succ]
  refine reg_take 13 (some 31) (v := ?_) rfl rfl (by kernel_rfl) (by kernel_rfl) (by kernel_rfl) (fun _ _ _ h => h) (by rfl) ?_ ?_
  rotate_left
  · intro W hW; go_simp; first | done | with_reducible rfl
  try simp only [Act.put, List.setIfInBounds_toArray, List.set_cons_zero, List.set_cons_succ]
  refine reg_take 14 (some 32) (v := ?_) rfl rfl (by kernel_rfl) (by kernel_rfl) (by kernel_rfl) (fun _ _ _ h => h) (by rfl) ?_ ?_
  rotate_left
  · intro W hW; go_simp; first | done | with_reducible rfl
  try simp only [Act.put, List.setIfInBounds_toArray, List.set_cons_zero, List.set_cons_succ]
  refine reg_take 15 (some 33) (v := ?_) rfl rfl (by kernel_rfl) (by kernel_rfl) (by kernel_rfl) (fun _ _ _ h => h) (by rfl) ?_ ?_
  rotate_left
  · intro W hW; have k1 := (HB.out.nk.keptNone (drewl (h1.trans (h2.trans (h3.trans hW))))).cell 1; have k2 := k1.trans (congrArg some HSVB.out); clear k1; go_simp; first | done | with_reducible rfl
  try simp only [Act.put, List.setIfInBounds_toArray, List.set_cons_zero, List.set_cons_succ]
  refine wpAnyH_ready (rs := [16]) (by kernel_rfl) (by simp) ?_
  refine (AllReadyH.cons (o := { dst := some 34, op := Op.call { callee := Callee.value (Operand.tmp 25), args := #[Operand.tmp 29, Operand.tmp 33], argTypes := #[34, 34] }, type := 4, pos := "net.go:155", after := #[{ on := 7, ground := Ground.data }, { on := 11, ground := Ground.data }, { on := 15, ground := Ground.data }, { on := 6, ground := Ground.chain }, { on := 6, ground := Ground.guard }], guard := some (6, true) }) rfl (fun K hK => ?_) AllReadyH.nil)
  go_simp
  have C4 := like_any sa sb ma mb sca scb usa usb ga.sent gb.sent u3 HMA.out HMB.out (HSA.out.keptNone (drewl (h1.trans (h2.trans h3)))) (HBA.out.kept (drewl (h1.trans (h2.trans h3)))) (HSB.out.keptNone (drewl (h1.trans (h2.trans h3)))) (HBB.out.kept (drewl (h1.trans (h2.trans h3)))) hma HLS.out; rw [HDS.out] at C4; refine C4.mono ?_; rintro e u4 ⟨rfl, h4⟩; clear C4
  refine reg_next hK h4 ?_
  clear hK K
  try simp only [Act.put, List.setIfInBounds_toArray, List.set_cons_zero, List.set_cons_succ]
  refine reg_take 17 (some 35) (v := ?_) rfl rfl (by kernel_rfl) (by kernel_rfl) (by kernel_rfl) (fun _ _ _ h => h) (by rfl) ?_ ?_
  rotate_left
  · intro W hW; go_simp; first | done | with_reducible rfl
  try simp only [Act.put, List.setIfInBounds_toArray, List.set_cons_zero, List.set_cons_succ]
  refine reg_take 18 (some 36) (v := ?_) rfl rfl (by kernel_rfl) (by kernel_rfl) (by kernel_rfl) (fun _ _ _ h => h) (by rfl) ?_ ?_
  rotate_left
  · intro W hW; go_simp; first | done | with_reducible rfl
  try simp only [Act.put, List.setIfInBounds_toArray, List.set_cons_zero, List.set_cons_succ]
  refine reg_take 19 (some 37) (v := ?_) rfl rfl (by kernel_rfl) (by kernel_rfl) (by kernel_rfl) (fun _ _ _ h => h) (by rfl) ?_ ?_
  rotate_left
  · intro W hW; go_simp; first | done | with_reducible rfl
  try simp only [Act.put, List.setIfInBounds_toArray, List.set_cons_zero, List.set_cons_succ]
  refine reg_take 20 (some 38) (v := ?_) rfl rfl (by kernel_rfl) (by kernel_rfl) (by kernel_rfl) (fun _ _ _ h => h) (by rfl) ?_ ?_
  rotate_left
  · intro W hW; go_simp; first | done | with_reducible rfl
  try simp only [Act.put, List.setIfInBounds_toArray, List.set_cons_zero, List.set_cons_succ]
  refine reg_take 21 (some 39) (v := ?_) rfl rfl (by kernel_rfl) (by kernel_rfl) (by kernel_rfl) (fun _ _ _ h => h) (by rfl) ?_ ?_
  rotate_left
  · intro W hW; go_simp; first | done | with_reducible rfl
  try simp only [Act.put, List.setIfInBounds_toArray, List.set_cons_zero, List.set_cons_succ]
  refine reg_take 22 (some 40) (v := ?_) rfl rfl (by kernel_rfl) (by kernel_rfl) (by kernel_rfl) (fun _ _ _ h => h) (by rfl) ?_ ?_
  rotate_left
  · intro W hW; have k1 := (HA.out.nk.keptNone (drewl (h1.trans (h2.trans (h3.trans (h4.trans hW)))))).cell 2; have k2 := k1.trans (congrArg (fun z => some (Value.int .i64 z)) HA.out.ni); clear k1; go_simp; first | done | with_reducible rfl
  try simp only [Act.put, List.setIfInBounds_toArray, List.set_cons_zero, List.set_cons_succ]
  refine reg_take 23 (some 41) (v := ?_) rfl rfl (by kernel_rfl) (by kernel_rfl) (by kernel_rfl) (fun _ _ _ h => h) (by rfl) ?_ ?_
  rotate_left
  · intro W hW; go_simp; first | done | with_reducible rfl
  try simp only [Act.put, List.setIfInBounds_toArray, List.set_cons_zero, List.set_cons_succ]
  refine reg_take 24 (some 42) (v := ?_) rfl rfl (by kernel_rfl) (by kernel_rfl) (by kernel_rfl) (fun _ _ _ h => h) (by rfl) ?_ ?_
  rotate_left
  · intro W hW; go_simp; first | done | with_reducible rfl
  try simp only [Act.put, List.setIfInBounds_toArray, List.set_cons_zero, List.set_cons_succ]
  refine reg_take 25 (some 43) (v := ?_) rfl rfl (by kernel_rfl) (by kernel_rfl) (by kernel_rfl) (fun _ _ _ h => h) (by rfl) ?_ ?_
  rotate_left
  · intro W hW; go_simp; first | done | with_reducible rfl
  try simp only [Act.put, List.setIfInBounds_toArray, List.set_cons_zero, List.set_cons_succ]
  refine reg_take 26 (some 44) (v := ?_) rfl rfl (by kernel_rfl) (by kernel_rfl) (by kernel_rfl) (fun _ _ _ h => h) (by rfl) ?_ ?_
  rotate_left
  · intro W hW; have k1 := (HB.out.nk.keptNone (drewl (h1.trans (h2.trans (h3.trans (h4.trans hW)))))).cell 2; have k2 := k1.trans (congrArg (fun z => some (Value.int .i64 z)) HB.out.ni); clear k1; go_simp; first | done | with_reducible rfl
  try simp only [Act.put, List.setIfInBounds_toArray, List.set_cons_zero, List.set_cons_succ]
  refine reg_take 27 (some 45) (v := ?_) rfl rfl (by kernel_rfl) (by kernel_rfl) (by kernel_rfl) (fun _ _ _ h => h) (by rfl) ?_ ?_
  rotate_left
  · intro W hW; have k3 := HDT.out; go_simp; first | done | with_reducible rfl
  try simp only [Act.put, List.setIfInBounds_toArray, List.set_cons_zero, List.set_cons_succ]
  refine reg_take 28 (some 46) (v := ?_) rfl rfl (by kernel_rfl) (by kernel_rfl) (by kernel_rfl) (fun _ _ _ h => h) (by rfl) ?_ ?_
  rotate_left
  · intro W hW; go_simp; first | done | with_reducible rfl
  try simp only [Act.put, List.setIfInBounds_toArray, List.set_cons_zero, List.set_cons_succ]
  refine reg_take 29 (some 4) (v := ?_) rfl rfl (by kernel_rfl) (by kernel_rfl) (by kernel_rfl) (fun _ _ _ h => h) (by rfl) ?_ ?_
  rotate_left
  · intro W hW; go_simp; first | done | with_reducible rfl
  try simp only [Act.put, List.setIfInBounds_toArray, List.set_cons_zero, List.set_cons_succ]
  refine wpAnyH_done (by kernel_rfl) ?_ _
  have HG := Lib.hid (show w.grownBy u4 none from (drewl (h1.trans (h2.trans (h3.trans h4)))))
  clear h1 h2 h3 hv1 hb1 hv2 hb2 h4
  go_wp2
  go_ret
  exact ⟨congrArg (fun z => Ending.returned (.bool z)) HR.out, HG.out⟩
set_option maxRecDepth 100000 in
set_option maxHeartbeats 16000000 in
theorem ref_same (Ma Mb : Nat → Prop) (ra rb : Rf) (ga gb : Nh) (w : World) (hA : RS Ma w ra ga) (hB : RS Mb w rb gb) (hba : Nb ga) (hbb : Nb gb) :
    Calls Try.prog 27 #[ra.val, rb.val] w fun e w' => e = .returned (.bool (sameN ga gb)) ∧ w.grownBy w' none := by
  obtain ⟨qa, hqa⟩ : ∃ q, q = ga.came.drop ga.taken := ⟨_, rfl⟩
  obtain ⟨qb, hqb⟩ : ∃ q, q = gb.came.drop gb.taken := ⟨_, rfl⟩
  obtain ⟨na, hna'⟩ : ∃ n, n = (ga.came.drop ga.taken).length := ⟨_, rfl⟩
  obtain ⟨nb, hnb'⟩ : ∃ n, n = (gb.came.drop gb.taken).length := ⟨_, rfl⟩
  have hna : na ≤ 1000000 := by rw [hna', List.length_drop]; have := hba.came; omega
  obtain ⟨hg, x1, x2⟩ := two_new w (.cells ra.cells 40) (.cells rb.cells 40)
  have hcna := hA.cn
  have hcnb := hB.cn
  have hsna := hA.sn
  have hsnb := hB.sn
  obtain ⟨vsa, hva, hca⟩ := (hA.keptNone hg).p
  obtain ⟨vsb, hvb, hcb⟩ := (hB.keptNone hg).p
  obtain ⟨usa, hsa, hbla⟩ := (hA.keptNone hg).t
  obtain ⟨usb, hsb, hblb⟩ := (hB.keptNone hg).t
  rw [← hcna] at hva
  rw [← hcnb] at hvb
  rw [← hsna] at hsa
  rw [← hsnb] at hsb
  have HA := Lib.hid (hA.keptNone hg)
  have HB := Lib.hid (hB.keptNone hg)
  obtain ⟨pa, pna, pca, tka, sa, ma, sca⟩ := ra
  obtain ⟨pb, pnb, pcb, tkb, sb, mb, scb⟩ := rb
  simp only at hcna hcnb hsna hsnb hva hvb hsa hsb
  have hma : ma ≤ 1000000 := by rw [hsna]; have := hba.sent; omega
  have HX1 := Lib.hid (show _ from x1)
  have HX2 := Lib.hid x2
  have HG0 := Lib.hid hg
  have HQA := Lib.hid hqa
  have HQB := Lib.hid hqb
  have HNA := Lib.hid hna'
  have HNB := Lib.hid hnb'
  have HNQA := Lib.hid (show na = qa.length from by rw [hqa]; exact hna')
  have HNQB := Lib.hid (show nb = qb.length from by rw [hqb]; exact hnb')
  have HMA := Lib.hid hsna
  have HMB := Lib.hid hsnb
  have HPA := Lib.hid hcna
  have HPB := Lib.hid hcnb
  have HSA := Lib.hid hsa
  have HSB := Lib.hid hsb
  have HVA := Lib.hid hva
  have HVB := Lib.hid hvb
  have HCA := Lib.hid hca.rb
  have HCB := Lib.hid hcb.rb
  have HBA := Lib.hid hbla.rb
  have HBB := Lib.hid hblb.rb
  clear hA hB hqa hqb hna' hnb' hcna hcnb hsna hsnb hva hvb hca hcb hsa hsb hbla hblb x1 x2 hg
  by_cases hq : qa = qb
  rotate_left
  · have HDQ := Lib.hid (show decide (qa = qb) = false from by simpa using hq)
    have HR := Lib.hid (show false = sameN ga gb from by rw [sameN, ← HQA.out, ← HQB.out]; simp [hq])
    clear hq
    go_enter Try.func27, Try.ntmps27
    go_wp2
    refine reg_open (none) (n := 22) rfl (by kernel_rfl) ?_
    refine reg_take 0 (some 5) (v := ?_) rfl rfl (by kernel_rfl) (by kernel_rfl) (by kernel_rfl) (fun _ _ _ h => h) (by rfl) ?_ ?_
    rotate_left
    · intro W hW; refine exec_ld40 (x := Operand.tmp 2) ?_ ?_ (((hW).block w.heap.size (lt_of_block HX1.out) (by simp)).trans HX1.out) <;> rfl
    try simp only [Act.put, List.setIfInBounds_toArray, List.set_cons_zero, List.set_cons_succ]
    refine reg_take 2 (some 7) (v := ?_) rfl rfl (by kernel_rfl) (by kernel_rfl) (by kernel_rfl) (fun _ _ _ h => h) (by rfl) ?_ ?_
    rotate_left
    · intro W hW; refine exec_ld40 (x := Operand.tmp 3) ?_ ?_ (((hW).block (w.heap.size + 1) (lt_of_block HX2.out) (by simp)).trans HX2.out) <;> rfl
    try simp only [Act.put, List.setIfInBounds_toArray, List.set_cons_zero, List.set_cons_succ]
    refine wpAnyH_ready (rs := [1]) (by kernel_rfl) (by simp) ?_
    refine (AllReadyH.cons (o := { dst := some 6, op := Op.call { callee := Callee.value (Operand.func 35), args := #[Operand.tmp 5], argTypes := #[40] }, type := 34, pos := "ref.go:81", after := #[{ on := 0, ground := Ground.data }], guard := none }) rfl (fun K hK => ?_) AllReadyH.nil)
    go_simp
    refine (ref_queue_q Ma ⟨pa, pna, pca, tka, sa, ma, sca⟩ ga qa na _ HQA.out HNA.out (HA.out.keptNone (drewl (World.grownBy.refl _ _)))).mono ?_; rintro e u1 ⟨a1, c1, vs1, rfl, hv1, hb1, h1⟩
    refine reg_next hK h1 ?_
    clear hK K
    try simp only [Act.put, List.setIfInBounds_toArray, List.set_cons_zero, List.set_cons_succ]
    refine wpAnyH_ready (rs := [3]) (by kernel_rfl) (by simp) ?_
    refine (AllReadyH.cons (o := { dst := some 8, op := Op.call { callee := Callee.value (Operand.func 35), args := #[Operand.tmp 7], argTypes := #[40] }, type := 34, pos := "ref.go:81", after := #[{ on := 2, ground := Ground.data }, { on := 1, ground := Ground.chain }], guard := none }) rfl (fun K hK => ?_) AllReadyH.nil)
    go_simp
    refine (ref_queue_q Mb ⟨pb, pnb, pcb, tkb, sb, mb, scb⟩ gb qb nb _ HQB.out HNB.out (HB.out.keptNone (drewl h1))).mono ?_; rintro e u2 ⟨a2, c2, vs2, rfl, hv2, hb2, h2⟩
    refine reg_next hK h2 ?_
    clear hK K
    try simp only [Act.put, List.setIfInBounds_toArray, List.set_cons_zero, List.set_cons_succ]
    refine wpAnyH_ready (rs := [4]) (by kernel_rfl) (by simp) ?_
    refine (AllReadyH.cons (o := { dst := some 9, op := Op.call { callee := Callee.value (Operand.func 36), args := #[Operand.tmp 6, Operand.tmp 8], argTypes := #[34, 34] }, type := 4, pos := "ref.go:81", after := #[{ on := 1, ground := Ground.data }, { on := 3, ground := Ground.data }, { on := 3, ground := Ground.chain }], guard := none }) rfl (fun K hK => ?_) AllReadyH.nil)
    go_simp
    have C3 := same_lists a1 a2 na nb c1 c2 vs1 vs2 qa qb u2 HNQA.out HNQB.out (hv1.keptNone h2) (hb1.kept h2) hv2 hb2 hna; rw [HDQ.out] at C3; refine C3.mono ?_; rintro e u3 ⟨rfl, h3⟩; clear C3
    refine reg_next hK h3 ?_
    clear hK K
    try simp only [Act.put, List.setIfInBounds_toArray, List.set_cons_zero, List.set_cons_succ]
    refine reg_take 5 (some 10) (v := ?_) rfl rfl (by kernel_rfl) (by kernel_rfl) (by kernel_rfl) (fun _ _ _ h => h) (by rfl) ?_ ?_
    rotate_left
    · intro W hW; go_simp; first | done | with_reducible rfl
    try simp only [Act.put, List.setIfInBounds_toArray, List.set_cons_zero, List.set_cons_succ]
    refine reg_skip 6 (some 11) rfl rfl (by kernel_rfl) (by kernel_rfl) (by kernel_rfl) (fun _ _ _ h => h) (by rfl) ?_
    try simp only [Act.put, List.setIfInBounds_toArray, List.set_cons_zero, List.set_cons_succ]
    refine reg_skip 7 (some 12) rfl rfl (by kernel_rfl) (by kernel_rfl) (by kernel_rfl) (fun _ _ _ h => h) (by rfl) ?_
    try simp only [Act.put, List.setIfInBounds_toArray, List.set_cons_zero, List.set_cons_succ]
    refine reg_skip 8 (some 13) rfl rfl (by kernel_rfl) (by kernel_rfl) (by kernel_rfl) (fun _ _ _ h => h) (by rfl) ?_
    try simp only [Act.put, List.setIfInBounds_toArray, List.set_cons_zero, List.set_cons_succ]
    refine reg_skip 9 (some 14) rfl rfl (by kernel_rfl) (by kernel_rfl) (by kernel_rfl) (fun _ _ _ h => h) (by rfl) ?_
    try simp only [Act.put, List.setIfInBounds_toArray, List.set_cons_zero, List.set_cons_succ]
    refine reg_skip 10 (some 15) rfl rfl (by kernel_rfl) (by kernel_rfl) (by kernel_rfl) (fun _ _ _ h => h) (by rfl) ?_
    try simp only [Act.put, List.setIfInBounds_toArray, List.set_cons_zero, List.set_cons_succ]
    refine reg_take 11 (some 16) (v := ?_) rfl rfl (by kernel_rfl) (by kernel_rfl) (by kernel_rfl) (fun _ _ _ h => h) (by rfl) ?_ ?_
    rotate_left
    · intro W hW; go_simp; first | done | with_reducible rfl
    try simp only [Act.put, List.setIfInBounds_toArray, List.set_cons_zero, List.set_cons_succ]
    refine reg_take 12 (some 17) (v := ?_) rfl rfl (by kernel_rfl) (by kernel_rfl) (by kernel_rfl) (fun _ _ _ h => h) (by rfl) ?_ ?_
    rotate_left
    · intro W hW; go_simp; first | done | with_reducible rfl
    try simp only [Act.put, List.setIfInBounds_toArray, List.set_cons_zero, List.set_cons_succ]
    refine reg_skip 13 (some 18) rfl rfl (by kernel_rfl) (by kernel_rfl) (by kernel_rfl) (fun _ _ _ h => h) (by rfl) ?_
    try simp only [Act.put, List.setIfInBounds_toArray, List.set_cons_zero, List.set_cons_succ]
    refine reg_skip 14 (some 19) rfl rfl (by kernel_rfl) (by kernel_rfl) (by kernel_rfl) (fun _ _ _ h => h) (by rfl) ?_
    try simp only [Act.put, List.setIfInBounds_toArray, List.set_cons_zero, List.set_cons_succ]
    refine reg_skip 15 (some 20) rfl rfl (by kernel_rfl) (by kernel_rfl) (by kernel_rfl) (fun _ _ _ h => h) (by rfl) ?_
    try simp only [Act.put, List.setIfInBounds_toArray, List.set_cons_zero, List.set_cons_succ]
    refine reg_skip 16 (some 21) rfl rfl (by kernel_rfl) (by kernel_rfl) (by kernel_rfl) (fun _ _ _ h => h) (by rfl) ?_
    try simp only [Act.put, List.setIfInBounds_toArray, List.set_cons_zero, List.set_cons_succ]
    refine reg_skip 17 (some 22) rfl rfl (by kernel_rfl) (by kernel_rfl) (by kernel_rfl) (fun _ _ _ h => h) (by rfl) ?_
    try simp only [Act.put, List.setIfInBounds_toArray, List.set_cons_zero, List.set_cons_succ]
    refine reg_skip 18 (some 23) rfl rfl (by kernel_rfl) (by kernel_rfl) (by kernel_rfl) (fun _ _ _ h => h) (by rfl) ?_
    try simp only [Act.put, List.setIfInBounds_toArray, List.set_cons_zero, List.set_cons_succ]
    refine reg_skip 19 (some 24) rfl rfl (by kernel_rfl) (by kernel_rfl) (by kernel_rfl) (fun _ _ _ h => h) (by rfl) ?_
    try simp only [Act.put, List.setIfInBounds_toArray, List.set_cons_zero, List.set_cons_succ]
    refine reg_take 20 (some 25) (v := ?_) rfl rfl (by kernel_rfl) (by kernel_rfl) (by kernel_rfl) (fun _ _ _ h => h) (by rfl) ?_ ?_
    rotate_left
    · intro W hW; go_simp; first | done | with_reducible rfl
    try simp only [Act.put, List.setIfInBounds_toArray, List.set_cons_zero, List.set_cons_succ]
    refine reg_take 21 (some 4) (v := ?_) rfl rfl (by kernel_rfl) (by kernel_rfl) (by kernel_rfl) (fun _ _ _ h => h) (by rfl) ?_ ?_
    rotate_left
    · intro W hW; go_simp; first | done | with_reducible rfl
    try simp only [Act.put, List.setIfInBounds_toArray, List.set_cons_zero, List.set_cons_succ]
    refine wpAnyH_done (by kernel_rfl) ?_ _
    have HG := Lib.hid (show w.grownBy u3 none from HG0.out.trans (drewl (h1.trans (h2.trans h3))))
    clear h1 h2 h3 hv1 hb1 hv2 hb2
    go_wp2
    go_ret
    exact ⟨congrArg (fun z => Ending.returned (.bool z)) HR.out, HG.out⟩
  have HDQ := Lib.hid (show decide (qa = qb) = true from by simpa using hq)
  by_cases hs : ga.sent = gb.sent
  rotate_left
  · have HDS := Lib.hid (show decide (ga.sent = gb.sent) = false from by simpa using hs)
    have HR := Lib.hid (show false = sameN ga gb from by rw [sameN, ← HQA.out, ← HQB.out]; simp [hs])
    clear hq hs
    go_enter Try.func27, Try.ntmps27
    go_wp2
    refine reg_open (none) (n := 22) rfl (by kernel_rfl) ?_
    refine reg_take 0 (some 5) (v := ?_) rfl rfl (by kernel_rfl) (by kernel_rfl) (by kernel_rfl) (fun _ _ _ h => h) (by rfl) ?_ ?_
    rotate_left
    · intro W hW; refine exec_ld40 (x := Operand.tmp 2) ?_ ?_ (((hW).block w.heap.size (lt_of_block HX1.out) (by simp)).trans HX1.out) <;> rfl
    try simp only [Act.put, List.setIfInBounds_toArray, List.set_cons_zero, List.set_cons_succ]
    refine reg_take 2 (some 7) (v := ?_) rfl rfl (by kernel_rfl) (by kernel_rfl) (by kernel_rfl) (fun _ _ _ h => h) (by rfl) ?_ ?_
    rotate_left
    · intro W hW; refine exec_ld40 (x := Operand.tmp 3) ?_ ?_ (((hW).block (w.heap.size + 1) (lt_of_block HX2.out) (by simp)).trans HX2.out) <;> rfl
    try simp only [Act.put, List.setIfInBounds_toArray, List.set_cons_zero, List.set_cons_succ]
    refine wpAnyH_ready (rs := [1]) (by kernel_rfl) (by simp) ?_
    refine (AllReadyH.cons (o := { dst := some 6, op := Op.call { callee := Callee.value (Operand.func 35), args := #[Operand.tmp 5], argTypes := #[40] }, type := 34, pos := "ref.go:81", after := #[{ on := 0, ground := Ground.data }], guard := none }) rfl (fun K hK => ?_) AllReadyH.nil)
    go_simp
    refine (ref_queue_q Ma ⟨pa, pna, pca, tka, sa, ma, sca⟩ ga qa na _ HQA.out HNA.out (HA.out.keptNone (drewl (World.grownBy.refl _ _)))).mono ?_; rintro e u1 ⟨a1, c1, vs1, rfl, hv1, hb1, h1⟩
    refine reg_next hK h1 ?_
    clear hK K
    try simp only [Act.put, List.setIfInBounds_toArray, List.set_cons_zero, List.set_cons_succ]
    refine wpAnyH_ready (rs := [3]) (by kernel_rfl) (by simp) ?_
    refine (AllReadyH.cons (o := { dst := some 8, op := Op.call { callee := Callee.value (Operand.func 35), args := #[Operand.tmp 7], argTypes := #[40] }, type := 34, pos := "ref.go:81", after := #[{ on := 2, ground := Ground.data }, { on := 1, ground := Ground.chain }], guard := none }) rfl (fun K hK => ?_) AllReadyH.nil)
    go_simp
    refine (ref_queue_q Mb ⟨pb, pnb, pcb, tkb, sb, mb, scb⟩ gb qb nb _ HQB.out HNB.out (HB.out.keptNone (drewl h1))).mono ?_; rintro e u2 ⟨a2, c2, vs2, rfl, hv2, hb2, h2⟩
    refine reg_next hK h2 ?_
    clear hK K
    try simp only [Act.put, List.setIfInBounds_toArray, List.set_cons_zero, List.set_cons_succ]
    refine wpAnyH_ready (rs := [4]) (by kernel_rfl) (by simp) ?_
    refine (AllReadyH.cons (o := { dst := some 9, op := Op.call { callee := Callee.value (Operand.func 36), args := #[Operand.tmp 6, Operand.tmp 8], argTypes := #[34, 34] }, type := 4, pos := "ref.go:81", after := #[{ on := 1, ground := Ground.data }, { on := 3, ground := Ground.data }, { on := 3, ground := Ground.chain }], guard := none }) rfl (fun K hK => ?_) AllReadyH.nil)
    go_simp
    have C3 := same_lists a1 a2 na nb c1 c2 vs1 vs2 qa qb u2 HNQA.out HNQB.out (hv1.keptNone h2) (hb1.kept h2) hv2 hb2 hna; rw [HDQ.out] at C3; refine C3.mono ?_; rintro e u3 ⟨rfl, h3⟩; clear C3
    refine reg_next hK h3 ?_
    clear hK K
    try simp only [Act.put, List.setIfInBounds_toArray, List.set_cons_zero, List.set_cons_succ]
    refine reg_take 5 (some 10) (v := ?_) rfl rfl (by kernel_rfl) (by kernel_rfl) (by kernel_rfl) (fun _ _ _ h => h) (by rfl) ?_ ?_
    rotate_left
    · intro W hW; go_simp; first | done | with_reducible rfl
    try simp only [Act.put, List.setIfInBounds_toArray, List.set_cons_zero, List.set_cons_succ]
    refine reg_take 6 (some 11) (v := ?_) rfl rfl (by kernel_rfl) (by kernel_rfl) (by kernel_rfl) (fun _ _ _ h => h) (by rfl) ?_ ?_
    rotate_left
    · intro W hW; go_simp; first | done | with_reducible rfl
    try simp only [Act.put, List.setIfInBounds_toArray, List.set_cons_zero, List.set_cons_succ]
    refine reg_take 7 (some 12) (v := ?_) rfl rfl (by kernel_rfl) (by kernel_rfl) (by kernel_rfl) (fun _ _ _ h => h) (by rfl) ?_ ?_
    rotate_left
    · intro W hW; have k1 := cells_all ((((h1.trans (h2.trans (h3.trans hW)))).block w.heap.size (lt_of_block HX1.out) (by simp)).trans HX1.out) 2; go_simp; first | done | with_reducible rfl
    try simp only [Act.put, List.setIfInBounds_toArray, List.set_cons_zero, List.set_cons_succ]
    refine reg_take 8 (some 13) (v := ?_) rfl rfl (by kernel_rfl) (by kernel_rfl) (by kernel_rfl) (fun _ _ _ h => h) (by rfl) ?_ ?_
    rotate_left
    · intro W hW; go_simp; first | done | with_reducible rfl
    try simp only [Act.put, List.setIfInBounds_toArray, List.set_cons_zero, List.set_cons_succ]
    refine reg_take 9 (some 14) (v := ?_) rfl rfl (by kernel_rfl) (by kernel_rfl) (by kernel_rfl) (fun _ _ _ h => h) (by rfl) ?_ ?_
    rotate_left
    · intro W hW; have k1 := cells_all ((((h1.trans (h2.trans (h3.trans hW)))).block (w.heap.size + 1) (lt_of_block HX2.out) (by simp)).trans HX2.out) 2; go_simp; first | done | with_reducible rfl
    try simp only [Act.put, List.setIfInBounds_toArray, List.set_cons_zero, List.set_cons_succ]
    refine wpAnyH_ready (rs := [10]) (by kernel_rfl) (by simp) ?_
    refine (AllReadyH.cons (o := { dst := some 15, op := Op.call { callee := Callee.value (Operand.func 36), args := #[Operand.tmp 12, Operand.tmp 14], argTypes := #[34, 34] }, type := 4, pos := "ref.go:81", after := #[{ on := 7, ground := Ground.data }, { on := 9, ground := Ground.data }, { on := 5, ground := Ground.chain }, { on := 5, ground := Ground.guard }], guard := some (5, true) }) rfl (fun K hK => ?_) AllReadyH.nil)
    go_simp
    have C4 := same_lists sa sb ma mb sca scb usa usb ga.sent gb.sent u3 HMA.out HMB.out (HSA.out.keptNone (drewl (h1.trans (h2.trans h3)))) (HBA.out.kept (drewl (h1.trans (h2.trans h3)))) (HSB.out.keptNone (drewl (h1.trans (h2.trans h3)))) (HBB.out.kept (drewl (h1.trans (h2.trans h3)))) hma; rw [HDS.out] at C4; refine C4.mono ?_; rintro e u4 ⟨rfl, h4⟩; clear C4
    refine reg_next hK h4 ?_
    clear hK K
    try simp only [Act.put, List.setIfInBounds_toArray, List.set_cons_zero, List.set_cons_succ]
    refine reg_take 11 (some 16) (v := ?_) rfl rfl (by kernel_rfl) (by kernel_rfl) (by kernel_rfl) (fun _ _ _ h => h) (by rfl) ?_ ?_
    rotate_left
    · intro W hW; go_simp; first | done | with_reducible rfl
    try simp only [Act.put, List.setIfInBounds_toArray, List.set_cons_zero, List.set_cons_succ]
    refine reg_take 12 (some 17) (v := ?_) rfl rfl (by kernel_rfl) (by kernel_rfl) (by kernel_rfl) (fun _ _ _ h => h) (by rfl) ?_ ?_
    rotate_left
    · intro W hW; go_simp; first | done | with_reducible rfl
    try simp only [Act.put, List.setIfInBounds_toArray, List.set_cons_zero, List.set_cons_succ]
    refine reg_skip 13 (some 18) rfl rfl (by kernel_rfl) (by kernel_rfl) (by kernel_rfl) (fun _ _ _ h => h) (by rfl) ?_
    try simp only [Act.put, List.setIfInBounds_toArray, List.set_cons_zero, List.set_cons_succ]
    refine reg_skip 14 (some 19) rfl rfl (by kernel_rfl) (by kernel_rfl) (by kernel_rfl) (fun _ _ _ h => h) (by rfl) ?_
    try simp only [Act.put, List.setIfInBounds_toArray, List.set_cons_zero, List.set_cons_succ]
    refine reg_skip 15 (some 20) rfl rfl (by kernel_rfl) (by kernel_rfl) (by kernel_rfl) (fun _ _ _ h => h) (by rfl) ?_
    try simp only [Act.put, List.setIfInBounds_toArray, List.set_cons_zero, List.set_cons_succ]
    refine reg_skip 16 (some 21) rfl rfl (by kernel_rfl) (by kernel_rfl) (by kernel_rfl) (fun _ _ _ h => h) (by rfl) ?_
    try simp only [Act.put, List.setIfInBounds_toArray, List.set_cons_zero, List.set_cons_succ]
    refine reg_skip 17 (some 22) rfl rfl (by kernel_rfl) (by kernel_rfl) (by kernel_rfl) (fun _ _ _ h => h) (by rfl) ?_
    try simp only [Act.put, List.setIfInBounds_toArray, List.set_cons_zero, List.set_cons_succ]
    refine reg_skip 18 (some 23) rfl rfl (by kernel_rfl) (by kernel_rfl) (by kernel_rfl) (fun _ _ _ h => h) (by rfl) ?_
    try simp only [Act.put, List.setIfInBounds_toArray, List.set_cons_zero, List.set_cons_succ]
    refine reg_skip 19 (some 24) rfl rfl (by kernel_rfl) (by kernel_rfl) (by kernel_rfl) (fun _ _ _ h => h) (by rfl) ?_
    try simp only [Act.put, List.setIfInBounds_toArray, List.set_cons_zero, List.set_cons_succ]
    refine reg_take 20 (some 25) (v := ?_) rfl rfl (by kernel_rfl) (by kernel_rfl) (by kernel_rfl) (fun _ _ _ h => h) (by rfl) ?_ ?_
    rotate_left
    · intro W hW; go_simp; first | done | with_reducible rfl
    try simp only [Act.put, List.setIfInBounds_toArray, List.set_cons_zero, List.set_cons_succ]
    refine reg_take 21 (some 4) (v := ?_) rfl rfl (by kernel_rfl) (by kernel_rfl) (by kernel_rfl) (fun _ _ _ h => h) (by rfl) ?_ ?_
    rotate_left
    · intro W hW; go_simp; first | done | with_reducible rfl
    try simp only [Act.put, List.setIfInBounds_toArray, List.set_cons_zero, List.set_cons_succ]
    refine wpAnyH_done (by kernel_rfl) ?_ _
    have HG := Lib.hid (show w.grownBy u4 none from HG0.out.trans (drewl (h1.trans (h2.trans (h3.trans h4)))))
    clear h1 h2 h3 hv1 hb1 hv2 hb2 h4
    go_wp2
    go_ret
    exact ⟨congrArg (fun z => Ending.returned (.bool z)) HR.out, HG.out⟩
  have HDS := Lib.hid (show decide (ga.sent = gb.sent) = true from by simpa using hs)
  obtain ⟨dt, hdt⟩ : ∃ dt, ((tot ga.came : Int) == (tot gb.came : Nat)) = dt := ⟨_, rfl⟩
  have HDT := Lib.hid hdt
  have HR := Lib.hid (show dt = sameN ga gb from by
    rw [sameN, ← HQA.out, ← HQB.out, ← hdt]
    simp only [hq, hs, decide_true, Bool.true_and]
    rw [Bool.eq_iff_iff]
    simp only [beq_iff_eq, decide_eq_true_eq]
    omega)
  clear hq hs hdt
  go_enter Try.func27, Try.ntmps27
  go_wp2
  refine reg_open (none) (n := 22) rfl (by kernel_rfl) ?_
  refine reg_take 0 (some 5) (v := ?_) rfl rfl (by kernel_rfl) (by kernel_rfl) (by kernel_rfl) (fun _ _ _ h => h) (by rfl) ?_ ?_
  rotate_left
  · intro W hW; refine exec_ld40 (x := Operand.tmp 2) ?_ ?_ (((hW).block w.heap.size (lt_of_block HX1.out) (by simp)).trans HX1.out) <;> rfl
  try simp only [Act.put, List.setIfInBounds_toArray, List.set_cons_zero, List.set_cons_succ]
  refine reg_take 2 (some 7) (v := ?_) rfl rfl (by kernel_rfl) (by kernel_rfl) (by kernel_rfl) (fun _ _ _ h => h) (by rfl) ?_ ?_
  rotate_left
  · intro W hW; refine exec_ld40 (x := Operand.tmp 3) ?_ ?_ (((hW).block (w.heap.size + 1) (lt_of_block HX2.out) (by simp)).trans HX2.out) <;> rfl
  try simp only [Act.put, List.setIfInBounds_toArray, List.set_cons_zero, List.set_cons_succ]
  refine wpAnyH_ready (rs := [1]) (by kernel_rfl) (by simp) ?_
  refine (AllReadyH.cons (o := { dst := some 6, op := Op.call { callee := Callee.value (Operand.func 35), args := #[Operand.tmp 5], argTypes := #[40] }, type := 34, pos := "ref.go:81", after := #[{ on := 0, ground := Ground.data }], guard := none }) rfl (fun K hK => ?_) AllReadyH.nil)
  go_simp
  refine (ref_queue_q Ma ⟨pa, pna, pca, tka, sa, ma, sca⟩ ga qa na _ HQA.out HNA.out (HA.out.keptNone (drewl (World.grownBy.refl _ _)))).mono ?_; rintro e u1 ⟨a1, c1, vs1, rfl, hv1, hb1, h1⟩
  refine reg_next hK h1 ?_
  clear hK K
  try simp only [Act.put, List.setIfInBounds_toArray, List.set_cons_zero, List.set_cons_succ]
  refine wpAnyH_ready (rs := [3]) (by kernel_rfl) (by simp) ?_
  refine (AllReadyH.cons (o := { dst := some 8, op := Op.call { callee := Callee.value (Operand.func 35), args := #[Operand.tmp 7], argTypes := #[40] }, type := 34, pos := "ref.go:81", after := #[{ on := 2, ground := Ground.data }, { on := 1, ground := Ground.chain }], guard := none }) rfl (fun K hK => ?_) AllReadyH.nil)
  go_simp
  refine (ref_queue_q Mb ⟨pb, pnb, pcb, tkb, sb, mb, scb⟩ gb qb nb _ HQB.out HNB.out (HB.out.keptNone (drewl h1))).mono ?_; rintro e u2 ⟨a2, c2, vs2, rfl, hv2, hb2, h2⟩
  refine reg_next hK h2 ?_
  clear hK K
  try simp only [Act.put, List.setIfInBounds_toArray, List.set_cons_zero, List.set_cons_succ]
  refine wpAnyH_ready (rs := [4]) (by kernel_rfl) (by simp) ?_
  refine (AllReadyH.cons (o := { dst := some 9, op := Op.call { callee := Callee.value (Operand.func 36), args := #[Operand.tmp 6, Operand.tmp 8], argTypes := #[34, 34] }, type := 4, pos := "ref.go:81", after := #[{ on := 1, ground := Ground.data }, { on := 3, ground := Ground.data }, { on := 3, ground := Ground.chain }], guard := none }) rfl (fun K hK => ?_) AllReadyH.nil)
  go_simp
  have C3 := same_lists a1 a2 na nb c1 c2 vs1 vs2 qa qb u2 HNQA.out HNQB.out (hv1.keptNone h2) (hb1.kept h2) hv2 hb2 hna; rw [HDQ.out] at C3; refine C3.mono ?_; rintro e u3 ⟨rfl, h3⟩; clear C3
  refine reg_next hK h3 ?_
  clear hK K
  try simp only [Act.put, List.setIfInBounds_toArray, List.set_cons_zero, List.set_cons_succ]
  refine reg_take 5 (some 10) (v := ?_) rfl rfl (by kernel_rfl) (by kernel_rfl) (by kernel_rfl) (fun _ _ _ h => h) (by rfl) ?_ ?_
  rotate_left
  · intro W hW; go_simp; first | done | with_reducible rfl
  try simp only [Act.put, List.setIfInBounds_toArray, List.set_cons_zero, List.set_cons_succ]
  refine reg_take 6 (some 11) (v := ?_) rfl rfl (by kernel_rfl) (by kernel_rfl) (by kernel_rfl) (fun _ _ _ h => h) (by rfl) ?_ ?_
  rotate_left
  · intro W hW; go_simp; first | done | with_reducible rfl
  try simp only [Act.put, List.setIfInBounds_toArray, List.set_cons_zero, List.set_cons_succ]
  refine reg_take 7 (some 12) (v := ?_) rfl rfl (by kernel_rfl) (by kernel_rfl) (by kernel_rfl) (fun _ _ _ h => h) (by rfl) ?_ ?_
  rotate_left
  · intro W hW; have k1 := cells_all ((((h1.trans (h2.trans (h3.trans hW)))).block w.heap.size (lt_of_block HX1.out) (by simp)).trans HX1.out) 2; go_simp; first | done | with_reducible rfl
  try simp only [Act.put, List.setIfInBounds_toArray, List.set_cons_zero, List.set_cons_succ]
  refine reg_take 8 (some 13) (v := ?_) rfl rfl (by kernel_rfl) (by kernel_rfl) (by kernel_rfl) (fun _ _ _ h => h) (by rfl) ?_ ?_
  rotate_left
  · intro W hW; go_simp; first | done | with_reducible rfl
  try simp only [Act.put, List.setIfInBounds_toArray, List.set_cons_zero, List.set_cons_succ]
  refine reg_take 9 (some 14) (v := ?_) rfl rfl (by kernel_rfl) (by kernel_rfl) (by kernel_rfl) (fun _ _ _ h => h) (by rfl) ?_ ?_
  rotate_left
  · intro W hW; have k1 := cells_all ((((h1.trans (h2.trans (h3.trans hW)))).block (w.heap.size + 1) (lt_of_block HX2.out) (by simp)).trans HX2.out) 2; go_simp; first | done | with_reducible rfl
  try simp only [Act.put, List.setIfInBounds_toArray, List.set_cons_zero, List.set_cons_succ]
  refine wpAnyH_ready (rs := [10]) (by kernel_rfl) (by simp) ?_
  refine (AllReadyH.cons (o := { dst := some 15, op := Op.call { callee := Callee.value (Operand.func 36), args := #[Operand.tmp 12, Operand.tmp 14], argTypes := #[34, 34] }, type := 4, pos := "ref.go:81", after := #[{ on := 7, ground := Ground.data }, { on := 9, ground := Ground.data }, { on := 5, ground := Ground.chain }, { on := 5, ground := Ground.guard }], guard := some (5, true) }) rfl (fun K hK => ?_) AllReadyH.nil)
  go_simp
  have C4 := same_lists sa sb ma mb sca scb usa usb ga.sent gb.sent u3 HMA.out HMB.out (HSA.out.keptNone (drewl (h1.trans (h2.trans h3)))) (HBA.out.kept (drewl (h1.trans (h2.trans h3)))) (HSB.out.keptNone (drewl (h1.trans (h2.trans h3)))) (HBB.out.kept (drewl (h1.trans (h2.trans h3)))) hma; rw [HDS.out] at C4; refine C4.mono ?_; rintro e u4 ⟨rfl, h4⟩; clear C4
  refine reg_next hK h4 ?_
  clear hK K
  try simp only [Act.put, List.setIfInBounds_toArray, List.set_cons_zero, List.set_cons_succ]
  refine reg_take 11 (some 16) (v := ?_) rfl rfl (by kernel_rfl) (by kernel_rfl) (by kernel_rfl) (fun _ _ _ h => h) (by rfl) ?_ ?_
  rotate_left
  · intro W hW; go_simp; first | done | with_reducible rfl
  try simp only [Act.put, List.setIfInBounds_toArray, List.set_cons_zero, List.set_cons_succ]
  refine reg_take 12 (some 17) (v := ?_) rfl rfl (by kernel_rfl) (by kernel_rfl) (by kernel_rfl) (fun _ _ _ h => h) (by rfl) ?_ ?_
  rotate_left
  · intro W hW; go_simp; first | done | with_reducible rfl
  try simp only [Act.put, List.setIfInBounds_toArray, List.set_cons_zero, List.set_cons_succ]
  refine reg_take 13 (some 18) (v := ?_) rfl rfl (by kernel_rfl) (by kernel_rfl) (by kernel_rfl) (fun _ _ _ h => h) (by rfl) ?_ ?_
  rotate_left
  · intro W hW; go_simp; first | done | with_reducible rfl
  try simp only [Act.put, List.setIfInBounds_toArray, List.set_cons_zero, List.set_cons_succ]
  refine reg_take 14 (some 19) (v := ?_) rfl rfl (by kernel_rfl) (by kernel_rfl) (by kernel_rfl) (fun _ _ _ h => h) (by rfl) ?_ ?_
  rotate_left
  · intro W hW; have k1 := cells_all ((((h1.trans (h2.trans (h3.trans (h4.trans hW))))).block w.heap.size (lt_of_block HX1.out) (by simp)).trans HX1.out) 0; go_simp; first | done | with_reducible rfl
  try simp only [Act.put, List.setIfInBounds_toArray, List.set_cons_zero, List.set_cons_succ]
  refine reg_take 16 (some 21) (v := ?_) rfl rfl (by kernel_rfl) (by kernel_rfl) (by kernel_rfl) (fun _ _ _ h => h) (by rfl) ?_ ?_
  rotate_left
  · intro W hW; go_simp; first | done | with_reducible rfl
  try simp only [Act.put, List.setIfInBounds_toArray, List.set_cons_zero, List.set_cons_succ]
  refine reg_take 17 (some 22) (v := ?_) rfl rfl (by kernel_rfl) (by kernel_rfl) (by kernel_rfl) (fun _ _ _ h => h) (by rfl) ?_ ?_
  rotate_left
  · intro W hW; have k1 := cells_all ((((h1.trans (h2.trans (h3.trans (h4.trans hW))))).block (w.heap.size + 1) (lt_of_block HX2.out) (by simp)).trans HX2.out) 0; go_simp; first | done | with_reducible rfl
  try simp only [Act.put, List.setIfInBounds_toArray, List.set_cons_zero, List.set_cons_succ]
  refine wpAnyH_ready (rs := [15]) (by kernel_rfl) (by simp) ?_
  refine (AllReadyH.cons (o := { dst := some 20, op := Op.call { callee := Callee.value (Operand.func 37), args := #[Operand.tmp 19], argTypes := #[34] }, type := 3, pos := "ref.go:81", after := #[{ on := 14, ground := Ground.data }, { on := 12, ground := Ground.chain }, { on := 12, ground := Ground.guard }], guard := some (12, true) }) rfl (fun K hK => ?_) AllReadyH.nil)
  go_simp
  refine (bytes_n pa pna pca vsa ga.came _ HPA.out (HVA.out.keptNone (drewl (h1.trans (h2.trans (h3.trans h4))))) (HCA.out.kept (drewl (h1.trans (h2.trans (h3.trans h4))))) hba.came hba.tc).mono ?_; rintro e w' ⟨rfl, rfl⟩
  refine reg_same hK ?_
  clear hK K
  try simp only [Act.put, List.setIfInBounds_toArray, List.set_cons_zero, List.set_cons_succ]
  refine wpAnyH_ready (rs := [18]) (by kernel_rfl) (by simp) ?_
  refine (AllReadyH.cons (o := { dst := some 23, op := Op.call { callee := Callee.value (Operand.func 37), args := #[Operand.tmp 22], argTypes := #[34] }, type := 3, pos := "ref.go:81", after := #[{ on := 17, ground := Ground.data }, { on := 15, ground := Ground.chain }, { on := 12, ground := Ground.guard }], guard := some (12, true) }) rfl (fun K hK => ?_) AllReadyH.nil)
  go_simp
  refine (bytes_n pb pnb pcb vsb gb.came _ HPB.out (HVB.out.keptNone (drewl (h1.trans (h2.trans (h3.trans h4))))) (HCB.out.kept (drewl (h1.trans (h2.trans (h3.trans h4))))) hbb.came hbb.tc).mono ?_; rintro e w' ⟨rfl, rfl⟩
  refine reg_same hK ?_
  clear hK K
  try simp only [Act.put, List.setIfInBounds_toArray, List.set_cons_zero, List.set_cons_succ]
  refine reg_take 19 (some 24) (v := ?_) rfl rfl (by kernel_rfl) (by kernel_rfl) (by kernel_rfl) (fun _ _ _ h => h) (by rfl) ?_ ?_
  rotate_left
  · intro W hW; have k3 := HDT.out; go_simp; first | done | with_reducible rfl
  try simp only [Act.put, List.setIfInBounds_toArray, List.set_cons_zero, List.set_cons_succ]
  refine reg_take 20 (some 25) (v := ?_) rfl rfl (by kernel_rfl) (by kernel_rfl) (by kernel_rfl) (fun _ _ _ h => h) (by rfl) ?_ ?_
  rotate_left
  · intro W hW; go_simp; first | done | with_reducible rfl
  try simp only [Act.put, List.setIfInBounds_toArray, List.set_cons_zero, List.set_cons_succ]
  refine reg_take 21 (some 4) (v := ?_) rfl rfl (by kernel_rfl) (by kernel_rfl) (by kernel_rfl) (fun _ _ _ h => h) (by rfl) ?_ ?_
  rotate_left
  · intro W hW; go_simp; first | done | with_reducible rfl
  try simp only [Act.put, List.setIfInBounds_toArray, List.set_cons_zero, List.set_cons_succ]
  refine wpAnyH_done (by kernel_rfl) ?_ _
  have HG := Lib.hid (show w.grownBy u4 none from HG0.out.trans (drewl (h1.trans (h2.trans (h3.trans h4)))))
  clear h1 h2 h3 hv1 hb1 hv2 hb2 h4
  go_wp2
  go_ret
  exact ⟨congrArg (fun z => Ending.returned (.bool z)) HR.out, HG.out⟩
end Go.Proofs.Ytnglbneefkdfgaa
