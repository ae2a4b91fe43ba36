import Derived.Test.YtnglbneefkdfgaaD
set_option linter.unusedVariables false
namespace Go.Proofs.Ytnglbneefkdfgaa
open Go.RowKit
theorem push_nil (xa : Option Addr) (xcap : Nat) (m : Nat) (w : World) : Calls Try.prog 11 #[.pointer none, .slice xa m xcap] w fun e w' => e = .returned (.tuple #[.int .i64 0, .int .i64 1]) ∧ w = w' := by
  go_enter Try.func11, Try.ntmps11
  go_wp2_with fail
  refine (waits_nil _).mono ?_; rintro e w' ⟨rfl, rfl⟩
  go_wp2_with fail
  refine (refused_nil xa m xcap 0 _).mono ?_; rintro e w' ⟨rfl, rfl⟩
  go_wp2
  go_ret2
  exact ⟨rfl, rfl⟩
theorem push_refused (B : Nat) (c : Nc) (n : Nat) (vs : List Value) (xa : Option Addr) (xcap : Nat) (m : Nat) (w : World) (h : Nk w B c) (hW : Gs eP w c.wv n vs) (hr : 256 ≤ n ∨ 64 < m) : Calls Try.prog 11 #[.pointer (some ⟨B, 0, none⟩), .slice xa m xcap] w fun e w' => e = .returned (.tuple #[.int .i64 0, .int .i64 3]) ∧ w = w' := by
  have CW := waits_nk B c n vs w h hW
  have CR : Calls Try.prog 29 #[.pointer (some ⟨B, 0, none⟩), .slice xa m xcap, .int .i64 (n : Nat)] w fun e w' => e = .returned (.int .i64 3) ∧ w = w' := by
    rcases Nat.lt_or_ge n 256 with hn | hn
    · exact refused_long B c xa m xcap n hn (by omega) w h
    · exact refused_many B c xa m xcap n hn w h
  clear h hW hr
  go_enter Try.func11, Try.ntmps11
  go_wp2_with fail
  refine CW.mono ?_; rintro e w' ⟨rfl, rfl⟩
  go_wp2_with fail
  refine CR.mono ?_; rintro e w' ⟨rfl, rfl⟩
  go_wp2
  go_ret2
  exact ⟨rfl, rfl⟩
theorem send_nil (xa : Option Addr) (xcap : Nat) (m : Nat) (w : World) : Calls Try.prog 17 #[.pointer none, .slice xa m xcap] w fun e w' => e = .returned (.tuple #[.int .i64 0, .int .i64 1]) ∧ w = w' := by
  go_enter Try.func17, Try.ntmps17
  go_wp2_with fail
  refine (refused_nil xa m xcap 0 _).mono ?_; rintro e w' ⟨rfl, rfl⟩
  go_wp2
  go_ret2
  exact ⟨rfl, rfl⟩
theorem send_refused (B : Nat) (c : Nc) (xa : Option Addr) (xcap : Nat) (m : Nat) (w : World) (h : Nk w B c) (hr : 64 < m) : Calls Try.prog 17 #[.pointer (some ⟨B, 0, none⟩), .slice xa m xcap] w fun e w' => e = .returned (.tuple #[.int .i64 0, .int .i64 3]) ∧ w = w' := by
  have CR := refused_long B c xa m xcap 0 (by omega) hr w h
  clear h hr
  go_enter Try.func17, Try.ntmps17
  go_wp2_with fail
  refine CR.mono ?_; rintro e w' ⟨rfl, rfl⟩
  go_wp2
  go_ret2
  exact ⟨rfl, rfl⟩
theorem src_ls {w : World} {a : Option Addr} {n c : Nat} {t : TypeId} (h : (w.alloc (.cells #[.slice a n c] t)).heap[w.heap.size]? = some (.cells #[.slice a n c] t (0, 0))) : Go.Src Try.prog 1 34 (.slice (some ⟨w.heap.size, 0, none⟩) 1 1) 1 [.slice a n c] (w.alloc (.cells #[.slice a n c] t)) :=
  Go.Src.ofSlice _ Try.underlying34 ⟨w.heap.size, 0, none⟩ 1 1 _ rfl (fun j u hj => by
    rw [Addr.add_lit, cells_all h]
    simpa using hj) (by simp [Value.oneCell'])
theorem send_post (M : Nat → Prop) (B : Nat) (c : Nc) (g : Nh) (w : World) (h : NS M w B c g) (hMB : ∀ k, M k → k < w.heap.size) (bs : List UInt8) (n : Nat) (vs : List Value) (hn : n = g.sent.length) (hq : Gs eL w c.sv n vs) (hpk : BL M w vs g.sent)
    (u1 u2 w3 : World) (a1 : Option Addr) (c1 : Nat) (hv1 : Gs eB u1 (.slice a1 bs.length c1) bs.length (bsV bs)) (n1 : ∀ k, rowOf (.slice a1 bs.length c1) = some k → w.heap.size ≤ k) (h1 : w.grownBy u1 none) (h2 : u1.grownBy u2 none) (v' : Value)
    (hQ3 : Gs eL w3 v' (n + 1) (vs ++ [.slice a1 bs.length c1])) (h3 : u2.grownBy w3 (rowOf c.sv)) (hr : rowOf v' = rowOf c.sv ∨ rowOf v' = some u2.heap.size) :
    LPost M w ((w3.setCell ⟨B, 1, none⟩ v').setCell ⟨B, 3, none⟩ (.int .i64 ((tot g.sent : Nat) + (bs.length : Nat)))) B c { c with sv := v', nout := (tot g.sent : Nat) + (bs.length : Nat) } { g with sent := g.sent ++ [bs] } := by
  have htk := h.tk
  have hlt := h.lt
  have hsz1 := h1.size
  have hsz2 := h2.size
  have hneB : rowOf c.sv ≠ some B := hq.ne h.nk.blk (by decide)
  have hnk3 : Nk w3 B c := ((h.nk.keptNone h1).keptNone h2).kept h3 (fun e => hneB e.symm)
  have hnk4 := hnk3.set (c' := { c with sv := v' }) 1 v' rfl
  have hnk5 := hnk4.set (c' := { c with sv := v', nout := (tot g.sent : Nat) + (bs.length : Nat) }) 3 (.int .i64 ((tot g.sent : Nat) + (bs.length : Nat))) rfl
  have hgB : w3.grownBy ((w3.setCell ⟨B, 1, none⟩ v').setCell ⟨B, 3, none⟩ (.int .i64 ((tot g.sent : Nat) + (bs.length : Nat)))) (some B) := (grown_setCell w3 B 1 v').trans (grown_setCell _ B 3 _)
  have hkB : Keeps (fun k => k = B) w3 ((w3.setCell ⟨B, 1, none⟩ v').setCell ⟨B, 3, none⟩ (.int .i64 ((tot g.sent : Nat) + (bs.length : Nat)))) := Keeps.row hgB rfl
  have hk3 : Keeps (own c B) w w3 := (Keeps.keep (h1.trans h2)).trans (Keeps.of h3 (fun r e => .inr (.inr e)))
  have hkp : Keeps (own c B) w ((w3.setCell ⟨B, 1, none⟩ v').setCell ⟨B, 3, none⟩ (.int .i64 ((tot g.sent : Nat) + (bs.length : Nat)))) := hk3.trans (hkB.mono (fun i _ e => .inl e))
  have hkx : Keeps (fun k => k = B ∨ rowOf c.sv = some k) w ((w3.setCell ⟨B, 1, none⟩ v').setCell ⟨B, 3, none⟩ (.int .i64 ((tot g.sent : Nat) + (bs.length : Nat)))) := ((Keeps.keep (h1.trans h2)).trans (Keeps.of h3 (fun r e => .inr e))).trans (hkB.mono (fun i _ e => .inl e))
  obtain ⟨us, hs1, hs2⟩ := h.q
  have hnl : ∀ k, own { c with sv := v', nout := (tot g.sent : Nat) + (bs.length : Nat) } B k → own c B k ∨ (w.heap.size ≤ k ∧ k = u2.heap.size) := fun k hk => by
    rcases hk with h | h | h
    · exact .inl (.inl h)
    · exact .inl (.inr (.inl h))
    · rcases hr with e | e
      · exact .inl (.inr (.inr (e ▸ h)))
      · right; change rowOf v' = some k at h; rw [e] at h; cases h; exact ⟨by omega, rfl⟩
  have hm2 : ∀ k, with_ M (own { c with sv := v', nout := (tot g.sent : Nat) + (bs.length : Nat) } B) k → M k ∨ w.heap.size ≤ k := fun k hk => hk.elim .inl (fun h2 => (hnl k h2).elim (fun h3 => .inl (h.ow k h3)) (fun h3 => .inr h3.1))
  have hxo : ∀ k, k < w.heap.size → own c B k → with_ M (own { c with sv := v', nout := (tot g.sent : Nat) + (bs.length : Nat) } B) k := fun k _ hk => .inl (h.ow k hk)
  have hin : Inn (with_ M (own { c with sv := v', nout := (tot g.sent : Nat) + (bs.length : Nat) } B)) ((w3.setCell ⟨B, 1, none⟩ v').setCell ⟨B, 3, none⟩ (.int .i64 ((tot g.sent : Nat) + (bs.length : Nat)))) (.slice a1 bs.length c1) bs := by
    have hx : ∀ k, rowOf (.slice a1 bs.length c1) = some k → w.heap.size ≤ k ∧ k < u1.heap.size := fun k hk => ⟨n1 k hk, hv1.lt k hk⟩
    have hw3 : Gs eB w3 (.slice a1 bs.length c1) bs.length (bsV bs) := (hv1.keptNone h2).kept h3 (fun k hk e => by have h5 := hx k hk; have h6 := hq.lt k e.symm; omega)
    have hw5 : Gs eB ((w3.setCell ⟨B, 1, none⟩ v').setCell ⟨B, 3, none⟩ (.int .i64 ((tot g.sent : Nat) + (bs.length : Nat)))) (.slice a1 bs.length c1) bs.length (bsV bs) := hw3.keeps hkB (fun k hk e => by have h5 := hx k hk; have h6 := h.nk.lt; omega)
    refine ⟨a1, c1, rfl, hw5.toSrc, fun _ b o e hm => ?_⟩
    have h5 := hx b (by rw [e]; rfl)
    rcases hm with hm | hm
    · have := hMB b hm; omega
    · rcases hnl b hm with h6 | h6
      · have := hlt b h6; omega
      · omega
  refine ⟨⟨hnk5, h.tk, ⟨us, ?_, ?_⟩, ⟨vs ++ [.slice a1 bs.length c1], ?_, ?_⟩, h.ni, ?_, fun k hk => .inr hk⟩, hkp, fun k hk => (hnl k hk).imp id (fun h => h.1)⟩
  · exact hs1.keeps hkx (fun k hk e => by
      rcases e with e | e
      · exact hs1.ne h.nk.blk (by decide) (e ▸ hk)
      · obtain ⟨cs, hcs⟩ := hq.block k e
        exact hs1.ne hcs (by decide) hk)
  · exact (hs2.more hm2).keeps hkp hxo
  · have := hQ3.keeps hkB (fun k hk e => hQ3.ne hnk3.blk (by decide) (e ▸ hk))
    rwa [show n + 1 = (g.sent ++ [bs]).length from by simp; omega] at this
  · exact ((hpk.more hm2).keeps hkp hxo).snoc hin
  · simp [tot_append, tot_one]
set_option maxHeartbeats 8000000 in
theorem send_ok (M : Nat → Prop) (B : Nat) (c : Nc) (g : Nh) (w : World) (h : NS M w B c g) (hMB : ∀ k, M k → k < w.heap.size) (xa : Option Addr) (xcap : Nat) (bs : List UInt8) (hx : Go.Proofs.Ytnglbneefkdfgaa.Src w xa bs) (hm : bs.length ≤ 64) (hk : g.sent.length < 1000000) (hbd : tot g.sent + bs.length ≤ 1000000000) :
    Calls Try.prog 17 #[.pointer (some ⟨B, 0, none⟩), .slice xa bs.length xcap] w fun e w' => e = .returned (.tuple #[.int .i64 (tot g.sent : Nat), .int .i64 0]) ∧ ∃ c', LPost M w w' B c c' { g with sent := g.sent ++ [bs] } := by
  obtain ⟨vs, hq, hpk⟩ := h.s
  obtain ⟨n, hn⟩ : ∃ n, n = g.sent.length := ⟨_, rfl⟩
  rw [← hn] at hq
  have hn256 : n < 1000000 := by omega
  obtain ⟨qa, qcap, hqv, _⟩ := hq.shape
  have CR := refused_ok B c xa bs.length xcap 0 (by omega) hm w h.nk
  have HQ0 := Lib.hid hq
  have HQ := Lib.hid (hqv ▸ hq)
  have HQV := Lib.hid hqv
  have HN := Lib.hid hn
  have HPK := Lib.hid hpk
  have HNS := Lib.hid h
  have HMB := Lib.hid hMB
  have HXS := Lib.hid (show Go.Src Try.prog 1 22 (.slice xa bs.length xcap) bs.length (bsV bs) w.drew from src_go (show Go.Proofs.Ytnglbneefkdfgaa.Src w.drew xa bs from hx))
  have HC0 := Lib.hid (show w.drew.cell? ⟨B, 1, none⟩ = some (.slice qa n qcap) from (h.nk.cell 1).trans (congrArg some hqv))
  have k3' : w.cell? ⟨B, 3, none⟩ = some (.int .i64 (tot g.sent : Nat)) := (h.nk.cell 3).trans (congrArg (fun z => some (Value.int .i64 z)) h.no)
  have hwr : IntKind.i64.wrap ((tot g.sent : Nat) + (bs.length : Nat)) = ((tot g.sent : Nat) + (bs.length : Nat) : Int) := by rw [IntKind.wrap_i64]; omega
  clear h hq hpk hqv hn hMB hx hk hbd
  go_enter Try.func17, Try.ntmps17
  go_wp2_with fail
  refine CR.mono ?_; rintro e w' ⟨rfl, rfl⟩
  clear CR
  go_wp2_with fail
  apply Lib.hid
  refine regx_open (own c B) (n := 12) rfl (by kernel_rfl) ?_
  refine regx_take 0 (some 18) (v := ?_) rfl rfl (by kernel_rfl) (by kernel_rfl) (by kernel_rfl) (fun _ _ _ h => h) (by rfl) ?_ ?_
  rotate_left
  · intro W hW; go_simp; first | done | with_reducible rfl
  try simp only [Act.put, List.setIfInBounds_toArray, List.set_cons_zero, List.set_cons_succ]
  refine regx_take 1 (some 19) (v := ?_) rfl rfl (by kernel_rfl) (by kernel_rfl) (by kernel_rfl) (fun _ _ _ h => h) (by rfl) ?_ ?_
  rotate_left
  · intro W hW; go_simp; first | done | with_reducible rfl
  try simp only [Act.put, List.setIfInBounds_toArray, List.set_cons_zero, List.set_cons_succ]
  refine regx_take 2 (some 20) (v := ?_) rfl rfl (by kernel_rfl) (by kernel_rfl) (by kernel_rfl) (fun _ _ _ h => h) (by rfl) ?_ ?_
  rotate_left
  · intro W hW; go_simp; first | done | with_reducible rfl
  try simp only [Act.put, List.setIfInBounds_toArray, List.set_cons_zero, List.set_cons_succ]
  refine regx_take 3 (some 21) (v := ?_) rfl rfl (by kernel_rfl) (by kernel_rfl) (by kernel_rfl) (fun _ _ _ h => h) (by rfl) ?_ ?_
  rotate_left
  · intro W hW; go_simp; first | done | with_reducible rfl
  try simp only [Act.put, List.setIfInBounds_toArray, List.set_cons_zero, List.set_cons_succ]
  refine regx_take 5 (some 23) (v := ?_) rfl rfl (by kernel_rfl) (by kernel_rfl) (by kernel_rfl) (fun _ _ _ h => h) (by rfl) ?_ ?_
  rotate_left
  · intro W hW; go_simp; first | done | with_reducible rfl
  try simp only [Act.put, List.setIfInBounds_toArray, List.set_cons_zero, List.set_cons_succ]
  refine wpAnyH_ready (rs := [4, 6]) (by kernel_rfl) (by simp) ?_
  refine (AllReadyH.cons (o := { dst := some 22, op := Op.load 34 (Operand.tmp 21), type := 34, pos := "net.go:116", after := #[{ on := 3, ground := Ground.data }], guard := none }) rfl (fun K hK => ?_) (AllReadyH.cons (o := { dst := some 24, op := Op.call { callee := Callee.value (Operand.func 30), args := #[Operand.tmp 23], argTypes := #[22] }, type := 22, pos := "net.go:116", after := #[{ on := 5, ground := Ground.data }], guard := none }) rfl (fun K hK => ?_) AllReadyH.nil))
  · have k22 : (w.drew).cell? ⟨B, 1, none⟩ = some (.slice qa n qcap) := by first | exact HC0.out | exact (Nk.cell (HNS.out.nk.keptNone (drewl h1)) 1).trans (congrArg some HQV.out) | exact (Nk.cell ((HNS.out.nk.keptNone (drewl h1)).keptNone h2) 1).trans (congrArg some HQV.out)
    go_simp
    refine regx_same hK ?_
    clear hK K
    try simp only [Act.put, List.setIfInBounds_toArray, List.set_cons_zero, List.set_cons_succ]
    refine wpAnyH_ready (rs := [6]) (by kernel_rfl) (by simp) ?_
    refine (AllReadyH.cons (o := { dst := some 24, op := Op.call { callee := Callee.value (Operand.func 30), args := #[Operand.tmp 23], argTypes := #[22] }, type := 22, pos := "net.go:116", after := #[{ on := 5, ground := Ground.data }], guard := none }) rfl (fun K hK => ?_) AllReadyH.nil)
    go_simp
    refine (copied_b (.slice xa bs.length xcap) bs.length (bsV bs) _ HXS.out (bs_one bs) (by omega)).mono ?_; rintro e u1 ⟨v1, rfl, hv1, h1, n1⟩; obtain ⟨a1, c1, rfl, _⟩ := hv1.shape
    refine regx_next hK (Keeps.keep h1) ?_
    clear hK K
    try simp only [Act.put, List.setIfInBounds_toArray, List.set_cons_zero, List.set_cons_succ]
    refine wpAnyH_ready (rs := [7]) (by kernel_rfl) (by simp) ?_
    refine (AllReadyH.cons (o := { dst := some 25, op := Op.buildSlice 34 1 #[(0, Operand.tmp 24)], type := 34, pos := "net.go:116", after := #[{ on := 6, ground := Ground.data }], guard := none }) rfl (fun K hK => ?_) AllReadyH.nil)
    go_simp
    have hn := heap_alloc_new u1 (.cells #[.slice a1 bs.length c1] 22); have h2 := World.grownBy_alloc u1 (.cells #[.slice a1 bs.length c1] 22) none
    refine regx_next hK (Keeps.keep h2) ?_
    clear hK K
    try simp only [Act.put, List.setIfInBounds_toArray, List.set_cons_zero, List.set_cons_succ]
    refine wpAnyH_ready (rs := [8]) (by kernel_rfl) (by simp) ?_
    refine (AllReadyH.cons (o := { dst := some 26, op := Op.call { callee := Callee.builtin Builtin.append, args := #[Operand.tmp 22, Operand.tmp 25], argTypes := #[34, 34] }, type := 34, pos := "net.go:116", after := #[{ on := 4, ground := Ground.data }, { on := 7, ground := Ground.data }, { on := 6, ground := Ground.chain }], guard := none }) rfl (fun K hK => ?_) AllReadyH.nil)
    refine wp_gs eL 34 (.tmp 22) (.tmp 25) rfl (.slice qa n qcap) (.slice (some ⟨u1.heap.size, 0, none⟩) 1 1) n 1 vs [.slice a1 bs.length c1] rfl rfl ?_ ?_ ?_ ?_ ?_
    · exact (HQ.out.keptNone (drewl h1)).keptNone h2
    · exact src_ls hn
    · simp [Value.oneCell']
    · omega
    intro v' w3 hQ3 h3 hr
    refine regx_next hK (Keeps.of h3 (fun r e => by rw [← HQV.out] at e; exact .inr (.inr e))) ?_
    clear hK K
    try simp only [Act.put, List.setIfInBounds_toArray, List.set_cons_zero, List.set_cons_succ]
    refine regx_take 9 (some 27) (v := ?_) rfl rfl (by kernel_rfl) (by kernel_rfl) (by kernel_rfl) (fun _ _ _ h => h) (by rfl) ?_ ?_
    rotate_left
    · intro W hW; go_simp; first | done | with_reducible rfl
    try simp only [Act.put, List.setIfInBounds_toArray, List.set_cons_zero, List.set_cons_succ]
    refine regx_take 10 (some 28) (v := ?_) rfl rfl (by kernel_rfl) (by kernel_rfl) (by kernel_rfl) (fun _ _ _ h => h) (by rfl) ?_ ?_
    rotate_left
    · intro W hW; go_simp; first | done | with_reducible rfl
    try simp only [Act.put, List.setIfInBounds_toArray, List.set_cons_zero, List.set_cons_succ]
    refine wpAnyH_ready (rs := [11]) (by kernel_rfl) (by simp) ?_
    refine (AllReadyH.cons (o := { dst := none, op := Op.store 34 (Operand.tmp 28) (Operand.tmp 26), type := 0, pos := "net.go:116", after := #[{ on := 10, ground := Ground.data }, { on := 8, ground := Ground.data }, { on := 8, ground := Ground.chain }, { on := 0, ground := Ground.phase }, { on := 1, ground := Ground.phase }, { on := 2, ground := Ground.phase }, { on := 3, ground := Ground.phase }, { on := 4, ground := Ground.phase }, { on := 5, ground := Ground.phase }, { on := 6, ground := Ground.phase }, { on := 7, ground := Ground.phase }, { on := 8, ground := Ground.phase }], guard := none }) rfl (fun K hK => ?_) AllReadyH.nil)
    have hP := send_post M B c g w HNS.out HMB.out bs n vs HN.out HQ0.out HPK.out u1 _ w3 a1 c1 hv1 n1 (drewl h1) h2 v' hQ3 (by rw [HQV.out]; exact h3) (by rw [HQV.out]; exact hr)
    obtain ⟨a3, c3, rfl, _⟩ := hQ3.shape
    have hnk3 := ((HNS.out.nk.keptNone (drewl h1)).keptNone h2).kept h3 (fun e => (HQ.out.ne HNS.out.nk.blk (by decide)) e.symm)
    have k0 : w3.cell? ⟨B, 1, none⟩ = some (.slice qa n qcap) := (hnk3.cell 1).trans (congrArg some HQV.out)
    have f0 := hnk3.free 1
    go_simp
    refine regx_next hK (Keeps.row (grown_setCell w3 B 1 (.slice a3 (n + 1) c3)) (.inl rfl)) ?_
    clear hK K
    try simp only [Act.put]
    refine wpAnyH_done (by kernel_rfl) ?_ _
    have HP := Lib.hid hP
    have hnk4 := hnk3.set (c' := { c with sv := .slice a3 (n + 1) c3 }) 1 (.slice a3 (n + 1) c3) rfl
    have k3 : (w3.setCell ⟨B, 1, none⟩ (.slice a3 (n + 1) c3)).cell? ⟨B, 3, none⟩ = some (.int .i64 (tot g.sent : Nat)) := (hnk4.cell 3).trans (congrArg (fun z => some (Value.int .i64 z)) HNS.out.no)
    have f3 := hnk4.free 3
    clear hn h1 h2 h3 hv1 n1 hQ3 hr hP hnk3 hnk4 k0 f0
    go_wp2
    go_ret2
    exact ⟨rfl, _, HP.out⟩
  · go_simp
    refine (copied_b (.slice xa bs.length xcap) bs.length (bsV bs) _ HXS.out (bs_one bs) (by omega)).mono ?_; rintro e u1 ⟨v1, rfl, hv1, h1, n1⟩; obtain ⟨a1, c1, rfl, _⟩ := hv1.shape
    refine regx_next hK (Keeps.keep h1) ?_
    clear hK K
    try simp only [Act.put, List.setIfInBounds_toArray, List.set_cons_zero, List.set_cons_succ]
    refine wpAnyH_ready (rs := [4, 7]) (by kernel_rfl) (by simp) ?_
    refine (AllReadyH.cons (o := { dst := some 22, op := Op.load 34 (Operand.tmp 21), type := 34, pos := "net.go:116", after := #[{ on := 3, ground := Ground.data }], guard := none }) rfl (fun K hK => ?_) (AllReadyH.cons (o := { dst := some 25, op := Op.buildSlice 34 1 #[(0, Operand.tmp 24)], type := 34, pos := "net.go:116", after := #[{ on := 6, ground := Ground.data }], guard := none }) rfl (fun K hK => ?_) AllReadyH.nil))
    · have k22 : (u1).cell? ⟨B, 1, none⟩ = some (.slice qa n qcap) := by first | exact HC0.out | exact (Nk.cell (HNS.out.nk.keptNone (drewl h1)) 1).trans (congrArg some HQV.out) | exact (Nk.cell ((HNS.out.nk.keptNone (drewl h1)).keptNone h2) 1).trans (congrArg some HQV.out)
      go_simp
      refine regx_same hK ?_
      clear hK K
      try simp only [Act.put, List.setIfInBounds_toArray, List.set_cons_zero, List.set_cons_succ]
      refine wpAnyH_ready (rs := [7]) (by kernel_rfl) (by simp) ?_
      refine (AllReadyH.cons (o := { dst := some 25, op := Op.buildSlice 34 1 #[(0, Operand.tmp 24)], type := 34, pos := "net.go:116", after := #[{ on := 6, ground := Ground.data }], guard := none }) rfl (fun K hK => ?_) AllReadyH.nil)
      go_simp
      have hn := heap_alloc_new u1 (.cells #[.slice a1 bs.length c1] 22); have h2 := World.grownBy_alloc u1 (.cells #[.slice a1 bs.length c1] 22) none
      refine regx_next hK (Keeps.keep h2) ?_
      clear hK K
      try simp only [Act.put, List.setIfInBounds_toArray, List.set_cons_zero, List.set_cons_succ]
      refine wpAnyH_ready (rs := [8]) (by kernel_rfl) (by simp) ?_
      refine (AllReadyH.cons (o := { dst := some 26, op := Op.call { callee := Callee.builtin Builtin.append, args := #[Operand.tmp 22, Operand.tmp 25], argTypes := #[34, 34] }, type := 34, pos := "net.go:116", after := #[{ on := 4, ground := Ground.data }, { on := 7, ground := Ground.data }, { on := 6, ground := Ground.chain }], guard := none }) rfl (fun K hK => ?_) AllReadyH.nil)
      refine wp_gs eL 34 (.tmp 22) (.tmp 25) rfl (.slice qa n qcap) (.slice (some ⟨u1.heap.size, 0, none⟩) 1 1) n 1 vs [.slice a1 bs.length c1] rfl rfl ?_ ?_ ?_ ?_ ?_
      · exact (HQ.out.keptNone (drewl h1)).keptNone h2
      · exact src_ls hn
      · simp [Value.oneCell']
      · omega
      intro v' w3 hQ3 h3 hr
      refine regx_next hK (Keeps.of h3 (fun r e => by rw [← HQV.out] at e; exact .inr (.inr e))) ?_
      clear hK K
      try simp only [Act.put, List.setIfInBounds_toArray, List.set_cons_zero, List.set_cons_succ]
      refine regx_take 9 (some 27) (v := ?_) rfl rfl (by kernel_rfl) (by kernel_rfl) (by kernel_rfl) (fun _ _ _ h => h) (by rfl) ?_ ?_
      rotate_left
      · intro W hW; go_simp; first | done | with_reducible rfl
      try simp only [Act.put, List.setIfInBounds_toArray, List.set_cons_zero, List.set_cons_succ]
      refine regx_take 10 (some 28) (v := ?_) rfl rfl (by kernel_rfl) (by kernel_rfl) (by kernel_rfl) (fun _ _ _ h => h) (by rfl) ?_ ?_
      rotate_left
      · intro W hW; go_simp; first | done | with_reducible rfl
      try simp only [Act.put, List.setIfInBounds_toArray, List.set_cons_zero, List.set_cons_succ]
      refine wpAnyH_ready (rs := [11]) (by kernel_rfl) (by simp) ?_
      refine (AllReadyH.cons (o := { dst := none, op := Op.store 34 (Operand.tmp 28) (Operand.tmp 26), type := 0, pos := "net.go:116", after := #[{ on := 10, ground := Ground.data }, { on := 8, ground := Ground.data }, { on := 8, ground := Ground.chain }, { on := 0, ground := Ground.phase }, { on := 1, ground := Ground.phase }, { on := 2, ground := Ground.phase }, { on := 3, ground := Ground.phase }, { on := 4, ground := Ground.phase }, { on := 5, ground := Ground.phase }, { on := 6, ground := Ground.phase }, { on := 7, ground := Ground.phase }, { on := 8, ground := Ground.phase }], guard := none }) rfl (fun K hK => ?_) AllReadyH.nil)
      have hP := send_post M B c g w HNS.out HMB.out bs n vs HN.out HQ0.out HPK.out u1 _ w3 a1 c1 hv1 n1 (drewl h1) h2 v' hQ3 (by rw [HQV.out]; exact h3) (by rw [HQV.out]; exact hr)
      obtain ⟨a3, c3, rfl, _⟩ := hQ3.shape
      have hnk3 := ((HNS.out.nk.keptNone (drewl h1)).keptNone h2).kept h3 (fun e => (HQ.out.ne HNS.out.nk.blk (by decide)) e.symm)
      have k0 : w3.cell? ⟨B, 1, none⟩ = some (.slice qa n qcap) := (hnk3.cell 1).trans (congrArg some HQV.out)
      have f0 := hnk3.free 1
      go_simp
      refine regx_next hK (Keeps.row (grown_setCell w3 B 1 (.slice a3 (n + 1) c3)) (.inl rfl)) ?_
      clear hK K
      try simp only [Act.put]
      refine wpAnyH_done (by kernel_rfl) ?_ _
      have HP := Lib.hid hP
      have hnk4 := hnk3.set (c' := { c with sv := .slice a3 (n + 1) c3 }) 1 (.slice a3 (n + 1) c3) rfl
      have k3 : (w3.setCell ⟨B, 1, none⟩ (.slice a3 (n + 1) c3)).cell? ⟨B, 3, none⟩ = some (.int .i64 (tot g.sent : Nat)) := (hnk4.cell 3).trans (congrArg (fun z => some (Value.int .i64 z)) HNS.out.no)
      have f3 := hnk4.free 3
      clear hn h1 h2 h3 hv1 n1 hQ3 hr hP hnk3 hnk4 k0 f0
      go_wp2
      go_ret2
      exact ⟨rfl, _, HP.out⟩
    · go_simp
      have hn := heap_alloc_new u1 (.cells #[.slice a1 bs.length c1] 22); have h2 := World.grownBy_alloc u1 (.cells #[.slice a1 bs.length c1] 22) none
      refine regx_next hK (Keeps.keep h2) ?_
      clear hK K
      try simp only [Act.put, List.setIfInBounds_toArray, List.set_cons_zero, List.set_cons_succ]
      refine wpAnyH_ready (rs := [4]) (by kernel_rfl) (by simp) ?_
      refine (AllReadyH.cons (o := { dst := some 22, op := Op.load 34 (Operand.tmp 21), type := 34, pos := "net.go:116", after := #[{ on := 3, ground := Ground.data }], guard := none }) rfl (fun K hK => ?_) AllReadyH.nil)
      have k22 : ((u1.alloc (.cells #[.slice a1 bs.length c1] 22))).cell? ⟨B, 1, none⟩ = some (.slice qa n qcap) := by first | exact HC0.out | exact (Nk.cell (HNS.out.nk.keptNone (drewl h1)) 1).trans (congrArg some HQV.out) | exact (Nk.cell ((HNS.out.nk.keptNone (drewl h1)).keptNone h2) 1).trans (congrArg some HQV.out)
      go_simp
      refine regx_same hK ?_
      clear hK K
      try simp only [Act.put, List.setIfInBounds_toArray, List.set_cons_zero, List.set_cons_succ]
      refine wpAnyH_ready (rs := [8]) (by kernel_rfl) (by simp) ?_
      refine (AllReadyH.cons (o := { dst := some 26, op := Op.call { callee := Callee.builtin Builtin.append, args := #[Operand.tmp 22, Operand.tmp 25], argTypes := #[34, 34] }, type := 34, pos := "net.go:116", after := #[{ on := 4, ground := Ground.data }, { on := 7, ground := Ground.data }, { on := 6, ground := Ground.chain }], guard := none }) rfl (fun K hK => ?_) AllReadyH.nil)
      refine wp_gs eL 34 (.tmp 22) (.tmp 25) rfl (.slice qa n qcap) (.slice (some ⟨u1.heap.size, 0, none⟩) 1 1) n 1 vs [.slice a1 bs.length c1] rfl rfl ?_ ?_ ?_ ?_ ?_
      · exact (HQ.out.keptNone (drewl h1)).keptNone h2
      · exact src_ls hn
      · simp [Value.oneCell']
      · omega
      intro v' w3 hQ3 h3 hr
      refine regx_next hK (Keeps.of h3 (fun r e => by rw [← HQV.out] at e; exact .inr (.inr e))) ?_
      clear hK K
      try simp only [Act.put, List.setIfInBounds_toArray, List.set_cons_zero, List.set_cons_succ]
      refine regx_take 9 (some 27) (v := ?_) rfl rfl (by kernel_rfl) (by kernel_rfl) (by kernel_rfl) (fun _ _ _ h => h) (by rfl) ?_ ?_
      rotate_left
      · intro W hW; go_simp; first | done | with_reducible rfl
      try simp only [Act.put, List.setIfInBounds_toArray, List.set_cons_zero, List.set_cons_succ]
      refine regx_take 10 (some 28) (v := ?_) rfl rfl (by kernel_rfl) (by kernel_rfl) (by kernel_rfl) (fun _ _ _ h => h) (by rfl) ?_ ?_
      rotate_left
      · intro W hW; go_simp; first | done | with_reducible rfl
      try simp only [Act.put, List.setIfInBounds_toArray, List.set_cons_zero, List.set_cons_succ]
      refine wpAnyH_ready (rs := [11]) (by kernel_rfl) (by simp) ?_
      refine (AllReadyH.cons (o := { dst := none, op := Op.store 34 (Operand.tmp 28) (Operand.tmp 26), type := 0, pos := "net.go:116", after := #[{ on := 10, ground := Ground.data }, { on := 8, ground := Ground.data }, { on := 8, ground := Ground.chain }, { on := 0, ground := Ground.phase }, { on := 1, ground := Ground.phase }, { on := 2, ground := Ground.phase }, { on := 3, ground := Ground.phase }, { on := 4, ground := Ground.phase }, { on := 5, ground := Ground.phase }, { on := 6, ground := Ground.phase }, { on := 7, ground := Ground.phase }, { on := 8, ground := Ground.phase }], guard := none }) rfl (fun K hK => ?_) AllReadyH.nil)
      have hP := send_post M B c g w HNS.out HMB.out bs n vs HN.out HQ0.out HPK.out u1 _ w3 a1 c1 hv1 n1 (drewl h1) h2 v' hQ3 (by rw [HQV.out]; exact h3) (by rw [HQV.out]; exact hr)
      obtain ⟨a3, c3, rfl, _⟩ := hQ3.shape
      have hnk3 := ((HNS.out.nk.keptNone (drewl h1)).keptNone h2).kept h3 (fun e => (HQ.out.ne HNS.out.nk.blk (by decide)) e.symm)
      have k0 : w3.cell? ⟨B, 1, none⟩ = some (.slice qa n qcap) := (hnk3.cell 1).trans (congrArg some HQV.out)
      have f0 := hnk3.free 1
      go_simp
      refine regx_next hK (Keeps.row (grown_setCell w3 B 1 (.slice a3 (n + 1) c3)) (.inl rfl)) ?_
      clear hK K
      try simp only [Act.put]
      refine wpAnyH_done (by kernel_rfl) ?_ _
      have HP := Lib.hid hP
      have hnk4 := hnk3.set (c' := { c with sv := .slice a3 (n + 1) c3 }) 1 (.slice a3 (n + 1) c3) rfl
      have k3 : (w3.setCell ⟨B, 1, none⟩ (.slice a3 (n + 1) c3)).cell? ⟨B, 3, none⟩ = some (.int .i64 (tot g.sent : Nat)) := (hnk4.cell 3).trans (congrArg (fun z => some (Value.int .i64 z)) HNS.out.no)
      have f3 := hnk4.free 3
      clear hn h1 h2 h3 hv1 n1 hQ3 hr hP hnk3 hnk4 k0 f0
      go_wp2
      go_ret2
      exact ⟨rfl, _, HP.out⟩
end Go.Proofs.Ytnglbneefkdfgaa
