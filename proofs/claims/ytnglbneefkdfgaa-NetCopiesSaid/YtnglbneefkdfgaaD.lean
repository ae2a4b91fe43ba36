import Derived.Test.YtnglbneefkdfgaaC
set_option linter.unusedVariables false
namespace Go.Proofs.Ytnglbneefkdfgaa
open Go.RowKit
theorem bs_one (l : List UInt8) : ∀ u ∈ bsV l, u.oneCell' = true := by
  intro u hu
  obtain ⟨c, _, rfl⟩ := List.mem_map.1 hu
  rfl
theorem src_go {w : World} {a : Option Addr} {bs : List UInt8} {cap : Nat} (h : Go.Proofs.Ytnglbneefkdfgaa.Src w a bs) : Go.Src Try.prog 1 22 (.slice a bs.length cap) bs.length (bsV bs) w := by
  rcases h with rfl | ⟨b, o, rfl, h⟩
  · cases a with
    | none => exact Go.Src.ofNil w Try.underlying22 cap
    | some a => exact Go.Src.ofSlice w Try.underlying22 a 0 cap [] rfl (fun j u hj => by cases hj) (fun u hu => by cases hu)
  · exact Go.Src.ofSlice w Try.underlying22 ⟨b, o, none⟩ bs.length cap (bsV bs) (by simp [bsV]) (fun j u hj => by
      have hl : j < bs.length := by
        have := (List.getElem?_eq_some_iff.1 hj).1
        simpa [bsV] using this
      rw [Addr.add_lit, h j hl, ← hj]
      exact (bV_get bs j hl).symm) (bs_one bs)
theorem Gs.toSrc {w : World} {a : Option Addr} {cap : Nat} {bs : List UInt8} (h : Gs eB w (.slice a bs.length cap) bs.length (bsV bs)) : Go.Proofs.Ytnglbneefkdfgaa.Src w a bs := by
  by_cases he : bs = []
  · exact .inl he
  · obtain ⟨g, o, rfl⟩ := h.some_of (by simpa using he)
    exact .inr ⟨g, o, rfl, fun j hj => h.cell j _ (bV_get bs j hj)⟩
theorem src_pk {w : World} {a : Option Addr} {n c : Nat} {z : Int} {t : TypeId} (h : (w.alloc (.cells #[.slice a n c, .int .i64 z] t)).heap[w.heap.size]? = some (.cells #[.slice a n c, .int .i64 z] t (0, 0))) : Go.Src Try.prog 2 57 (.slice (some ⟨w.heap.size, 0, none⟩) 1 1) 1 [.slice a n c, .int .i64 z] (w.alloc (.cells #[.slice a n c, .int .i64 z] t)) :=
  Go.Src.ofSlice _ Try.underlying57 ⟨w.heap.size, 0, none⟩ 1 1 _ rfl (fun j u hj => by
    rw [Addr.add_lit, cells_all h]
    simpa using hj) (by simp [Value.oneCell'])
theorem wp_gs (E : El) {o : Oper} {a : Act} {w : World} {K : Act → World → Prop} {Q : Exit → Act → World → Prop} (tx : TypeId) (s x : Operand) (ho : o.op = .call { callee := .builtin .append, args := #[s, x], argTypes := #[E.t, tx] }) (v u : Value) (n m : Nat) (vs us : List Value) (hs : a.eval s = v) (hx : a.eval x = u)
    (hv : Gs E w v n vs) (hu : Go.Src Try.prog E.sz tx u m us w) (hone : ∀ u ∈ us, u.oneCell' = true) (hlen : n + m ≤ 1000000)
    (h : ∀ v' w', Gs E w' v' (n + m) (vs ++ us) → w.grownBy w' (rowOf v) → (rowOf v' = rowOf v ∨ rowOf v' = some w.heap.size) → K (a.put o.dst v') w') : o.wp Try.prog a w K Q := by
  obtain ⟨v', w', hr, h2, h3, h4⟩ := Gs.append tx o.type hv hu hone hlen
  unfold Oper.wp execOp
  simp only [ho, resolve, invoke, builtin, Sem.run_bind, Sem.run_pure, Result.andThen_ok, List.map_toArray, List.map_cons, List.map_nil, hs, hx, hr]
  exact h v' w' h2 h3 h4
theorem push_post (M : Nat → Prop) (B : Nat) (c : Nc) (g : Nh) (w : World) (h : NS M w B c g) (hMB : ∀ k, M k → k < w.heap.size) (bs : List UInt8) (n : Nat) (vs : List Value) (hn : n = g.came.length - g.taken) (hq : Gs eP w c.wv n vs) (hpk : PK M w vs (g.came.drop g.taken) (tot (g.came.take g.taken)))
    (u1 u2 w3 : World) (a1 : Option Addr) (c1 : Nat) (hv1 : Gs eB u1 (.slice a1 bs.length c1) bs.length (bsV bs)) (n1 : ∀ k, rowOf (.slice a1 bs.length c1) = some k → w.heap.size ≤ k) (h1 : w.grownBy u1 none) (h2 : u1.grownBy u2 none) (v' : Value)
    (hQ3 : Gs eP w3 v' (n + 1) (vs ++ [.slice a1 bs.length c1, .int .i64 (tot g.came : Nat)])) (h3 : u2.grownBy w3 (rowOf c.wv)) (hr : rowOf v' = rowOf c.wv ∨ rowOf v' = some u2.heap.size) :
    LPost M w ((w3.setCell ⟨B, 0, none⟩ v').setCell ⟨B, 2, none⟩ (.int .i64 ((tot g.came : Nat) + (bs.length : Nat)))) B c { c with wv := v', nin := (tot g.came : Nat) + (bs.length : Nat) } { g with came := g.came ++ [bs] } := by
  have htk := h.tk
  have hlt := h.lt
  have hsz1 := h1.size
  have hsz2 := h2.size
  have hneB : rowOf c.wv ≠ some B := hq.ne h.nk.blk (by decide)
  have hnk3 : Nk w3 B c := ((h.nk.keptNone h1).keptNone h2).kept h3 (fun e => hneB e.symm)
  have hnk4 := hnk3.set (c' := { c with wv := v' }) 0 v' rfl
  have hnk5 := hnk4.set (c' := { c with wv := v', nin := (tot g.came : Nat) + (bs.length : Nat) }) 2 (.int .i64 ((tot g.came : Nat) + (bs.length : Nat))) rfl
  have hgB : w3.grownBy ((w3.setCell ⟨B, 0, none⟩ v').setCell ⟨B, 2, none⟩ (.int .i64 ((tot g.came : Nat) + (bs.length : Nat)))) (some B) := (grown_setCell w3 B 0 v').trans (grown_setCell _ B 2 _)
  have hkB : Keeps (fun k => k = B) w3 ((w3.setCell ⟨B, 0, none⟩ v').setCell ⟨B, 2, none⟩ (.int .i64 ((tot g.came : Nat) + (bs.length : Nat)))) := Keeps.row hgB rfl
  have hk3 : Keeps (own c B) w w3 := (Keeps.keep (h1.trans h2)).trans (Keeps.of h3 (fun r e => .inr (.inl e)))
  have hkp : Keeps (own c B) w ((w3.setCell ⟨B, 0, none⟩ v').setCell ⟨B, 2, none⟩ (.int .i64 ((tot g.came : Nat) + (bs.length : Nat)))) := hk3.trans (hkB.mono (fun i _ e => .inl e))
  have hkx : Keeps (fun k => k = B ∨ rowOf c.wv = some k) w ((w3.setCell ⟨B, 0, none⟩ v').setCell ⟨B, 2, none⟩ (.int .i64 ((tot g.came : Nat) + (bs.length : Nat)))) := ((Keeps.keep (h1.trans h2)).trans (Keeps.of h3 (fun r e => .inr e))).trans (hkB.mono (fun i _ e => .inl e))
  obtain ⟨us, hs1, hs2⟩ := h.s
  have hnl : ∀ k, own { c with wv := v', nin := (tot g.came : Nat) + (bs.length : Nat) } B k → own c B k ∨ (w.heap.size ≤ k ∧ k = u2.heap.size) := fun k hk => by
    rcases hk with h | h | h
    · exact .inl (.inl h)
    · rcases hr with e | e
      · exact .inl (.inr (.inl (e ▸ h)))
      · right; change rowOf v' = some k at h; rw [e] at h; cases h; exact ⟨by omega, rfl⟩
    · exact .inl (.inr (.inr h))
  have hm2 : ∀ k, with_ M (own { c with wv := v', nin := (tot g.came : Nat) + (bs.length : Nat) } B) k → M k ∨ w.heap.size ≤ k := fun k hk => hk.elim .inl (fun h2 => (hnl k h2).elim (fun h3 => .inl (h.ow k h3)) (fun h3 => .inr h3.1))
  have hxo : ∀ k, k < w.heap.size → own c B k → with_ M (own { c with wv := v', nin := (tot g.came : Nat) + (bs.length : Nat) } B) k := fun k _ hk => .inl (h.ow k hk)
  have hin : Inn (with_ M (own { c with wv := v', nin := (tot g.came : Nat) + (bs.length : Nat) } B)) ((w3.setCell ⟨B, 0, none⟩ v').setCell ⟨B, 2, none⟩ (.int .i64 ((tot g.came : Nat) + (bs.length : Nat)))) (.slice a1 bs.length c1) bs := by
    have hx : ∀ k, rowOf (.slice a1 bs.length c1) = some k → w.heap.size ≤ k ∧ k < u1.heap.size := fun k hk => ⟨n1 k hk, hv1.lt k hk⟩
    have hw3 : Gs eB w3 (.slice a1 bs.length c1) bs.length (bsV bs) := (hv1.keptNone h2).kept h3 (fun k hk e => by have h5 := hx k hk; have h6 := hq.lt k e.symm; omega)
    have hw5 : Gs eB ((w3.setCell ⟨B, 0, none⟩ v').setCell ⟨B, 2, none⟩ (.int .i64 ((tot g.came : Nat) + (bs.length : Nat)))) (.slice a1 bs.length c1) bs.length (bsV bs) := hw3.keeps hkB (fun k hk e => by have h5 := hx k hk; have h6 := h.nk.lt; omega)
    refine ⟨a1, c1, rfl, hw5.toSrc, fun _ b o e hm => ?_⟩
    have h5 := hx b (by rw [e]; rfl)
    rcases hm with hm | hm
    · have := hMB b hm; omega
    · rcases hnl b hm with h6 | h6
      · have := hlt b h6; omega
      · omega
  refine ⟨⟨hnk5, ?_, ⟨vs ++ [.slice a1 bs.length c1, .int .i64 (tot g.came : Nat)], ?_, ?_⟩, ⟨us, ?_, ?_⟩, ?_, h.no, fun k hk => .inr hk⟩, hkp, fun k hk => (hnl k hk).imp id (fun h => h.1)⟩
  · simp; omega
  · have := hQ3.keeps hkB (fun k hk e => hQ3.ne hnk3.blk (by decide) (e ▸ hk))
    rwa [show n + 1 = (g.came ++ [bs]).length - g.taken from by simp; omega] at this
  · rw [List.drop_append_of_le_length htk, List.take_append_of_le_length htk]
    have hp := ((hpk.more hm2).keeps hkp hxo).snoc hin
    rwa [show tot (g.came.take g.taken) + tot (g.came.drop g.taken) = tot g.came from by rw [← tot_append, List.take_append_drop]] at hp
  · exact hs1.keeps hkx (fun k hk e => by
      rcases e with e | e
      · exact hs1.ne h.nk.blk (by decide) (e ▸ hk)
      · obtain ⟨cs, hcs⟩ := hq.block k e
        exact hs1.ne hcs (by decide) hk)
  · exact (hs2.more hm2).keeps hkp hxo
  · simp [tot_append, tot_one]
set_option maxHeartbeats 8000000 in
theorem push_ok (M : Nat → Prop) (B : Nat) (c : Nc) (g : Nh) (w : World) (h : NS M w B c g) (hMB : ∀ k, M k → k < w.heap.size) (xa : Option Addr) (xcap : Nat) (bs : List UInt8) (hx : Go.Proofs.Ytnglbneefkdfgaa.Src w xa bs) (hk : g.came.length - g.taken < 256) (hm : bs.length ≤ 64) (hbd : tot g.came + bs.length ≤ 1000000000) :
    Calls Try.prog 11 #[.pointer (some ⟨B, 0, none⟩), .slice xa bs.length xcap] w fun e w' => e = .returned (.tuple #[.int .i64 (tot g.came : Nat), .int .i64 0]) ∧ ∃ c', LPost M w w' B c c' { g with came := g.came ++ [bs] } := by
  obtain ⟨vs, hq, hpk⟩ := h.q
  obtain ⟨n, hn⟩ : ∃ n, n = g.came.length - g.taken := ⟨_, rfl⟩
  rw [← hn] at hq
  have hn256 : n < 256 := by omega
  obtain ⟨qa, qcap, hqv, _⟩ := hq.shape
  have CW := waits_nk B c n vs w h.nk hq
  have CR := refused_ok B c xa bs.length xcap n hn256 hm w h.nk
  have HQ0 := Lib.hid hq
  have HQ := Lib.hid (hqv ▸ hq)
  have HQV := Lib.hid hqv
  have HN := Lib.hid hn
  have HPK := Lib.hid hpk
  have HNS := Lib.hid h
  have HMB := Lib.hid hMB
  have HXS := Lib.hid (show Go.Src Try.prog 1 22 (.slice xa bs.length xcap) bs.length (bsV bs) w.drew from src_go (show Go.Proofs.Ytnglbneefkdfgaa.Src w.drew xa bs from hx))
  have HC0 := Lib.hid (show w.drew.cell? ⟨B, 0, none⟩ = some (.slice qa n qcap) from (h.nk.cell 0).trans (congrArg some hqv))
  have k2' : w.cell? ⟨B, 2, none⟩ = some (.int .i64 (tot g.came : Nat)) := (h.nk.cell 2).trans (congrArg (fun z => some (Value.int .i64 z)) h.ni)
  have hwr : IntKind.i64.wrap ((tot g.came : Nat) + (bs.length : Nat)) = ((tot g.came : Nat) + (bs.length : Nat) : Int) := by rw [IntKind.wrap_i64]; omega
  clear h hq hpk hqv hn hMB hx hk hbd
  go_enter Try.func11, Try.ntmps11
  go_wp2_with fail
  refine CW.mono ?_; rintro e w' ⟨rfl, rfl⟩
  go_wp2_with fail
  refine CR.mono ?_; rintro e w' ⟨rfl, rfl⟩
  clear CW CR
  go_wp2_with fail
  apply Lib.hid
  refine regx_open (own c B) (n := 15) rfl (by kernel_rfl) ?_
  refine regx_take 0 (some 20) (v := ?_) rfl rfl (by kernel_rfl) (by kernel_rfl) (by kernel_rfl) (fun _ _ _ h => h) (by rfl) ?_ ?_
  rotate_left
  · intro W hW; go_simp; first | done | with_reducible rfl
  try simp only [Act.put, List.setIfInBounds_toArray, List.set_cons_zero, List.set_cons_succ]
  refine regx_take 1 (some 21) (v := ?_) rfl rfl (by kernel_rfl) (by kernel_rfl) (by kernel_rfl) (fun _ _ _ h => h) (by rfl) ?_ ?_
  rotate_left
  · intro W hW; go_simp; first | done | with_reducible rfl
  try simp only [Act.put, List.setIfInBounds_toArray, List.set_cons_zero, List.set_cons_succ]
  refine regx_take 2 (some 22) (v := ?_) rfl rfl (by kernel_rfl) (by kernel_rfl) (by kernel_rfl) (fun _ _ _ h => h) (by rfl) ?_ ?_
  rotate_left
  · intro W hW; go_simp; first | done | with_reducible rfl
  try simp only [Act.put, List.setIfInBounds_toArray, List.set_cons_zero, List.set_cons_succ]
  refine regx_take 3 (some 23) (v := ?_) rfl rfl (by kernel_rfl) (by kernel_rfl) (by kernel_rfl) (fun _ _ _ h => h) (by rfl) ?_ ?_
  rotate_left
  · intro W hW; go_simp; first | done | with_reducible rfl
  try simp only [Act.put, List.setIfInBounds_toArray, List.set_cons_zero, List.set_cons_succ]
  refine regx_take 5 (some 25) (v := ?_) rfl rfl (by kernel_rfl) (by kernel_rfl) (by kernel_rfl) (fun _ _ _ h => h) (by rfl) ?_ ?_
  rotate_left
  · intro W hW; go_simp; first | done | with_reducible rfl
  try simp only [Act.put, List.setIfInBounds_toArray, List.set_cons_zero, List.set_cons_succ]
  refine regx_take 8 (some 28) (v := ?_) rfl rfl (by kernel_rfl) (by kernel_rfl) (by kernel_rfl) (fun _ _ _ h => h) (by rfl) ?_ ?_
  rotate_left
  · intro W hW; go_simp; first | done | with_reducible rfl
  try simp only [Act.put, List.setIfInBounds_toArray, List.set_cons_zero, List.set_cons_succ]
  refine wpAnyH_ready (rs := [4, 6]) (by kernel_rfl) (by simp) ?_
  refine (AllReadyH.cons (o := { dst := some 24, op := Op.load 57 (Operand.tmp 23), type := 57, pos := "net.go:57", after := #[{ on := 3, ground := Ground.data }], guard := none }) rfl (fun K hK => ?_) (AllReadyH.cons (o := { dst := some 26, op := Op.call { callee := Callee.value (Operand.func 30), args := #[Operand.tmp 25], argTypes := #[22] }, type := 22, pos := "net.go:57", after := #[{ on := 5, ground := Ground.data }], guard := none }) rfl (fun K hK => ?_) AllReadyH.nil))
  · have k24 : (w.drew).cell? ⟨B, 0, none⟩ = some (.slice qa n qcap) := by first | exact HC0.out | exact (Nk.cell (HNS.out.nk.keptNone (drewl h1)) 0).trans (congrArg some HQV.out) | exact (Nk.cell ((HNS.out.nk.keptNone (drewl h1)).keptNone h2) 0).trans (congrArg some HQV.out)
    go_simp
    refine regx_same hK ?_
    clear hK K
    try simp only [Act.put, List.setIfInBounds_toArray, List.set_cons_zero, List.set_cons_succ]
    refine wpAnyH_ready (rs := [6]) (by kernel_rfl) (by simp) ?_
    refine (AllReadyH.cons (o := { dst := some 26, op := Op.call { callee := Callee.value (Operand.func 30), args := #[Operand.tmp 25], argTypes := #[22] }, type := 22, pos := "net.go:57", after := #[{ on := 5, ground := Ground.data }], guard := none }) rfl (fun K hK => ?_) AllReadyH.nil)
    go_simp
    refine (copied_b (.slice xa bs.length xcap) bs.length (bsV bs) _ HXS.out (bs_one bs) (by omega)).mono ?_; rintro e u1 ⟨v1, rfl, hv1, h1, n1⟩; obtain ⟨a1, c1, rfl, _⟩ := hv1.shape
    refine regx_next hK (Keeps.keep h1) ?_
    clear hK K
    try simp only [Act.put, List.setIfInBounds_toArray, List.set_cons_zero, List.set_cons_succ]
    refine regx_take 7 (some 27) (v := ?_) rfl rfl (by kernel_rfl) (by kernel_rfl) (by kernel_rfl) (fun _ _ _ h => h) (by rfl) ?_ ?_
    rotate_left
    · intro W hW; go_simp; first | done | with_reducible rfl
    try simp only [Act.put, List.setIfInBounds_toArray, List.set_cons_zero, List.set_cons_succ]
    refine regx_take 9 (some 29) (v := ?_) rfl rfl (by kernel_rfl) (by kernel_rfl) (by kernel_rfl) (fun _ _ _ h => h) (by rfl) ?_ ?_
    rotate_left
    · intro W hW; go_simp; first | done | with_reducible rfl
    try simp only [Act.put, List.setIfInBounds_toArray, List.set_cons_zero, List.set_cons_succ]
    refine wpAnyH_ready (rs := [10]) (by kernel_rfl) (by simp) ?_
    refine (AllReadyH.cons (o := { dst := some 30, op := Op.buildSlice 57 1 #[(0, Operand.tmp 29)], type := 57, pos := "net.go:57", after := #[{ on := 9, ground := Ground.data }], guard := none }) rfl (fun K hK => ?_) AllReadyH.nil)
    go_simp
    have hn := heap_alloc_new u1 (.cells #[.slice a1 bs.length c1, .int .i64 (tot g.came : Nat)] 65); have h2 := World.grownBy_alloc u1 (.cells #[.slice a1 bs.length c1, .int .i64 (tot g.came : Nat)] 65) none
    refine regx_next hK (Keeps.keep h2) ?_
    clear hK K
    try simp only [Act.put, List.setIfInBounds_toArray, List.set_cons_zero, List.set_cons_succ]
    refine wpAnyH_ready (rs := [11]) (by kernel_rfl) (by simp) ?_
    refine (AllReadyH.cons (o := { dst := some 31, op := Op.call { callee := Callee.builtin Builtin.append, args := #[Operand.tmp 24, Operand.tmp 30], argTypes := #[57, 57] }, type := 57, pos := "net.go:57", after := #[{ on := 4, ground := Ground.data }, { on := 10, ground := Ground.data }, { on := 6, ground := Ground.chain }], guard := none }) rfl (fun K hK => ?_) AllReadyH.nil)
    refine wp_gs eP 57 (.tmp 24) (.tmp 30) rfl (.slice qa n qcap) (.slice (some ⟨u1.heap.size, 0, none⟩) 1 1) n 1 vs [.slice a1 bs.length c1, .int .i64 (tot g.came : Nat)] rfl rfl ?_ ?_ ?_ ?_ ?_
    · exact (HQ.out.keptNone (drewl h1)).keptNone h2
    · exact src_pk hn
    · simp [Value.oneCell']
    · omega
    intro v' w3 hQ3 h3 hr
    refine regx_next hK (Keeps.of h3 (fun r e => by rw [← HQV.out] at e; exact .inr (.inl e))) ?_
    clear hK K
    try simp only [Act.put, List.setIfInBounds_toArray, List.set_cons_zero, List.set_cons_succ]
    refine regx_take 12 (some 32) (v := ?_) rfl rfl (by kernel_rfl) (by kernel_rfl) (by kernel_rfl) (fun _ _ _ h => h) (by rfl) ?_ ?_
    rotate_left
    · intro W hW; go_simp; first | done | with_reducible rfl
    try simp only [Act.put, List.setIfInBounds_toArray, List.set_cons_zero, List.set_cons_succ]
    refine regx_take 13 (some 33) (v := ?_) rfl rfl (by kernel_rfl) (by kernel_rfl) (by kernel_rfl) (fun _ _ _ h => h) (by rfl) ?_ ?_
    rotate_left
    · intro W hW; go_simp; first | done | with_reducible rfl
    try simp only [Act.put, List.setIfInBounds_toArray, List.set_cons_zero, List.set_cons_succ]
    refine wpAnyH_ready (rs := [14]) (by kernel_rfl) (by simp) ?_
    refine (AllReadyH.cons (o := { dst := none, op := Op.store 57 (Operand.tmp 33) (Operand.tmp 31), type := 0, pos := "net.go:57", after := #[{ on := 13, ground := Ground.data }, { on := 11, ground := Ground.data }, { on := 11, ground := Ground.chain }, { on := 0, ground := Ground.phase }, { on := 1, ground := Ground.phase }, { on := 2, ground := Ground.phase }, { on := 3, ground := Ground.phase }, { on := 4, ground := Ground.phase }, { on := 5, ground := Ground.phase }, { on := 6, ground := Ground.phase }, { on := 7, ground := Ground.phase }, { on := 8, ground := Ground.phase }, { on := 9, ground := Ground.phase }, { on := 10, ground := Ground.phase }, { on := 11, ground := Ground.phase }], guard := none }) rfl (fun K hK => ?_) AllReadyH.nil)
    have hP := push_post M B c g w HNS.out HMB.out bs n vs HN.out HQ0.out HPK.out u1 _ w3 a1 c1 hv1 n1 (drewl h1) h2 v' hQ3 (by rw [HQV.out]; exact h3) (by rw [HQV.out]; exact hr)
    obtain ⟨a3, c3, rfl, _⟩ := hQ3.shape
    have hnk3 := ((HNS.out.nk.keptNone (drewl h1)).keptNone h2).kept h3 (fun e => (HQ.out.ne HNS.out.nk.blk (by decide)) e.symm)
    have k0 : w3.cell? ⟨B, 0, none⟩ = some (.slice qa n qcap) := (hnk3.cell 0).trans (congrArg some HQV.out)
    have f0 := hnk3.free 0
    go_simp
    refine regx_next hK (Keeps.row (grown_setCell w3 B 0 (.slice a3 (n + 1) c3)) (.inl rfl)) ?_
    clear hK K
    try simp only [Act.put]
    refine wpAnyH_done (by kernel_rfl) ?_ _
    have HP := Lib.hid hP
    have hnk4 := hnk3.set (c' := { c with wv := .slice a3 (n + 1) c3 }) 0 (.slice a3 (n + 1) c3) rfl
    have k2 : (w3.setCell ⟨B, 0, none⟩ (.slice a3 (n + 1) c3)).cell? ⟨B, 2, none⟩ = some (.int .i64 (tot g.came : Nat)) := (hnk4.cell 2).trans (congrArg (fun z => some (Value.int .i64 z)) HNS.out.ni)
    have f2 := hnk4.free 2
    clear hn h1 h2 h3 hv1 n1 hQ3 hr hP hnk3 hnk4 k0 f0
    go_wp2
    go_ret2
    exact ⟨rfl, _, HP.out⟩
  · go_simp
    refine (copied_b (.slice xa bs.length xcap) bs.length (bsV bs) _ HXS.out (bs_one bs) (by omega)).mono ?_; rintro e u1 ⟨v1, rfl, hv1, h1, n1⟩; obtain ⟨a1, c1, rfl, _⟩ := hv1.shape
    refine regx_next hK (Keeps.keep h1) ?_
    clear hK K
    try simp only [Act.put, List.setIfInBounds_toArray, List.set_cons_zero, List.set_cons_succ]
    refine regx_take 7 (some 27) (v := ?_) rfl rfl (by kernel_rfl) (by kernel_rfl) (by kernel_rfl) (fun _ _ _ h => h) (by rfl) ?_ ?_
    rotate_left
    · intro W hW; go_simp; first | done | with_reducible rfl
    try simp only [Act.put, List.setIfInBounds_toArray, List.set_cons_zero, List.set_cons_succ]
    refine regx_take 9 (some 29) (v := ?_) rfl rfl (by kernel_rfl) (by kernel_rfl) (by kernel_rfl) (fun _ _ _ h => h) (by rfl) ?_ ?_
    rotate_left
    · intro W hW; go_simp; first | done | with_reducible rfl
    try simp only [Act.put, List.setIfInBounds_toArray, List.set_cons_zero, List.set_cons_succ]
    refine wpAnyH_ready (rs := [4, 10]) (by kernel_rfl) (by simp) ?_
    refine (AllReadyH.cons (o := { dst := some 24, op := Op.load 57 (Operand.tmp 23), type := 57, pos := "net.go:57", after := #[{ on := 3, ground := Ground.data }], guard := none }) rfl (fun K hK => ?_) (AllReadyH.cons (o := { dst := some 30, op := Op.buildSlice 57 1 #[(0, Operand.tmp 29)], type := 57, pos := "net.go:57", after := #[{ on := 9, ground := Ground.data }], guard := none }) rfl (fun K hK => ?_) AllReadyH.nil))
    · have k24 : (u1).cell? ⟨B, 0, none⟩ = some (.slice qa n qcap) := by first | exact HC0.out | exact (Nk.cell (HNS.out.nk.keptNone (drewl h1)) 0).trans (congrArg some HQV.out) | exact (Nk.cell ((HNS.out.nk.keptNone (drewl h1)).keptNone h2) 0).trans (congrArg some HQV.out)
      go_simp
      refine regx_same hK ?_
      clear hK K
      try simp only [Act.put, List.setIfInBounds_toArray, List.set_cons_zero, List.set_cons_succ]
      refine wpAnyH_ready (rs := [10]) (by kernel_rfl) (by simp) ?_
      refine (AllReadyH.cons (o := { dst := some 30, op := Op.buildSlice 57 1 #[(0, Operand.tmp 29)], type := 57, pos := "net.go:57", after := #[{ on := 9, ground := Ground.data }], guard := none }) rfl (fun K hK => ?_) AllReadyH.nil)
      go_simp
      have hn := heap_alloc_new u1 (.cells #[.slice a1 bs.length c1, .int .i64 (tot g.came : Nat)] 65); have h2 := World.grownBy_alloc u1 (.cells #[.slice a1 bs.length c1, .int .i64 (tot g.came : Nat)] 65) none
      refine regx_next hK (Keeps.keep h2) ?_
      clear hK K
      try simp only [Act.put, List.setIfInBounds_toArray, List.set_cons_zero, List.set_cons_succ]
      refine wpAnyH_ready (rs := [11]) (by kernel_rfl) (by simp) ?_
      refine (AllReadyH.cons (o := { dst := some 31, op := Op.call { callee := Callee.builtin Builtin.append, args := #[Operand.tmp 24, Operand.tmp 30], argTypes := #[57, 57] }, type := 57, pos := "net.go:57", after := #[{ on := 4, ground := Ground.data }, { on := 10, ground := Ground.data }, { on := 6, ground := Ground.chain }], guard := none }) rfl (fun K hK => ?_) AllReadyH.nil)
      refine wp_gs eP 57 (.tmp 24) (.tmp 30) rfl (.slice qa n qcap) (.slice (some ⟨u1.heap.size, 0, none⟩) 1 1) n 1 vs [.slice a1 bs.length c1, .int .i64 (tot g.came : Nat)] rfl rfl ?_ ?_ ?_ ?_ ?_
      · exact (HQ.out.keptNone (drewl h1)).keptNone h2
      · exact src_pk hn
      · simp [Value.oneCell']
      · omega
      intro v' w3 hQ3 h3 hr
      refine regx_next hK (Keeps.of h3 (fun r e => by rw [← HQV.out] at e; exact .inr (.inl e))) ?_
      clear hK K
      try simp only [Act.put, List.setIfInBounds_toArray, List.set_cons_zero, List.set_cons_succ]
      refine regx_take 12 (some 32) (v := ?_) rfl rfl (by kernel_rfl) (by kernel_rfl) (by kernel_rfl) (fun _ _ _ h => h) (by rfl) ?_ ?_
      rotate_left
      · intro W hW; go_simp; first | done | with_reducible rfl
      try simp only [Act.put, List.setIfInBounds_toArray, List.set_cons_zero, List.set_cons_succ]
      refine regx_take 13 (some 33) (v := ?_) rfl rfl (by kernel_rfl) (by kernel_rfl) (by kernel_rfl) (fun _ _ _ h => h) (by rfl) ?_ ?_
      rotate_left
      · intro W hW; go_simp; first | done | with_reducible rfl
      try simp only [Act.put, List.setIfInBounds_toArray, List.set_cons_zero, List.set_cons_succ]
      refine wpAnyH_ready (rs := [14]) (by kernel_rfl) (by simp) ?_
      refine (AllReadyH.cons (o := { dst := none, op := Op.store 57 (Operand.tmp 33) (Operand.tmp 31), type := 0, pos := "net.go:57", after := #[{ on := 13, ground := Ground.data }, { on := 11, ground := Ground.data }, { on := 11, ground := Ground.chain }, { on := 0, ground := Ground.phase }, { on := 1, ground := Ground.phase }, { on := 2, ground := Ground.phase }, { on := 3, ground := Ground.phase }, { on := 4, ground := Ground.phase }, { on := 5, ground := Ground.phase }, { on := 6, ground := Ground.phase }, { on := 7, ground := Ground.phase }, { on := 8, ground := Ground.phase }, { on := 9, ground := Ground.phase }, { on := 10, ground := Ground.phase }, { on := 11, ground := Ground.phase }], guard := none }) rfl (fun K hK => ?_) AllReadyH.nil)
      have hP := push_post M B c g w HNS.out HMB.out bs n vs HN.out HQ0.out HPK.out u1 _ w3 a1 c1 hv1 n1 (drewl h1) h2 v' hQ3 (by rw [HQV.out]; exact h3) (by rw [HQV.out]; exact hr)
      obtain ⟨a3, c3, rfl, _⟩ := hQ3.shape
      have hnk3 := ((HNS.out.nk.keptNone (drewl h1)).keptNone h2).kept h3 (fun e => (HQ.out.ne HNS.out.nk.blk (by decide)) e.symm)
      have k0 : w3.cell? ⟨B, 0, none⟩ = some (.slice qa n qcap) := (hnk3.cell 0).trans (congrArg some HQV.out)
      have f0 := hnk3.free 0
      go_simp
      refine regx_next hK (Keeps.row (grown_setCell w3 B 0 (.slice a3 (n + 1) c3)) (.inl rfl)) ?_
      clear hK K
      try simp only [Act.put]
      refine wpAnyH_done (by kernel_rfl) ?_ _
      have HP := Lib.hid hP
      have hnk4 := hnk3.set (c' := { c with wv := .slice a3 (n + 1) c3 }) 0 (.slice a3 (n + 1) c3) rfl
      have k2 : (w3.setCell ⟨B, 0, none⟩ (.slice a3 (n + 1) c3)).cell? ⟨B, 2, none⟩ = some (.int .i64 (tot g.came : Nat)) := (hnk4.cell 2).trans (congrArg (fun z => some (Value.int .i64 z)) HNS.out.ni)
      have f2 := hnk4.free 2
      clear hn h1 h2 h3 hv1 n1 hQ3 hr hP hnk3 hnk4 k0 f0
      go_wp2
      go_ret2
      exact ⟨rfl, _, HP.out⟩
    · go_simp
      have hn := heap_alloc_new u1 (.cells #[.slice a1 bs.length c1, .int .i64 (tot g.came : Nat)] 65); have h2 := World.grownBy_alloc u1 (.cells #[.slice a1 bs.length c1, .int .i64 (tot g.came : Nat)] 65) none
      refine regx_next hK (Keeps.keep h2) ?_
      clear hK K
      try simp only [Act.put, List.setIfInBounds_toArray, List.set_cons_zero, List.set_cons_succ]
      refine wpAnyH_ready (rs := [4]) (by kernel_rfl) (by simp) ?_
      refine (AllReadyH.cons (o := { dst := some 24, op := Op.load 57 (Operand.tmp 23), type := 57, pos := "net.go:57", after := #[{ on := 3, ground := Ground.data }], guard := none }) rfl (fun K hK => ?_) AllReadyH.nil)
      have k24 : ((u1.alloc (.cells #[.slice a1 bs.length c1, .int .i64 (tot g.came : Nat)] 65))).cell? ⟨B, 0, none⟩ = some (.slice qa n qcap) := by first | exact HC0.out | exact (Nk.cell (HNS.out.nk.keptNone (drewl h1)) 0).trans (congrArg some HQV.out) | exact (Nk.cell ((HNS.out.nk.keptNone (drewl h1)).keptNone h2) 0).trans (congrArg some HQV.out)
      go_simp
      refine regx_same hK ?_
      clear hK K
      try simp only [Act.put, List.setIfInBounds_toArray, List.set_cons_zero, List.set_cons_succ]
      refine wpAnyH_ready (rs := [11]) (by kernel_rfl) (by simp) ?_
      refine (AllReadyH.cons (o := { dst := some 31, op := Op.call { callee := Callee.builtin Builtin.append, args := #[Operand.tmp 24, Operand.tmp 30], argTypes := #[57, 57] }, type := 57, pos := "net.go:57", after := #[{ on := 4, ground := Ground.data }, { on := 10, ground := Ground.data }, { on := 6, ground := Ground.chain }], guard := none }) rfl (fun K hK => ?_) AllReadyH.nil)
      refine wp_gs eP 57 (.tmp 24) (.tmp 30) rfl (.slice qa n qcap) (.slice (some ⟨u1.heap.size, 0, none⟩) 1 1) n 1 vs [.slice a1 bs.length c1, .int .i64 (tot g.came : Nat)] rfl rfl ?_ ?_ ?_ ?_ ?_
      · exact (HQ.out.keptNone (drewl h1)).keptNone h2
      · exact src_pk hn
      · simp [Value.oneCell']
      · omega
      intro v' w3 hQ3 h3 hr
      refine regx_next hK (Keeps.of h3 (fun r e => by rw [← HQV.out] at e; exact .inr (.inl e))) ?_
      clear hK K
      try simp only [Act.put, List.setIfInBounds_toArray, List.set_cons_zero, List.set_cons_succ]
      refine regx_take 12 (some 32) (v := ?_) rfl rfl (by kernel_rfl) (by kernel_rfl) (by kernel_rfl) (fun _ _ _ h => h) (by rfl) ?_ ?_
      rotate_left
      · intro W hW; go_simp; first | done | with_reducible rfl
      try simp only [Act.put, List.setIfInBounds_toArray, List.set_cons_zero, List.set_cons_succ]
      refine regx_take 13 (some 33) (v := ?_) rfl rfl (by kernel_rfl) (by kernel_rfl) (by kernel_rfl) (fun _ _ _ h => h) (by rfl) ?_ ?_
      rotate_left
      · intro W hW; go_simp; first | done | with_reducible rfl
      try simp only [Act.put, List.setIfInBounds_toArray, List.set_cons_zero, List.set_cons_succ]
      refine wpAnyH_ready (rs := [14]) (by kernel_rfl) (by simp) ?_
      refine (AllReadyH.cons (o := { dst := none, op := Op.store 57 (Operand.tmp 33) (Operand.tmp 31), type := 0, pos := "net.go:57", after := #[{ on := 13, ground := Ground.data }, { on := 11, ground := Ground.data }, { on := 11, ground := Ground.chain }, { on := 0, ground := Ground.phase }, { on := 1, ground := Ground.phase }, { on := 2, ground := Ground.phase }, { on := 3, ground := Ground.phase }, { on := 4, ground := Ground.phase }, { on := 5, ground := Ground.phase }, { on := 6, ground := Ground.phase }, { on := 7, ground := Ground.phase }, { on := 8, ground := Ground.phase }, { on := 9, ground := Ground.phase }, { on := 10, ground := Ground.phase }, { on := 11, ground := Ground.phase }], guard := none }) rfl (fun K hK => ?_) AllReadyH.nil)
      have hP := push_post M B c g w HNS.out HMB.out bs n vs HN.out HQ0.out HPK.out u1 _ w3 a1 c1 hv1 n1 (drewl h1) h2 v' hQ3 (by rw [HQV.out]; exact h3) (by rw [HQV.out]; exact hr)
      obtain ⟨a3, c3, rfl, _⟩ := hQ3.shape
      have hnk3 := ((HNS.out.nk.keptNone (drewl h1)).keptNone h2).kept h3 (fun e => (HQ.out.ne HNS.out.nk.blk (by decide)) e.symm)
      have k0 : w3.cell? ⟨B, 0, none⟩ = some (.slice qa n qcap) := (hnk3.cell 0).trans (congrArg some HQV.out)
      have f0 := hnk3.free 0
      go_simp
      refine regx_next hK (Keeps.row (grown_setCell w3 B 0 (.slice a3 (n + 1) c3)) (.inl rfl)) ?_
      clear hK K
      try simp only [Act.put]
      refine wpAnyH_done (by kernel_rfl) ?_ _
      have HP := Lib.hid hP
      have hnk4 := hnk3.set (c' := { c with wv := .slice a3 (n + 1) c3 }) 0 (.slice a3 (n + 1) c3) rfl
      have k2 : (w3.setCell ⟨B, 0, none⟩ (.slice a3 (n + 1) c3)).cell? ⟨B, 2, none⟩ = some (.int .i64 (tot g.came : Nat)) := (hnk4.cell 2).trans (congrArg (fun z => some (Value.int .i64 z)) HNS.out.ni)
      have f2 := hnk4.free 2
      clear hn h1 h2 h3 hv1 n1 hQ3 hr hP hnk3 hnk4 k0 f0
      go_wp2
      go_ret2
      exact ⟨rfl, _, HP.out⟩
end Go.Proofs.Ytnglbneefkdfgaa
