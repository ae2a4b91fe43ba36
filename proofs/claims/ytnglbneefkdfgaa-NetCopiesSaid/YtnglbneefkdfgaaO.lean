import Derived.Test.YtnglbneefkdfgaaN
set_option linter.unusedVariables false
namespace Go.Proofs.Ytnglbneefkdfgaa
open Go.RowKit Go.Shelf
attribute [local go_sem] Oper.semAt_some
/-- A list of copies: all its blocks are new since S. -/
def CV (S : Nat) (w : World) (vs : List Value) (ls : List (List UInt8)) : Prop :=
  vs.length = ls.length ∧ ∀ j (h : j < ls.length), ∃ u, vs[j]? = some u ∧ Gs eB w u (ls[j]'h).length (bsV (ls[j]'h)) ∧ (∀ g, rowOf u = some g → S ≤ g)
def CL (S : Nat) (w : World) (v : Value) (ls : List (List UInt8)) : Prop :=
  ∃ vs, Gs eL w v ls.length vs ∧ (∀ g, rowOf v = some g → S ≤ g) ∧ CV S w vs ls
theorem CV.nil (S : Nat) (w : World) : CV S w [] [] := ⟨rfl, fun j h => absurd h (by simp)⟩
theorem CL.nil (S : Nat) (w : World) : CL S w (.slice none 0 0) [] := ⟨[], Gs.nil eL w, fun g h => by (cases h), CV.nil S w⟩
theorem CV.keeps {S : Nat} {w w' : World} {vs : List Value} {ls : List (List UInt8)} {X : Nat → Prop} (h : CV S w vs ls) (hg : Keeps X w w') (hx : ∀ k cs, X k → w.heap[k]? = some (.cells cs 5 (0, 0)) → False) : CV S w' vs ls :=
  ⟨h.1, fun j hj => let ⟨u, h1, h2, h3⟩ := h.2 j hj; ⟨u, h1, h2.keeps hg (fun g hg' hxg => by obtain ⟨cs, hc⟩ := h2.block g hg'; exact hx g cs hxg hc), h3⟩⟩
theorem CL.keptNone {S : Nat} {w w' : World} {v : Value} {ls : List (List UInt8)} (h : CL S w v ls) (hg : w.grownBy w' none) : CL S w' v ls := by
  obtain ⟨vs, h1, h2, h3⟩ := h
  exact ⟨vs, h1.keptNone hg, h2, h3.keeps (X := fun _ => False) (Keeps.keep hg) (fun _ _ h _ => h)⟩
theorem CL.keptw {S : Nat} {w w' : World} {v : Value} {ls : List (List UInt8)} {row : Option Nat} (h : CL S w v ls) (hg : w.grownBy w' row) (hr : ∀ r, row = some r → ∃ o : Obj, w.heap[r]? = some o ∧ o.isCells = false) : CL S w' v ls := by
  obtain ⟨vs, h1, h2, h3⟩ := h
  refine ⟨vs, h1.keptw hg hr, h2, h3.1, fun j hj => ?_⟩
  obtain ⟨u, e1, e2, e3⟩ := h3.2 j hj
  exact ⟨u, e1, e2.keptw hg hr, e3⟩
theorem CV.snoc {S : Nat} {w : World} {vs : List Value} {ls : List (List UInt8)} {u : Value} {l : List UInt8} (h : CV S w vs ls) (hu : Gs eB w u l.length (bsV l)) (hr : ∀ g, rowOf u = some g → S ≤ g) : CV S w (vs ++ [u]) (ls ++ [l]) := by
  refine ⟨by simp [h.1], fun j hj => ?_⟩
  rcases Nat.lt_or_ge j ls.length with hl | hl
  · obtain ⟨u, h1, h2, h3⟩ := h.2 j hl
    refine ⟨u, ?_, ?_, h3⟩
    · rw [List.getElem?_append_left (by rw [h.1]; exact hl)]; exact h1
    · rw [List.getElem_append_left hl]; exact h2
  · obtain rfl : j = ls.length := by simp at hj; omega
    refine ⟨u, ?_, ?_, hr⟩
    · rw [← h.1]; simp
    · simpa using hu
theorem Keeps.from2 {X : Nat → Prop} {W W' : World} {B : Nat} (h : Keeps X W W') (hx : ∀ k, X k → k < B ∨ ∃ cs t, W.heap[k]? = some (.cells cs t (0, 0))) : KeepsFrom B W W' :=
  ⟨h.size, fun k o hB hk ho => (h.block k (Array.getElem?_eq_some_iff.1 hk).1 (fun hX => by
    rcases hx k hX with h1 | ⟨cs, t, h1⟩
    · omega
    · rw [h1] at hk; cases hk; cases ho)).trans hk⟩
def BCell (S : Nat) (v : Value) (W : World) : Prop := W.heap[S]? = some (.cells #[v] 34 (0, 0))
/-- What holds of the list that is collected. -/
def QI (S : Nat) (bs : Nat → List UInt8) {N : Nat} (pre : List (Fin N)) (W : World) : Prop := ∃ v, BCell S v W ∧ CL S W v (pre.map (fun x => bs x.val))
theorem queue_step (w V u1 u2 w3 : World) {N : Nat} (pre : List (Fin N)) (x : Fin N) (bs : Nat → List UInt8) (pk : Pks) (v : Value) (vs : List Value) (v1 : Value) {v' : Value} (hS : BCell w.heap.size v V) (hV : Gs eL V v pre.length vs) (hVR : ∀ g, rowOf v = some g → w.heap.size ≤ g) (hVS : CV w.heap.size V vs (pre.map (fun x => bs x.val)))
    (hB : Below w.heap.size w V) (hv1 : Gs eB u1 v1 (pk.n x.val) (bsV (bs x.val))) (hr1 : ∀ k, rowOf v1 = some k → V.heap.size ≤ k) (h1 : V.grownBy u1 none) (h2 : u1.grownBy u2 none) (hn : pk.n x.val = (bs x.val).length)
    (hQ3 : Gs eL w3 v' (pre.length + 1) (vs ++ [v1])) (h3 : u2.grownBy w3 (rowOf v)) (hr : rowOf v' = rowOf v ∨ rowOf v' = some u2.heap.size) :
    BCell w.heap.size v w3 ∧ Below w.heap.size V (w3.setCell ⟨w.heap.size, 0, none⟩ v') ∧ (QI w.heap.size bs (pre ++ [x]) (w3.setCell ⟨w.heap.size, 0, none⟩ v')) ∧ (∀ B, w.heap.size < B → KeepsFrom B V (w3.setCell ⟨w.heap.size, 0, none⟩ v')) ∧ Below w.heap.size w (w3.setCell ⟨w.heap.size, 0, none⟩ v') := by
  have hneS : rowOf v ≠ some w.heap.size := hV.ne hS (by decide)
  have hS3 : BCell w.heap.size v w3 := (h3.block _ (lt_of_block (show BCell w.heap.size v u2 from ((h1.trans h2).block _ (lt_of_block hS) (by simp)).trans hS)) (fun e => hneS e.symm)).trans (((h1.trans h2).block _ (lt_of_block hS) (by simp)).trans hS)
  have hk : Keeps (fun k => k = w.heap.size ∨ rowOf v = some k) V (w3.setCell ⟨w.heap.size, 0, none⟩ v') := ((Keeps.keep (h1.trans h2)).trans (Keeps.of h3 (fun r e => .inr e))).trans (Keeps.row (grown_setCell w3 _ 0 v') (.inl rfl))
  have hbl := hk.below hB.size (fun k h => h.elim (fun e => by omega) (fun e => hVR k e))
  have hz1 := h1.size
  have hz2 := h2.size
  have hx5 : ∀ k cs, (k = w.heap.size ∨ rowOf v = some k) → V.heap[k]? = some (.cells cs 5 (0, 0)) → False := fun k cs h hc => by
    rcases h with rfl | h
    · have := hS.symm.trans hc
      simp at this
    · exact hV.ne hc (by decide) h
  refine ⟨hS3, hbl, ⟨v', ?_, vs ++ [v1], ?_, ?_, ?_⟩, fun B hB' => hk.from2 (fun k h => h.elim (fun e => .inl (by omega)) (fun e => .inr (by obtain ⟨cs, hc⟩ := hV.block k e; exact ⟨cs, _, hc⟩))), hB.trans hbl⟩
  · exact heap_setCell_at v' hS3
  · have := hQ3.keeps (Keeps.row (X := fun k => k = w.heap.size) (grown_setCell w3 w.heap.size 0 v') rfl) (fun g hg e => by
      subst e
      rcases hr with h | h
      · exact hneS (h ▸ hg)
      · rw [h] at hg; injection hg with hg; have := lt_of_block hS; omega)
    simpa using this
  · intro g hg
    rcases hr with h | h
    · exact hVR g (h ▸ hg)
    · rw [h] at hg; injection hg with hg; have := hB.size; omega
  · rw [List.map_append]
    refine (hVS.keeps hk hx5).snoc ?_ (fun g hg => Nat.le_trans hB.size (hr1 g hg))
    rw [← hn]
    refine ((hv1.keptNone h2).keeps (X := fun k => k = w.heap.size ∨ rowOf v = some k) ((Keeps.of h3 (fun r e => .inr e)).trans (Keeps.row (grown_setCell w3 _ 0 v') (.inl rfl))) (fun g hg e => ?_))
    have h5 := hr1 g hg
    rcases e with rfl | e
    · have := lt_of_block hS; omega
    · have := hV.lt g e; omega
def QueueR (w : World) (bs : Nat → List UInt8) (N : Nat) (e : Ending) (w' : World) : Prop :=
  (∃ v, e = .returned v ∧ CL w.heap.size w' v ((List.finRange N).map (fun x => bs x.val))) ∧ Below w.heap.size w w'
set_option maxRecDepth 100000 in
set_option maxHeartbeats 4000000 in
theorem queue_in (p : Option Addr) (N : Nat) (hN : N ≤ 100000) (pk : Pks) (bs : Nat → List UInt8) (w : World) (hq : Qu w.heap.size w p N pk) (hb : ∀ j, j < N → pk.n j = (bs j).length ∧ Go.Proofs.Ytnglbneefkdfgaa.Src w (pk.a j) (bs j) ∧ (bs j).length ≤ 1000000) :
    CallsIn Fence.wide 3 Try.prog 25 #[.pointer p] w (QueueR w bs N) := by
  have h1 : 1 ≤ 3 := by omega
  have HB0 := Lib.hid (show Below w.heap.size w (w.alloc (.cells #[.slice none 0 0] 34)) from (Below.refl _ w).alloc (Nat.le_refl _) _)
  have HF := Lib.hid (show BCell w.heap.size (.slice none 0 0) (w.alloc (.cells #[.slice none 0 0] 34)) from heap_alloc_new _ _)
  have HQ := Lib.hid hq
  have HB := Lib.hid hb
  clear hq hb
  refine callsIn_of_wp_marks Try.func25 rfl trivial ?_ rfl
  simp only [Try.ntmps25, List.size_toArray, List.length_cons, List.length_nil, Nat.reduceAdd, Nat.reduceSub, Array.replicate_succ, Array.replicate_zero, List.push_toArray, List.append_toArray, List.nil_append, List.cons_append]
  gi_wp2_with (refine ⟨trivial, ?_⟩; gi_at_call 32; refine (callsIn_wide.2 (all_any p _)).mono ?_; rintro e w1 ⟨C, rfl, hC, hbC, hg1⟩)
  simp only [World.size_alloc] at hC
  have hsz := hg1.size
  simp only [World.size_alloc] at hsz
  have HF1 : BCell w.heap.size (.slice none 0 0) w1 := block_kept HF.out hg1 (fun r e => by cases e)
  have HB1 : Below w.heap.size w w1 := HB0.out.grown hg1 HB0.out.size (fun k e => by cases e)
  clear HF HB0 hg1
  refine wpIn_rangeFunc_ownH rfl h1 (gf := 43) (lb := #[.pointer (some ⟨C, 0, none⟩)]) rfl trivial (enters_of Try.func43 (by kernel_rfl) rfl)
    (all1_stops (3 - 1) (by omega) C w.heap.size p N (by omega) pk w1 (by omega) (HQ.out.below HB1) hbC) belowK_t (belowK_b (by omega)) (Below.refl _ _) (fun _ => rfl)
    (fun pre W => QI w.heap.size bs pre W ∧ Below w.heap.size w W)
    (fun c pre W => False ∧ Below w.heap.size w W)
    (OwnFrom.and (Own.from (fun s A B row hs hg hr => by obtain ⟨v, e1, e2⟩ := hs; exact ⟨v, block_kept e1 hg hr, e2.keptw hg hr⟩) _) (ownFrom_below (Nat.le_refl _) (by omega)))
    (fun c => OwnFrom.and (Own.from (fun s A B row hs hg hr => hs) _) (ownFrom_below (Nat.le_refl _) (by omega)))
    ⟨⟨_, HF1, CL.nil _ _⟩, HB1⟩
    (fun x a' W => ∃ Bx, (W.heap[Bx]? = some (.cells #[.slice (pk.a x.val) (pk.n x.val) (pk.c x.val), .int .i64 (pk.f x.val)] 65 (0, 0))) ∧ a' = { tmps := #[.pointer p, undef, .slice none 0 0, .pointer (some ⟨w.heap.size, 0, none⟩), .pointer (some ⟨Bx, 0, none⟩), .pointer p, .func (.func 43) #[] #[.pointer (some ⟨C, 0, none⟩)], pk.val x.val, undef, undef, undef, undef, undef, undef, undef, undef], defers := [] })
    (fun x a' => Own.from (fun s A B row hs hg hr => by obtain ⟨Bx, h1, h2⟩ := hs; exact ⟨Bx, block_kept h1 hg hr, h2⟩) _)
    ?assign ?body ?done ?stop
  case assign =>
    rintro l pre x W KK ⟨hF, hBl⟩ hK
    have HN := Lib.hid (heap_alloc_new W (.cells #[.slice (pk.a x.val) (pk.n x.val) (pk.c x.val), .int .i64 (pk.f x.val)] 65))
    have hga := World.grownBy_alloc W (.cells #[.slice (pk.a x.val) (pk.n x.val) (pk.c x.val), .int .i64 (pk.f x.val)] 65) none
    have HF2 := Lib.hid (show QI w.heap.size bs pre _ from by obtain ⟨v, e1, e2⟩ := hF; exact ⟨v, block_kept e1 hga (fun r e => by cases e), e2.keptNone hga⟩)
    have HK := Lib.hid hK
    have HBl := Lib.hid hBl
    have HGA := Lib.hid hga
    clear hK hF hBl hga
    gi_wp2
    exact HK.out _ _ (KeepsFrom.of_grownBy HGA.out (fun j e => by cases e)) ((Below.refl _ W).grown HGA.out HBl.out.size (fun k e => by cases e)) ⟨HF2.out, HBl.out.grown HGA.out HBl.out.size (fun k e => by cases e)⟩ ⟨W.heap.size, HN.out, rfl⟩
  case body =>
    rintro l pre x a' V hl ⟨r, hr⟩ ⟨⟨v, hF, vs, hV, hVR, hVS⟩, hBl⟩ ⟨Bx, hcx, rfl⟩ hlt
    rw [List.length_map] at hV
    obtain ⟨qa, qcap, rfl, _⟩ := hV.shape
    have HXN := Lib.hid (show ¬ (Bx = w.heap.size ∨ rowOf (.slice qa pre.length qcap) = some Bx) from fun h => h.elim (fun e => by subst e; have := hcx.symm.trans hF; simp at this) (fun e => hV.ne hcx (by decide) e))
    have hpl : pre.length + 1 ≤ 1000000 := by omega
    have HX := Lib.hid hcx
    have HNC := Lib.hid (show V.heap[w.heap.size]? = some (.cells #[.slice qa pre.length qcap] 34 (0, 0)) from hF)
    have HSR := Lib.hid ((HB.out x.val x.isLt).2.1.below hBl)
    have HBl := Lib.hid hBl
    have HV := Lib.hid hV
    have HVR := Lib.hid hVR
    have HVS := Lib.hid hVS
    clear hcx hF hBl hr HQ HF1 HB1 hbC hV hVR hVS
    gi_wp2
    refine regx_open_w (fun k => k = w.heap.size ∨ rowOf (.slice qa pre.length qcap) = some k) (m := 8) (by rintro ⟨a, w, h⟩; exact h) (by kernel_rfl) rfl (by kernel_rfl) ?_
    refine regx_take 1 (some 9) (v := ?_) rfl rfl (by kernel_rfl) (by kernel_rfl) (by kernel_rfl) (fun _ _ _ h => h) (by rfl) ?_ ?_
    rotate_left
    · intro W hW; go_simp; first | done | with_reducible rfl
    try simp only [Act.put, List.setIfInBounds_toArray, List.set_cons_zero, List.set_cons_succ]
    refine regx_take 2 (some 10) (v := ?_) rfl rfl (by kernel_rfl) (by kernel_rfl) (by kernel_rfl) (fun _ _ _ h => h) (by rfl) ?_ ?_
    rotate_left
    · intro W hW; go_simp; first | done | with_reducible rfl
    try simp only [Act.put, List.setIfInBounds_toArray, List.set_cons_zero, List.set_cons_succ]
    refine regx_take 3 (some 11) (v := ?_) rfl rfl (by kernel_rfl) (by kernel_rfl) (by kernel_rfl) (fun _ _ _ h => h) (by rfl) ?_ ?_
    rotate_left
    · intro W hW; have k := cells_all ((hW.block Bx (lt_of_block HX.out) HXN.out).trans HX.out) 0; go_simp; first | done | with_reducible rfl
    try simp only [Act.put, List.setIfInBounds_toArray, List.set_cons_zero, List.set_cons_succ]
    refine wpAnyH_ready (rs := [0, 4]) (by kernel_rfl) (by simp) ?_
    refine (AllReadyH.cons (o := { dst := some 8, op := Op.load 34 (Operand.tmp 3), type := 34, pos := "net.go:105", after := #[], guard := none }) rfl (fun K hK => ?_) (AllReadyH.cons (o := { dst := some 12, op := Op.call { callee := Callee.value (Operand.func 30), args := #[Operand.tmp 11], argTypes := #[22] }, type := 22, pos := "net.go:105", after := #[{ on := 3, ground := Ground.data }], guard := none }) rfl (fun K hK => ?_) AllReadyH.nil))
    · have k8 : (V.drew).cell? ⟨w.heap.size, 0, none⟩ = some (.slice qa pre.length qcap) := by first | exact cells_all HNC.out 0 | exact cells_all (((drewl h1).block _ (lt_of_block HNC.out) (by simp)).trans HNC.out) 0 | exact cells_all ((((drewl h1).trans h2).block _ (lt_of_block HNC.out) (by simp)).trans HNC.out) 0
      go_simp
      refine regx_same hK ?_
      clear hK K
      try simp only [Act.put, List.setIfInBounds_toArray, List.set_cons_zero, List.set_cons_succ]
      refine wpAnyH_ready (rs := [4]) (by kernel_rfl) (by simp) ?_
      refine (AllReadyH.cons (o := { dst := some 12, op := Op.call { callee := Callee.value (Operand.func 30), args := #[Operand.tmp 11], argTypes := #[22] }, type := 22, pos := "net.go:105", after := #[{ on := 3, ground := Ground.data }], guard := none }) rfl (fun K hK => ?_) AllReadyH.nil)
      go_simp
      refine (copied_k pk bs x.val _ (HB.out x.val x.isLt).1 (HSR.out.keeps (X := fun k => False) (Keeps.keep (drewl (World.grownBy.refl _ _))) (fun _ _ _ _ h => h)) (HB.out x.val x.isLt).2.2).mono ?_; rintro e u1 ⟨v1, rfl, hv1, h1, hr1⟩; obtain ⟨a1, c1, rfl, -⟩ := hv1.shape
      refine regx_next hK (Keeps.keep h1) ?_
      clear hK K
      try simp only [Act.put, List.setIfInBounds_toArray, List.set_cons_zero, List.set_cons_succ]
      refine wpAnyH_ready (rs := [5]) (by kernel_rfl) (by simp) ?_
      refine (AllReadyH.cons (o := { dst := some 13, op := Op.buildSlice 34 1 #[(0, Operand.tmp 12)], type := 34, pos := "net.go:105", after := #[{ on := 4, ground := Ground.data }], guard := none }) rfl (fun K hK => ?_) AllReadyH.nil)
      go_simp
      have hn := heap_alloc_new u1 (.cells #[.slice a1 (pk.n x.val) c1] 22); have h2 := World.grownBy_alloc u1 (.cells #[.slice a1 (pk.n x.val) c1] 22) none
      refine regx_next hK (Keeps.keep h2) ?_
      clear hK K
      try simp only [Act.put, List.setIfInBounds_toArray, List.set_cons_zero, List.set_cons_succ]
      refine wpAnyH_ready (rs := [6]) (by kernel_rfl) (by simp) ?_
      refine (AllReadyH.cons (o := { dst := some 14, op := Op.call { callee := Callee.builtin Builtin.append, args := #[Operand.tmp 8, Operand.tmp 13], argTypes := #[34, 34] }, type := 34, pos := "net.go:105", after := #[{ on := 0, ground := Ground.data }, { on := 5, ground := Ground.data }, { on := 4, ground := Ground.chain }], guard := none }) rfl (fun K hK => ?_) AllReadyH.nil)
      refine wp_gs eL 34 (.tmp 8) (.tmp 13) rfl (.slice qa pre.length qcap) (.slice (some ⟨u1.heap.size, 0, none⟩) 1 1) pre.length 1 vs [.slice a1 (pk.n x.val) c1] rfl rfl ?_ ?_ ?_ ?_ ?_
      · exact (HV.out.keptNone (drewl h1)).keptNone h2
      · exact src_ls hn
      · simp [Value.oneCell']
      · omega
      intro v' w3 hQ3 h3 hr
      have hP := queue_step w V u1 _ w3 pre x bs pk _ vs _ HNC.out HV.out HVR.out HVS.out HBl.out hv1 hr1 (drewl h1) h2 (HB.out x.val x.isLt).1 hQ3 h3 hr
      have k0 := cells_all hP.1 0
      have f0 := frozen_all hP.1 0
      obtain ⟨a3, c3, rfl, -⟩ := hQ3.shape
      refine regx_next hK (Keeps.of h3 (fun r e => .inr e)) ?_
      clear hK K
      try simp only [Act.put, List.setIfInBounds_toArray, List.set_cons_zero, List.set_cons_succ]
      refine wpAnyH_ready (rs := [7]) (by kernel_rfl) (by simp) ?_
      refine (AllReadyH.cons (o := { dst := none, op := Op.store 34 (Operand.tmp 3) (Operand.tmp 14), type := 0, pos := "net.go:105", after := #[{ on := 6, ground := Ground.data }, { on := 6, ground := Ground.chain }, { on := 0, ground := Ground.phase }, { on := 1, ground := Ground.phase }, { on := 2, ground := Ground.phase }, { on := 3, ground := Ground.phase }, { on := 4, ground := Ground.phase }, { on := 5, ground := Ground.phase }, { on := 6, ground := Ground.phase }], guard := none }) rfl (fun K hK => ?_) AllReadyH.nil)
      go_simp
      refine regx_next hK (Keeps.row (grown_setCell w3 w.heap.size 0 _) (.inl rfl)) ?_
      clear hK K
      try simp only [Act.put]
      refine wpAnyH_done (by kernel_rfl) ?_ _
      have HP := Lib.hid hP
      clear hP hn h1 h2 h3 hv1 hr1 hQ3 hr k0 f0
      gi_wp2
      exact ⟨HP.out.2.2.2.1 _ (by omega), HP.out.2.1, HP.out.2.2.1, HP.out.2.2.2.2⟩
    · go_simp
      refine (copied_k pk bs x.val _ (HB.out x.val x.isLt).1 (HSR.out.keeps (X := fun k => False) (Keeps.keep (drewl (World.grownBy.refl _ _))) (fun _ _ _ _ h => h)) (HB.out x.val x.isLt).2.2).mono ?_; rintro e u1 ⟨v1, rfl, hv1, h1, hr1⟩; obtain ⟨a1, c1, rfl, -⟩ := hv1.shape
      refine regx_next hK (Keeps.keep h1) ?_
      clear hK K
      try simp only [Act.put, List.setIfInBounds_toArray, List.set_cons_zero, List.set_cons_succ]
      refine wpAnyH_ready (rs := [0, 5]) (by kernel_rfl) (by simp) ?_
      refine (AllReadyH.cons (o := { dst := some 8, op := Op.load 34 (Operand.tmp 3), type := 34, pos := "net.go:105", after := #[], guard := none }) rfl (fun K hK => ?_) (AllReadyH.cons (o := { dst := some 13, op := Op.buildSlice 34 1 #[(0, Operand.tmp 12)], type := 34, pos := "net.go:105", after := #[{ on := 4, ground := Ground.data }], guard := none }) rfl (fun K hK => ?_) AllReadyH.nil))
      · have k8 : (u1).cell? ⟨w.heap.size, 0, none⟩ = some (.slice qa pre.length qcap) := by first | exact cells_all HNC.out 0 | exact cells_all (((drewl h1).block _ (lt_of_block HNC.out) (by simp)).trans HNC.out) 0 | exact cells_all ((((drewl h1).trans h2).block _ (lt_of_block HNC.out) (by simp)).trans HNC.out) 0
        go_simp
        refine regx_same hK ?_
        clear hK K
        try simp only [Act.put, List.setIfInBounds_toArray, List.set_cons_zero, List.set_cons_succ]
        refine wpAnyH_ready (rs := [5]) (by kernel_rfl) (by simp) ?_
        refine (AllReadyH.cons (o := { dst := some 13, op := Op.buildSlice 34 1 #[(0, Operand.tmp 12)], type := 34, pos := "net.go:105", after := #[{ on := 4, ground := Ground.data }], guard := none }) rfl (fun K hK => ?_) AllReadyH.nil)
        go_simp
        have hn := heap_alloc_new u1 (.cells #[.slice a1 (pk.n x.val) c1] 22); have h2 := World.grownBy_alloc u1 (.cells #[.slice a1 (pk.n x.val) c1] 22) none
        refine regx_next hK (Keeps.keep h2) ?_
        clear hK K
        try simp only [Act.put, List.setIfInBounds_toArray, List.set_cons_zero, List.set_cons_succ]
        refine wpAnyH_ready (rs := [6]) (by kernel_rfl) (by simp) ?_
        refine (AllReadyH.cons (o := { dst := some 14, op := Op.call { callee := Callee.builtin Builtin.append, args := #[Operand.tmp 8, Operand.tmp 13], argTypes := #[34, 34] }, type := 34, pos := "net.go:105", after := #[{ on := 0, ground := Ground.data }, { on := 5, ground := Ground.data }, { on := 4, ground := Ground.chain }], guard := none }) rfl (fun K hK => ?_) AllReadyH.nil)
        refine wp_gs eL 34 (.tmp 8) (.tmp 13) rfl (.slice qa pre.length qcap) (.slice (some ⟨u1.heap.size, 0, none⟩) 1 1) pre.length 1 vs [.slice a1 (pk.n x.val) c1] rfl rfl ?_ ?_ ?_ ?_ ?_
        · exact (HV.out.keptNone (drewl h1)).keptNone h2
        · exact src_ls hn
        · simp [Value.oneCell']
        · omega
        intro v' w3 hQ3 h3 hr
        have hP := queue_step w V u1 _ w3 pre x bs pk _ vs _ HNC.out HV.out HVR.out HVS.out HBl.out hv1 hr1 (drewl h1) h2 (HB.out x.val x.isLt).1 hQ3 h3 hr
        have k0 := cells_all hP.1 0
        have f0 := frozen_all hP.1 0
        obtain ⟨a3, c3, rfl, -⟩ := hQ3.shape
        refine regx_next hK (Keeps.of h3 (fun r e => .inr e)) ?_
        clear hK K
        try simp only [Act.put, List.setIfInBounds_toArray, List.set_cons_zero, List.set_cons_succ]
        refine wpAnyH_ready (rs := [7]) (by kernel_rfl) (by simp) ?_
        refine (AllReadyH.cons (o := { dst := none, op := Op.store 34 (Operand.tmp 3) (Operand.tmp 14), type := 0, pos := "net.go:105", after := #[{ on := 6, ground := Ground.data }, { on := 6, ground := Ground.chain }, { on := 0, ground := Ground.phase }, { on := 1, ground := Ground.phase }, { on := 2, ground := Ground.phase }, { on := 3, ground := Ground.phase }, { on := 4, ground := Ground.phase }, { on := 5, ground := Ground.phase }, { on := 6, ground := Ground.phase }], guard := none }) rfl (fun K hK => ?_) AllReadyH.nil)
        go_simp
        refine regx_next hK (Keeps.row (grown_setCell w3 w.heap.size 0 _) (.inl rfl)) ?_
        clear hK K
        try simp only [Act.put]
        refine wpAnyH_done (by kernel_rfl) ?_ _
        have HP := Lib.hid hP
        clear hP hn h1 h2 h3 hv1 hr1 hQ3 hr k0 f0
        gi_wp2
        exact ⟨HP.out.2.2.2.1 _ (by omega), HP.out.2.1, HP.out.2.2.1, HP.out.2.2.2.2⟩
      · go_simp
        have hn := heap_alloc_new u1 (.cells #[.slice a1 (pk.n x.val) c1] 22); have h2 := World.grownBy_alloc u1 (.cells #[.slice a1 (pk.n x.val) c1] 22) none
        refine regx_next hK (Keeps.keep h2) ?_
        clear hK K
        try simp only [Act.put, List.setIfInBounds_toArray, List.set_cons_zero, List.set_cons_succ]
        refine wpAnyH_ready (rs := [0]) (by kernel_rfl) (by simp) ?_
        refine (AllReadyH.cons (o := { dst := some 8, op := Op.load 34 (Operand.tmp 3), type := 34, pos := "net.go:105", after := #[], guard := none }) rfl (fun K hK => ?_) AllReadyH.nil)
        have k8 : ((u1.alloc (.cells #[.slice a1 (pk.n x.val) c1] 22))).cell? ⟨w.heap.size, 0, none⟩ = some (.slice qa pre.length qcap) := by first | exact cells_all HNC.out 0 | exact cells_all (((drewl h1).block _ (lt_of_block HNC.out) (by simp)).trans HNC.out) 0 | exact cells_all ((((drewl h1).trans h2).block _ (lt_of_block HNC.out) (by simp)).trans HNC.out) 0
        go_simp
        refine regx_same hK ?_
        clear hK K
        try simp only [Act.put, List.setIfInBounds_toArray, List.set_cons_zero, List.set_cons_succ]
        refine wpAnyH_ready (rs := [6]) (by kernel_rfl) (by simp) ?_
        refine (AllReadyH.cons (o := { dst := some 14, op := Op.call { callee := Callee.builtin Builtin.append, args := #[Operand.tmp 8, Operand.tmp 13], argTypes := #[34, 34] }, type := 34, pos := "net.go:105", after := #[{ on := 0, ground := Ground.data }, { on := 5, ground := Ground.data }, { on := 4, ground := Ground.chain }], guard := none }) rfl (fun K hK => ?_) AllReadyH.nil)
        refine wp_gs eL 34 (.tmp 8) (.tmp 13) rfl (.slice qa pre.length qcap) (.slice (some ⟨u1.heap.size, 0, none⟩) 1 1) pre.length 1 vs [.slice a1 (pk.n x.val) c1] rfl rfl ?_ ?_ ?_ ?_ ?_
        · exact (HV.out.keptNone (drewl h1)).keptNone h2
        · exact src_ls hn
        · simp [Value.oneCell']
        · omega
        intro v' w3 hQ3 h3 hr
        have hP := queue_step w V u1 _ w3 pre x bs pk _ vs _ HNC.out HV.out HVR.out HVS.out HBl.out hv1 hr1 (drewl h1) h2 (HB.out x.val x.isLt).1 hQ3 h3 hr
        have k0 := cells_all hP.1 0
        have f0 := frozen_all hP.1 0
        obtain ⟨a3, c3, rfl, -⟩ := hQ3.shape
        refine regx_next hK (Keeps.of h3 (fun r e => .inr e)) ?_
        clear hK K
        try simp only [Act.put, List.setIfInBounds_toArray, List.set_cons_zero, List.set_cons_succ]
        refine wpAnyH_ready (rs := [7]) (by kernel_rfl) (by simp) ?_
        refine (AllReadyH.cons (o := { dst := none, op := Op.store 34 (Operand.tmp 3) (Operand.tmp 14), type := 0, pos := "net.go:105", after := #[{ on := 6, ground := Ground.data }, { on := 6, ground := Ground.chain }, { on := 0, ground := Ground.phase }, { on := 1, ground := Ground.phase }, { on := 2, ground := Ground.phase }, { on := 3, ground := Ground.phase }, { on := 4, ground := Ground.phase }, { on := 5, ground := Ground.phase }, { on := 6, ground := Ground.phase }], guard := none }) rfl (fun K hK => ?_) AllReadyH.nil)
        go_simp
        refine regx_next hK (Keeps.row (grown_setCell w3 w.heap.size 0 _) (.inl rfl)) ?_
        clear hK K
        try simp only [Act.put]
        refine wpAnyH_done (by kernel_rfl) ?_ _
        have HP := Lib.hid hP
        clear hP hn h1 h2 h3 hv1 hr1 hQ3 hr k0 f0
        gi_wp2
        exact ⟨HP.out.2.2.2.1 _ (by omega), HP.out.2.1, HP.out.2.2.1, HP.out.2.2.2.2⟩
  case done =>
    rintro D ys W hD rfl ⟨⟨v, hF, hCL⟩, hBl⟩ hK
    have hF5 := block_kept hF (grownBy_putObj' W D (.deferred none)) (fun r e => by cases e; exact ⟨_, hK, rfl⟩)
    have hC5 := hCL.keptw (grownBy_putObj' W D (.deferred none)) (fun r e => by cases e; exact ⟨_, hK, rfl⟩)
    have hB5 := hBl.trans (belowK_b (w := w) (Nat.le_refl _) W D _ (.deferred none) (by omega) hK rfl rfl)
    have c0 := cells_all hF 0
    have HC5 := Lib.hid hC5
    have HB5 := Lib.hid hB5
    clear hF hBl hCL hF5 hC5 hB5
    gi_wp2
    refine ⟨by simp, .inl ⟨_, _, rfl, run_takeDeferred hK, ?_⟩⟩
    refine ⟨v, ?_, ⟨v, rfl, HC5.out⟩, HB5.out⟩
    simp [results, Try.f25, go_sem]
  case stop =>
    rintro D c pre W hD _ ⟨h, _⟩
    exact h.elim
end Go.Proofs.Ytnglbneefkdfgaa
