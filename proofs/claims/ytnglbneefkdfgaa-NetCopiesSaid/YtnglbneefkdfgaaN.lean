import Derived.Test.YtnglbneefkdfgaaM
import Derived.Scope
set_option linter.unusedVariables false
namespace Go.Proofs.Ytnglbneefkdfgaa
open Go.RowKit Go.Shelf
attribute [local go_sem] Oper.semAt_some
theorem all_any (p : Option Addr) (w : World) : Calls Try.prog 32 #[.pointer p] w fun e w' => ∃ C, e = .returned (.func (.func 43) #[] #[.pointer (some ⟨C, 0, none⟩)]) ∧ w.heap.size ≤ C ∧ w'.heap[C]? = some (.cells #[.pointer p] 24 (0, 0)) ∧ w.grownBy w' none := by
  have HN := Lib.hid (heap_alloc_new w (.cells #[.pointer p] 24))
  go_enter Try.func32, Try.ntmps32
  go_wp2
  go_ret
  exact ⟨_, rfl, Nat.le_refl _, HN.out, World.grownBy_alloc _ _ _⟩
theorem copied_k (pk : Pks) (bs : Nat → List UInt8) (j : Nat) (w : World) (h1 : pk.n j = (bs j).length) (h2 : Go.Proofs.Ytnglbneefkdfgaa.Src w (pk.a j) (bs j)) (h3 : (bs j).length ≤ 1000000) : Calls Try.prog 30 #[.slice (pk.a j) (pk.n j) (pk.c j)] w fun e w' => ∃ v', e = .returned v' ∧ Gs eB w' v' (pk.n j) (bsV (bs j)) ∧ w.grownBy w' none ∧ (∀ k, rowOf v' = some k → w.heap.size ≤ k) :=
  copied_b _ _ _ _ (by rw [h1]; exact src_go h2) (bs_one _) (by rw [h1]; exact h3)
/-- The cells of Next's results. -/
def NC (S : Nat) (v : Value) (f : Int) (b : Bool) (W : World) : Prop :=
  W.heap[S]? = some (.cells #[v] 22 (0, 0)) ∧ W.heap[S + 1]? = some (.cells #[.int .i64 f] 3 (0, 0)) ∧ W.heap[S + 1 + 1]? = some (.cells #[.bool b] 4 (0, 0))
theorem block_kept {A B : World} {S : Nat} {cs : Array Value} {t : TypeId} {fz : Nat × Nat} {row : Option Nat} (h : A.heap[S]? = some (.cells cs t fz)) (hg : A.grownBy B row) (hr : ∀ r, row = some r → ∃ o : Obj, A.heap[r]? = some o ∧ o.isCells = false) : B.heap[S]? = some (.cells cs t fz) := by
  refine (hg.block S (lt_of_block h) (fun e => ?_)).trans h
  obtain ⟨o, ho, hc⟩ := hr S e.symm
  rw [h] at ho
  cases ho
  cases hc
theorem NC.kept {S : Nat} {v : Value} {f : Int} {b : Bool} {A B : World} {row : Option Nat} (h : NC S v f b A) (hg : A.grownBy B row) (hr : ∀ r, row = some r → ∃ o : Obj, A.heap[r]? = some o ∧ o.isCells = false) : NC S v f b B :=
  ⟨block_kept h.1 hg hr, block_kept h.2.1 hg hr, block_kept h.2.2 hg hr⟩
theorem NC.write {S : Nat} {v : Value} {f : Int} {b : Bool} {W : World} (h : NC S v f b W) (v1 : Value) (f1 : Int) (b1 : Bool) : NC S v1 f1 b1 (((W.setCell ⟨S, 0, none⟩ v1).setCell ⟨S + 1, 0, none⟩ (.int .i64 f1)).setCell ⟨S + 1 + 1, 0, none⟩ (.bool b1)) ∧ Keeps (fun k => k = S ∨ k = S + 1 ∨ k = S + 1 + 1) W (((W.setCell ⟨S, 0, none⟩ v1).setCell ⟨S + 1, 0, none⟩ (.int .i64 f1)).setCell ⟨S + 1 + 1, 0, none⟩ (.bool b1)) := by
  obtain ⟨n0, n1, n2⟩ := h
  have s1 := grown_setCell W S 0 v1
  have s2 := grown_setCell (W.setCell ⟨S, 0, none⟩ v1) (S + 1) 0 (.int .i64 f1)
  have s3 := grown_setCell ((W.setCell ⟨S, 0, none⟩ v1).setCell ⟨S + 1, 0, none⟩ (.int .i64 f1)) (S + 1 + 1) 0 (.bool b1)
  have z0 := lt_of_block n0
  have z1 := lt_of_block n1
  have z2 := lt_of_block n2
  have y1 : ((W.setCell ⟨S, 0, none⟩ v1).heap[S + 1]?) = _ := (s1.block _ z1 (by simp)).trans n1
  have y2 : ((W.setCell ⟨S, 0, none⟩ v1).heap[S + 1 + 1]?) = _ := (s1.block _ z2 (by simp; omega)).trans n2
  have x2 : (((W.setCell ⟨S, 0, none⟩ v1).setCell ⟨S + 1, 0, none⟩ (.int .i64 f1)).heap[S + 1 + 1]?) = _ := (s2.block _ (by simpa [World.setCell] using z2) (by simp)).trans y2
  refine ⟨⟨?_, ?_, ?_⟩, ((Keeps.row s1 (.inl rfl)).trans (Keeps.row s2 (.inr (.inl rfl)))).trans (Keeps.row s3 (.inr (.inr rfl)))⟩
  · refine (s3.block _ (by simpa [World.setCell] using z0) (by simp; omega)).trans ((s2.block _ (by simpa [World.setCell] using z0) (by simp)).trans ?_)
    exact heap_setCell_at v1 n0
  · refine (s3.block _ (by simpa [World.setCell] using z1) (by simp)).trans ?_
    exact heap_setCell_at _ y1
  · exact heap_setCell_at _ x2
theorem Gs.keptw {E : El} {w w' : World} {v : Value} {n : Nat} {vs : List Value} {row : Option Nat} (h : Gs E w v n vs) (hg : w.grownBy w' row) (hr : ∀ r, row = some r → ∃ o : Obj, w.heap[r]? = some o ∧ o.isCells = false) : Gs E w' v n vs :=
  h.kept hg (fun g hg' e => by
    obtain ⟨cs, hc⟩ := h.block g hg'
    obtain ⟨o, ho, hf⟩ := hr g e.symm
    rw [hc] at ho
    cases ho
    cases hf)
theorem Keeps.from {X : Nat → Prop} {W W' : World} {B : Nat} (h : Keeps X W W') (hx : ∀ k, X k → k < B) : KeepsFrom B W W' :=
  ⟨h.size, fun k o hB hk _ => (h.block k (Array.getElem?_eq_some_iff.1 hk).1 (fun hX => by have := hx k hX; omega)).trans hk⟩
theorem Keeps.below {X : Nat → Prop} {W W' : World} {B : Nat} (h : Keeps X W W') (hB : B ≤ W.heap.size) (hx : ∀ k, X k → B ≤ k) : Below B W W' :=
  ⟨h.os, h.tape, h.output, h.size, fun k hk => h.block k (by omega) (fun hX => by have := hx k hX; omega)⟩
def NIx (w : World) (pk : Pks) (bs : Nat → List UInt8) (N : Nat) (c : Code) (pre : List (Fin N)) (W : World) : Prop :=
  (c = .ret ∧ ∃ (x : Fin N) (v' : Value), pre = [x] ∧ NC w.heap.size v' (pk.f x.val) true W ∧ Gs eB W v' (pk.n x.val) (bsV (bs x.val)) ∧ (∀ k, rowOf v' = some k → w.heap.size ≤ k))
theorem next_end (w V u1 : World) (j : Nat) (pk : Pks) (bs : Nat → List UInt8) (v1 : Value) {N : Nat} {x : Fin N} {B : Nat} (hNC : NC w.heap.size (.slice none 0 0) 0 false u1) (hv1 : Gs eB u1 v1 (pk.n x.val) (bsV (bs x.val))) (hr1 : ∀ k, rowOf v1 = some k → V.heap.size ≤ k) (hg1 : V.drew.grownBy u1 none) (hB : Below w.heap.size w V)
    (hk : Keeps (fun k => k = w.heap.size ∨ k = w.heap.size + 1 ∨ k = w.heap.size + 1 + 1) V (((u1.setCell ⟨w.heap.size, 0, none⟩ v1).setCell ⟨w.heap.size + 1, 0, none⟩ (.int .i64 (pk.f x.val))).setCell ⟨w.heap.size + 1 + 1, 0, none⟩ (.bool true))) (hsz : w.heap.size + 1 + 1 + 1 ≤ V.heap.size) (hL : w.heap.size + 1 + 1 + 1 ≤ B) :
    KeepsFrom B V (((u1.setCell ⟨w.heap.size, 0, none⟩ v1).setCell ⟨w.heap.size + 1, 0, none⟩ (.int .i64 (pk.f x.val))).setCell ⟨w.heap.size + 1 + 1, 0, none⟩ (.bool true)) ∧ NIx w pk bs N .ret [x] (((u1.setCell ⟨w.heap.size, 0, none⟩ v1).setCell ⟨w.heap.size + 1, 0, none⟩ (.int .i64 (pk.f x.val))).setCell ⟨w.heap.size + 1 + 1, 0, none⟩ (.bool true)) ∧ Below w.heap.size w (((u1.setCell ⟨w.heap.size, 0, none⟩ v1).setCell ⟨w.heap.size + 1, 0, none⟩ (.int .i64 (pk.f x.val))).setCell ⟨w.heap.size + 1 + 1, 0, none⟩ (.bool true)) := by
  obtain ⟨hF, hkk⟩ := hNC.write v1 (pk.f x.val) true
  refine ⟨hk.from (fun k h => by omega), ⟨rfl, x, v1, rfl, hF, ?_, fun k h => Nat.le_trans hB.size (hr1 k h)⟩, hB.trans (hk.below hB.size (fun k h => by omega))⟩
  refine hv1.keeps hkk (fun g hg e => ?_)
  have := hr1 g hg
  omega
/-- What Next tells. -/
def NextR (w : World) (pk : Pks) (bs : Nat → List UInt8) (N : Nat) (e : Ending) (w' : World) : Prop :=
  ((N = 0 ∧ e = .returned (.tuple #[.slice none 0 0, .int .i64 0, .bool false])) ∨ (0 < N ∧ ∃ v', e = .returned (.tuple #[v', .int .i64 (pk.f 0), .bool true]) ∧ Gs eB w' v' (pk.n 0) (bsV (bs 0)) ∧ (∀ k, rowOf v' = some k → w.heap.size ≤ k))) ∧ Below w.heap.size w w'
set_option maxRecDepth 100000 in
set_option maxHeartbeats 4000000 in
theorem next_in (p : Option Addr) (N : Nat) (hN : N ≤ 9223372036854775807) (pk : Pks) (bs : Nat → List UInt8) (w : World) (hq : Qu w.heap.size w p N pk) (hb : ∀ j, j < N → pk.n j = (bs j).length ∧ Go.Proofs.Ytnglbneefkdfgaa.Src w (pk.a j) (bs j) ∧ (bs j).length ≤ 1000000) :
    CallsIn Fence.wide 3 Try.prog 16 #[.pointer p] w (NextR w pk bs N) := by
  have h1 : 1 ≤ 3 := by omega
  have hB0 : Below w.heap.size w (((w.alloc (.cells #[.slice none 0 0] 22)).alloc (.cells #[.int .i64 0] 3)).alloc (.cells #[.bool false] 4)) := (((Below.refl _ w).alloc (Nat.le_refl _) _).alloc (by simp) _).alloc (by simp; omega) _
  have b1 := (((Boxed.new w 22 (.slice none 0 0)).alloc (.cells #[.int .i64 0] 3)).alloc (.cells #[.bool false] 4))
  have b2 := ((Boxed.new (w.alloc (.cells #[.slice none 0 0] 22)) 3 (.int .i64 0)).alloc (.cells #[.bool false] 4))
  have b3 := Boxed.new ((w.alloc (.cells #[.slice none 0 0] 22)).alloc (.cells #[.int .i64 0] 3)) 4 (.bool false)
  simp only [World.size_alloc] at b2 b3
  have HF := Lib.hid (show NC w.heap.size (.slice none 0 0) 0 false _ from ⟨b1, b2, b3⟩)
  have HB0 := Lib.hid hB0
  have HQ := Lib.hid hq
  have HB := Lib.hid hb
  clear hB0 b1 b2 b3 hq hb
  refine callsIn_of_wp_marks Try.func16 rfl trivial ?_ rfl
  simp only [Try.ntmps16, List.size_toArray, List.length_cons, List.length_nil, Nat.reduceAdd, Nat.reduceSub, Array.replicate_succ, Array.replicate_zero, List.push_toArray, List.append_toArray, List.nil_append, List.cons_append]
  gi_wp2_with (refine ⟨trivial, ?_⟩; gi_at_call 32; refine (callsIn_wide.2 (all_any p _)).mono ?_; rintro e w1 ⟨C, rfl, hC, hbC, hg1⟩)
  simp only [World.size_alloc] at hC
  have hsz := hg1.size
  simp only [World.size_alloc] at hsz
  have HF1 : NC w.heap.size (.slice none 0 0) 0 false w1 := HF.out.kept hg1 (fun r e => by cases e)
  have HB1 : Below w.heap.size w w1 := HB0.out.grown hg1 HB0.out.size (fun k e => by cases e)
  clear HF HB0 hg1
  refine wpIn_rangeFunc_ownH rfl h1 (gf := 43) (lb := #[.pointer (some ⟨C, 0, none⟩)]) rfl trivial (enters_of Try.func43 (by kernel_rfl) rfl)
    (all1_stops (3 - 1) (by omega) C w.heap.size p N hN pk w1 (by omega) (HQ.out.below HB1) hbC) belowK_t (belowK_b (by omega)) (Below.refl _ _) (fun _ => rfl)
    (fun pre W => (NC w.heap.size (.slice none 0 0) 0 false W ∧ pre = []) ∧ Below w.heap.size w W)
    (fun c pre W => NIx w pk bs N c pre W ∧ Below w.heap.size w W)
    (OwnFrom.and (Own.from (fun s A B row hs hg hr => ⟨hs.1.kept hg hr, hs.2⟩) _) (ownFrom_below (Nat.le_refl _) (by omega)))
    (fun c => OwnFrom.and (Own.from (fun s A B row hs hg hr => by obtain ⟨hc, x, v', e1, e2, e3, e4⟩ := hs; exact ⟨hc, x, v', e1, e2.kept hg hr, e3.keptw hg hr, e4⟩) _) (ownFrom_below (Nat.le_refl _) (by omega)))
    ⟨⟨HF1, rfl⟩, HB1⟩
    (fun x a' W => ∃ Bx, (W.heap[Bx]? = some (.cells #[.slice (pk.a x.val) (pk.n x.val) (pk.c x.val), .int .i64 (pk.f x.val)] 65 (0, 0)) ∧ w.heap.size + 1 + 1 + 1 ≤ Bx) ∧ a' = { tmps := #[.pointer p, undef, .pointer (some ⟨w.heap.size, 0, none⟩), .pointer (some ⟨w.heap.size + 1, 0, none⟩), .pointer (some ⟨w.heap.size + 1 + 1, 0, none⟩), .pointer (some ⟨Bx, 0, none⟩), .pointer p, .func (.func 43) #[] #[.pointer (some ⟨C, 0, none⟩)], pk.val x.val, undef, undef, undef, undef, undef, undef], defers := [] })
    (fun x a' => Own.from (fun s A B row hs hg hr => by obtain ⟨Bx, h1, h2⟩ := hs; exact ⟨Bx, ⟨block_kept h1.1 hg hr, h1.2⟩, h2⟩) _)
    ?assign ?body ?done ?stop
  case assign =>
    rintro l pre x W KK ⟨⟨hF, hpre⟩, hBl⟩ hK
    have hsz3 := lt_of_block hF.2.2
    have HN := Lib.hid (heap_alloc_new W (.cells #[.slice (pk.a x.val) (pk.n x.val) (pk.c x.val), .int .i64 (pk.f x.val)] 65))
    have hga := World.grownBy_alloc W (.cells #[.slice (pk.a x.val) (pk.n x.val) (pk.c x.val), .int .i64 (pk.f x.val)] 65) none
    have HF2 := Lib.hid (hF.kept hga (fun r e => by cases e))
    have HK := Lib.hid hK
    have HP := Lib.hid hpre
    have HBl := Lib.hid hBl
    have HGA := Lib.hid hga
    clear hK hF hpre hBl hga
    gi_wp2
    exact HK.out _ _ (KeepsFrom.of_grownBy HGA.out (fun j e => by cases e)) ((Below.refl _ W).grown HGA.out HBl.out.size (fun k e => by cases e)) ⟨⟨HF2.out, HP.out⟩, HBl.out.grown HGA.out HBl.out.size (fun k e => by cases e)⟩ ⟨W.heap.size, ⟨HN.out, by omega⟩, rfl⟩
  case body =>
    rintro l pre x a' V hl ⟨r, hr⟩ ⟨⟨hF, rfl⟩, hBl⟩ ⟨Bx, ⟨hcx, hbx⟩, rfl⟩ hlt
    have hsz3 := lt_of_block hF.2.2
    have hsz : w.heap.size + 1 + 1 + 1 ≤ V.heap.size := by omega
    have hL : w.heap.size + 1 + 1 + 1 ≤ w1.heap.size := by omega
    have HX := Lib.hid hcx
    have HNC := Lib.hid hF
    have HSR := Lib.hid ((HB.out x.val x.isLt).2.1.below hBl)
    have HBl := Lib.hid hBl
    clear hcx hF hBl hr HQ HF1 HB1 hbC
    gi_wp2
    refine regx_open_w (fun k => k = w.heap.size ∨ k = w.heap.size + 1 ∨ k = w.heap.size + 1 + 1) (m := 9) (by rintro ⟨a, w, h⟩; exact h) (by kernel_rfl) rfl (by kernel_rfl) ?_
    refine regx_take 0 (some 9) (v := ?_) rfl rfl (by kernel_rfl) (by kernel_rfl) (by kernel_rfl) (fun _ _ _ h => h) (by rfl) ?_ ?_
    rotate_left
    · intro W hW; go_simp; first | done | with_reducible rfl
    try simp only [Act.put, List.setIfInBounds_toArray, List.set_cons_zero, List.set_cons_succ]
    refine regx_take 1 (some 10) (v := ?_) rfl rfl (by kernel_rfl) (by kernel_rfl) (by kernel_rfl) (fun _ _ _ h => h) (by rfl) ?_ ?_
    rotate_left
    · intro W hW; go_simp; first | done | with_reducible rfl
    try simp only [Act.put, List.setIfInBounds_toArray, List.set_cons_zero, List.set_cons_succ]
    refine regx_take 2 (some 11) (v := ?_) rfl rfl (by kernel_rfl) (by kernel_rfl) (by kernel_rfl) (fun _ _ _ h => h) (by rfl) ?_ ?_
    rotate_left
    · intro W hW; have k := cells_all ((hW.block Bx (lt_of_block HX.out) (by omega)).trans HX.out) 0; go_simp; first | done | with_reducible rfl
    try simp only [Act.put, List.setIfInBounds_toArray, List.set_cons_zero, List.set_cons_succ]
    refine regx_take 4 (some 13) (v := ?_) rfl rfl (by kernel_rfl) (by kernel_rfl) (by kernel_rfl) (fun _ _ _ h => h) (by rfl) ?_ ?_
    rotate_left
    · intro W hW; go_simp; first | done | with_reducible rfl
    try simp only [Act.put, List.setIfInBounds_toArray, List.set_cons_zero, List.set_cons_succ]
    refine regx_take 5 (some 14) (v := ?_) rfl rfl (by kernel_rfl) (by kernel_rfl) (by kernel_rfl) (fun _ _ _ h => h) (by rfl) ?_ ?_
    rotate_left
    · intro W hW; have k := cells_all ((hW.block Bx (lt_of_block HX.out) (by omega)).trans HX.out) 1; go_simp; first | done | with_reducible rfl
    try simp only [Act.put, List.setIfInBounds_toArray, List.set_cons_zero, List.set_cons_succ]
    refine wpAnyH_ready (rs := [3]) (by kernel_rfl) (by simp) ?_
    refine (AllReadyH.cons (o := { dst := some 12, op := Op.call { callee := Callee.value (Operand.func 30), args := #[Operand.tmp 11], argTypes := #[22] }, type := 22, pos := "net.go:65", after := #[{ on := 2, ground := Ground.data }], guard := none }) rfl (fun K hK => ?_) AllReadyH.nil)
    go_simp
    refine (copied_k pk bs x.val V.drew (HB.out x.val x.isLt).1 (HSR.out.keeps (X := fun k => False) (Keeps.keep (drewl (World.grownBy.refl _ _))) (fun _ _ _ _ h => h)) (HB.out x.val x.isLt).2.2).mono ?_; rintro e u1 ⟨v1, rfl, hv1, hg1, hr1⟩; obtain ⟨a1, c1, rfl, -⟩ := hv1.shape
    refine regx_next hK (Keeps.keep hg1) ?_
    clear hK K
    try simp only [Act.put, List.setIfInBounds_toArray, List.set_cons_zero, List.set_cons_succ]
    refine wpAnyH_ready (rs := [6]) (by kernel_rfl) (by simp) ?_
    refine (AllReadyH.cons (o := { dst := none, op := Op.store 22 (Operand.tmp 2) (Operand.tmp 12), type := 0, pos := "net.go:65", after := #[{ on := 3, ground := Ground.data }, { on := 3, ground := Ground.chain }, { on := 0, ground := Ground.phase }, { on := 1, ground := Ground.phase }, { on := 2, ground := Ground.phase }, { on := 3, ground := Ground.phase }, { on := 4, ground := Ground.textOnly Departure.lateStores }, { on := 5, ground := Ground.textOnly Departure.lateStores }], guard := none }) rfl (fun K hK => ?_) AllReadyH.nil)
    have q0 := HNC.out.kept (drewl hg1) (fun r e => by cases e)
    have HQ0 := Lib.hid q0
    obtain ⟨a0, a1, a2⟩ := q0
    have b0 := cells_all a0 0
    have b1 := cells_all a1 0
    have b2 := cells_all a2 0
    have f0 := frozen_all a0 0
    have f1 := frozen_all a1 0
    have f2 := frozen_all a2 0
    clear a0 a1 a2
    go_simp
    refine regx_next hK (Keeps.row (grown_setCell _ _ _ _) (.inl rfl)) ?_
    clear hK K
    try simp only [Act.put]
    refine wpAnyH_ready (rs := [7]) (by kernel_rfl) (by simp) ?_
    refine (AllReadyH.cons (o := { dst := none, op := Op.store 3 (Operand.tmp 3) (Operand.tmp 14), type := 0, pos := "net.go:65", after := #[{ on := 5, ground := Ground.data }, { on := 6, ground := Ground.chain }, { on := 0, ground := Ground.phase }, { on := 1, ground := Ground.phase }, { on := 2, ground := Ground.phase }, { on := 3, ground := Ground.phase }, { on := 4, ground := Ground.phase }, { on := 5, ground := Ground.phase }, { on := 6, ground := Ground.phase }], guard := none }) rfl (fun K hK => ?_) AllReadyH.nil)
    go_simp
    refine regx_next hK (Keeps.row (grown_setCell _ _ _ _) (.inr (.inl rfl))) ?_
    clear hK K
    try simp only [Act.put]
    refine wpAnyH_ready (rs := [8]) (by kernel_rfl) (by simp) ?_
    refine (AllReadyH.cons (o := { dst := none, op := Op.store 4 (Operand.tmp 4) (Operand.const (Value.bool true)), type := 0, pos := "net.go:65", after := #[{ on := 7, ground := Ground.chain }, { on := 0, ground := Ground.phase }, { on := 1, ground := Ground.phase }, { on := 2, ground := Ground.phase }, { on := 3, ground := Ground.phase }, { on := 4, ground := Ground.phase }, { on := 5, ground := Ground.phase }, { on := 6, ground := Ground.phase }, { on := 7, ground := Ground.phase }], guard := none }) rfl (fun K hK => ?_) AllReadyH.nil)
    go_simp
    refine regx_next hK (Keeps.row (grown_setCell _ _ _ _) (.inr (.inr rfl))) ?_
    clear hK K
    try simp only [Act.put]
    refine wpAnyH_done (by kernel_rfl) ?_ _
    gi_wp2
    exact next_end w V u1 x.val pk bs _ HQ0.out hv1 hr1 hg1 HBl.out (Keeps.undrew ((Keeps.keep hg1).trans ((Keeps.row (grown_setCell _ _ _ _) (.inl rfl)).trans ((Keeps.row (grown_setCell _ _ _ _) (.inr (.inl rfl))).trans (Keeps.row (grown_setCell _ _ _ _) (.inr (.inr rfl))))))) hsz hL
  case done =>
    rintro D ys W hD rfl ⟨⟨hF, hne⟩, hBl⟩ hK
    have hN0 : N = 0 := by
      have := congrArg List.length hne
      simpa using this
    subst hN0
    have c0 := cells_all hF.1 0
    have c1 := cells_all hF.2.1 0
    have c2 := cells_all hF.2.2 0
    have g0 := frozen_all hF.1 0
    have g1 := frozen_all hF.2.1 0
    have g2 := frozen_all hF.2.2 0
    obtain ⟨hF3, hk3⟩ := hF.write (.slice none 0 0) 0 false
    have hK3 : (((W.setCell ⟨w.heap.size, 0, none⟩ (.slice none 0 0)).setCell ⟨w.heap.size + 1, 0, none⟩ (.int .i64 0)).setCell ⟨w.heap.size + 1 + 1, 0, none⟩ (.bool false)).heap[D]? = some (.deferred (some [])) := (hk3.block D (lt_of_block hK) (fun h => by omega)).trans hK
    have hB3 := hBl.trans (hk3.below hBl.size (fun k h => by omega))
    have hF5 := hF3.kept (grownBy_putObj' _ D (.deferred none)) (fun r e => by cases e; exact ⟨_, hK3, rfl⟩)
    have hB5 := hB3.trans (belowK_b (w := w) (Nat.le_refl _) _ D _ (.deferred none) (by omega) hK3 rfl rfl)
    have HF5 := Lib.hid hF5
    clear hF hne hBl hF3 hk3 hF5 hB3
    gi_wp2
    obtain ⟨k0, k1, k2⟩ := HF5.out
    have c0 := cells_all k0 0
    have c1 := cells_all k1 0
    have c2 := cells_all k2 0
    refine ⟨by simp, .inl ⟨_, _, rfl, run_takeDeferred hK3, ?_⟩⟩
    refine ⟨.tuple #[.slice none 0 0, .int .i64 0, .bool false], ?_, .inl ⟨rfl, rfl⟩, hB5⟩
    simp [results, Try.f16, go_sem, c0, c1, c2]
  case stop =>
    rintro D c pre W hD ⟨k, hk, rfl⟩ ⟨⟨rfl, x, v', e1, hF, hG, hr⟩, hBl⟩ hK
    have hx0 : x.val = 0 := by
      have h9 := congrArg (fun l => l[0]?) e1
      have hk0 : 0 < k := by
        rcases Nat.eq_zero_or_pos k with h | h
        · subst h; simp at e1
        · exact h
      simp only [List.getElem?_take_of_lt hk0, List.getElem?_cons_zero] at h9
      have h10 : (List.finRange N)[0]? = some x := h9
      rw [List.getElem?_eq_getElem (by simp; omega)] at h10
      simp at h10
      rw [← h10]
    have hN0 : 0 < N := by have := x.isLt; omega
    rw [hx0] at hF hG
    have hF5 := hF.kept (grownBy_putObj' W D (.deferred none)) (fun r e => by cases e; exact ⟨_, hK, rfl⟩)
    have hG5 := hG.keptw (grownBy_putObj' W D (.deferred none)) (fun r e => by cases e; exact ⟨_, hK, rfl⟩)
    have hB5 := hBl.trans (belowK_b (w := w) (Nat.le_refl _) W D _ (.deferred none) (by omega) hK rfl rfl)
    obtain ⟨k0, k1, k2⟩ := hF5
    have c0 := cells_all k0 0
    have c1 := cells_all k1 0
    have c2 := cells_all k2 0
    clear hF hG hBl e1
    gi_wp2
    refine ⟨by simp, .inl ⟨_, _, rfl, run_takeDeferred hK, ?_⟩⟩
    refine ⟨.tuple #[v', .int .i64 (pk.f 0), .bool true], ?_, .inr ⟨hN0, v', rfl, hG5, hr⟩, hB5⟩
    simp [results, Try.f16, go_sem, c0, c1, c2]
end Go.Proofs.Ytnglbneefkdfgaa
