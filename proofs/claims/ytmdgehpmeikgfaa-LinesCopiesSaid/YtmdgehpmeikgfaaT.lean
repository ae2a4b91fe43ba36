import Derived.Test.YtmdgehpmeikgfaaS
set_option linter.unusedVariables false
namespace Go.Proofs.Ytmdgehpmeikgfaa
open Go.RowKit
set_option maxRecDepth 100000 in
set_option maxHeartbeats 8000000 in
theorem act_raise_2 (B : Nat) (c : Lc) (r : Rf) (g : Gh) (x : Ac) (bs : List UInt8) (w : World) (hL : LS w B c g) (hR : RS w r g) (hS : ∀ k, own c B k → ¬ rrow r k) (hw : (x.what == 0) = false ∧ (x.what == 1) = false ∧ (x.what == 2) = false ∧ (x.what == 3) = false ∧ (x.what == 4) = false) (h5 : True) (hl : x.line = 2) : Calls Try.prog 30 #[.pointer (some ⟨B, 0, none⟩), r.val, x.val] w fun e w' => ∃ c' r', e = .returned (.tuple #[r'.val, .bool true]) ∧ Post w w' B c c' r r' (g.step x bs) := by
  obtain ⟨hg0, b1, b2, b3⟩ := three_new w (.cells r.cells 29) (.cells x.cells 49) (.cells Rf.zero.cells 29)
  have HB1 := Lib.hid (show _ from b1)
  have HB2 := Lib.hid b2
  have HB3 := Lib.hid b3
  have HG0 := Lib.hid hg0
  have HL := Lib.hid hL
  have HR := Lib.hid hR
  have HS := Lib.hid hS
  have HLK0 := Lib.hid (hL.lk.keptNone hg0)
  have HST := Lib.hid (show ({ g with f2 := x.up } : Gh) = g.step x bs by obtain ⟨a0, a1, a2, a3, a4⟩ := hw; simp only [beq_eq_false_iff_ne, ne_eq] at a0 a1 a2 a3 a4; simp [Gh.step, a0, a1, a2, a3, a4, hl])
  have hw' := hw
  clear hg0 b1 b2 b3 hL hR hS
  obtain ⟨what, line, ba, bn, bc, byte, word, up⟩ := x
  simp only at hw hw' h5 hl
  obtain ⟨e0, e1, e2, e3, e4⟩ := hw
  clear hw'
  subst hl
  go_enter Try.func30, Try.ntmps30
  go_wp2_with (with_reducible refine hold_ld 29 _ rfl ?_)
  apply Lib.hid
  with_reducible refine wpList_load_blk rfl 29 _ rfl _ ?o3801 ?hx3801 _ _ _ HB1.out _ 9 ?hn3801 Try.underlying29 rfl Try.size29 ?_
  case hx3801 => exact rfl
  case hn3801 => exact rfl
  go_wp2_with fail
  refine (rraise_2 r up _).mono ?_; rintro e u1 ⟨rfl, h1⟩
  have HB1u := Lib.hid ((h1.block _ (lt_of_block HB1.out) (by simp)).trans HB1.out)
  have HB2u := Lib.hid ((h1.block _ (lt_of_block HB2.out) (by simp)).trans HB2.out)
  have HB3u := Lib.hid ((h1.block _ (lt_of_block HB3.out) (by simp)).trans HB3.out)
  have HG1 := Lib.hid (HG0.out.trans h1)
  have hsz1 := lt_of_block HB3u.out
  clear h1
  have hga := World.grownBy_alloc u1 (.cells Rf.zero.cells 29) none
  have hna := heap_alloc_new u1 (.cells Rf.zero.cells 29)
  have HB1m := Lib.hid ((hga.block _ (lt_of_block HB1u.out) (by simp)).trans HB1u.out)
  have HB2m := Lib.hid ((hga.block _ (lt_of_block HB2u.out) (by simp)).trans HB2u.out)
  have HB3m := Lib.hid ((hga.block _ (lt_of_block HB3u.out) (by simp)).trans HB3u.out)
  have HNA := Lib.hid hna
  have HGA := Lib.hid hga
  clear hga hna
  go_wp2_with (with_reducible refine hold_st 29 _ _ rfl ?_)
  apply Lib.hid
  with_reducible refine wpList_store_all rfl 29 _ _ rfl _ ?cs3802 ?hx3802 ?hy3802 _ _ HNA.out ?hf3802 _ ?hl3802 Try.size29 ?h13802 ?_
  case hy3802 => exact rfl
  case hx3802 => exact rfl
  case hf3802 => exact rfl
  case hl3802 => exact rfl
  case h13802 => simp [allOne, Value.oneCell']
  intro u2 hb2 hg2
  have HB1v := Lib.hid ((hg2.block _ (lt_of_block HB1m.out) (by have := lt_of_block HB3u.out; simp; omega)).trans HB1m.out)
  have HB2v := Lib.hid ((hg2.block _ (lt_of_block HB2m.out) (by have := lt_of_block HB3u.out; simp; omega)).trans HB2m.out)
  have HB3v := Lib.hid ((hg2.block _ (lt_of_block HB3m.out) (by have := lt_of_block HB3u.out; simp; omega)).trans HB3m.out)
  have HA := Lib.hid (show u2.heap[u1.heap.size]? = some (.cells ({ r with f2 := up } : Rf).cells 29 (0, 0)) from hb2)
  have HG2 := Lib.hid (grown_new HGA.out hg2 (Nat.le_refl _))
  have hsz2 := lt_of_block HB3v.out
  clear hb2 hg2
  have HLS2 := Lib.hid (HL.out.keptNone (HG1.out.trans HG2.out))
  have HRS2 := Lib.hid (HR.out.keptNone (HG1.out.trans HG2.out))
  have HNX2 := Lib.hid (show ¬ (own c B (w.heap.size + 1) ∨ w.heap.size + 1 = w.heap.size + 1 + 1) from fun h => h.elim (fun h => by have := HL.out.lt _ h; omega) (fun h => by omega))
  have HNXA := Lib.hid (show ¬ (own c B u1.heap.size ∨ u1.heap.size = w.heap.size + 1 + 1) from fun h => h.elim (fun h => by have := HL.out.lt _ h; omega) (fun h => by omega))
  go_wp2
  refine regx_open (fun k => own c B k ∨ k = w.heap.size + 1 + 1) (n := 12) rfl (by kernel_rfl) ?_
  refine regx_take 0 (some 168) (v := ?_) rfl rfl (by kernel_rfl) (by kernel_rfl) (by kernel_rfl) (fun _ _ _ h => h) (by rfl) ?_ ?_
  rotate_left
  · intro W hW; refine exec_ld29 (x := Operand.tmp 24) ?_ ?_ (((hW).block u1.heap.size (lt_of_block HA.out) HNXA.out).trans HA.out) <;> rfl
  try simp only [Act.put, List.setIfInBounds_toArray, List.set_cons_zero, List.set_cons_succ]
  refine regx_take 1 (some 169) (v := ?_) rfl rfl (by kernel_rfl) (by kernel_rfl) (by kernel_rfl) (fun _ _ _ h => h) (by rfl) ?_ ?_
  rotate_left
  · intro W hW; go_simp; first | done | with_reducible rfl
  try simp only [Act.put, List.setIfInBounds_toArray, List.set_cons_zero, List.set_cons_succ]
  refine regx_take 2 (some 170) (v := ?_) rfl rfl (by kernel_rfl) (by kernel_rfl) (by kernel_rfl) (fun _ _ _ h => h) (by rfl) ?_ ?_
  rotate_left
  · intro W hW; go_simp; first | done | with_reducible rfl
  try simp only [Act.put, List.setIfInBounds_toArray, List.set_cons_zero, List.set_cons_succ]
  refine regx_take 3 (some 171) (v := ?_) rfl rfl (by kernel_rfl) (by kernel_rfl) (by kernel_rfl) (fun _ _ _ h => h) (by rfl) ?_ ?_
  rotate_left
  · intro W hW; have c := cells_all (((hW).block (w.heap.size + 1) (lt_of_block HB2v.out) HNX2.out).trans HB2v.out) 1; go_simp; first | done | with_reducible rfl
  try simp only [Act.put, List.setIfInBounds_toArray, List.set_cons_zero, List.set_cons_succ]
  refine regx_take 4 (some 172) (v := ?_) rfl rfl (by kernel_rfl) (by kernel_rfl) (by kernel_rfl) (fun _ _ _ h => h) (by rfl) ?_ ?_
  rotate_left
  · intro W hW; go_simp; first | done | with_reducible rfl
  try simp only [Act.put, List.setIfInBounds_toArray, List.set_cons_zero, List.set_cons_succ]
  refine regx_take 5 (some 173) (v := ?_) rfl rfl (by kernel_rfl) (by kernel_rfl) (by kernel_rfl) (fun _ _ _ h => h) (by rfl) ?_ ?_
  rotate_left
  · intro W hW; have c := cells_all (((hW).block (w.heap.size + 1) (lt_of_block HB2v.out) HNX2.out).trans HB2v.out) 5; go_simp; first | done | with_reducible rfl
  try simp only [Act.put, List.setIfInBounds_toArray, List.set_cons_zero, List.set_cons_succ]
  refine regx_take 8 (some 176) (v := ?_) rfl rfl (by kernel_rfl) (by kernel_rfl) (by kernel_rfl) (fun _ _ _ h => h) (by rfl) ?_ ?_
  rotate_left
  · intro W hW; go_simp; first | done | with_reducible rfl
  try simp only [Act.put, List.setIfInBounds_toArray, List.set_cons_zero, List.set_cons_succ]
  refine wpAnyH_ready (rs := [6]) (by kernel_rfl) (by simp) ?_
  refine (AllReadyH.cons (o := { dst := some 174, op := Op.call { callee := Callee.value (Operand.func 15), args := #[Operand.tmp 169, Operand.tmp 171, Operand.tmp 173], argTypes := #[23, 3, 4] }, type := 31, pos := "law.go:77", after := #[{ on := 1, ground := Ground.data }, { on := 3, ground := Ground.data }, { on := 5, ground := Ground.data }], guard := none }) rfl (fun K hK => ?_) AllReadyH.nil)
  go_simp
  refine (raise_2 B c up _ HLS2.out.drew.lk).mono ?_; rintro e u3 ⟨rfl, hL3, h3⟩; have h3x : Keeps (fun k => own c B k ∨ k = w.heap.size + 1 + 1) u2.drew u3 := Keeps.row h3 (.inl (.inl rfl))
  refine regx_next hK h3x ?_
  clear hK K
  try simp only [Act.put, List.setIfInBounds_toArray, List.set_cons_zero, List.set_cons_succ]
  refine wpAnyH_ready (rs := [7]) (by kernel_rfl) (by simp) ?_
  refine (AllReadyH.cons (o := { dst := some 175, op := Op.call { callee := Callee.value (Operand.func 19), args := #[Operand.tmp 174], argTypes := #[31] }, type := 3, pos := "law.go:77", after := #[{ on := 6, ground := Ground.data }, { on := 6, ground := Ground.chain }], guard := none }) rfl (fun K hK => ?_) AllReadyH.nil)
  go_simp
  refine (num_any _ _).mono ?_; rintro e w' ⟨rfl, rfl⟩
  refine regx_same hK ?_
  clear hK K
  try simp only [Act.put, List.setIfInBounds_toArray, List.set_cons_zero, List.set_cons_succ]
  refine regx_take 9 (some 177) (v := ?_) rfl rfl (by kernel_rfl) (by kernel_rfl) (by kernel_rfl) (fun _ _ _ h => h) (by rfl) ?_ ?_
  rotate_left
  · intro W hW; go_simp; first | done | with_reducible rfl
  try simp only [Act.put, List.setIfInBounds_toArray, List.set_cons_zero, List.set_cons_succ]
  refine wpAnyH_ready (rs := [10]) (by kernel_rfl) (by simp) ?_
  refine (AllReadyH.cons (o := { dst := none, op := Op.store 29 (Operand.tmp 6) (Operand.tmp 168), type := 0, pos := "law.go:77", after := #[{ on := 0, ground := Ground.data }, { on := 7, ground := Ground.chain }, { on := 0, ground := Ground.phase }, { on := 1, ground := Ground.textOnly Departure.lateStores }, { on := 2, ground := Ground.textOnly Departure.lateStores }, { on := 3, ground := Ground.textOnly Departure.lateStores }, { on := 4, ground := Ground.textOnly Departure.lateStores }, { on := 5, ground := Ground.textOnly Departure.lateStores }, { on := 6, ground := Ground.textOnly Departure.lateStoresUnsure }, { on := 7, ground := Ground.textOnly Departure.lateStoresUnsure }, { on := 8, ground := Ground.textOnly Departure.lateStores }, { on := 9, ground := Ground.textOnly Departure.lateStores }], guard := none }) rfl (fun K hK => ?_) AllReadyH.nil)
  refine wp_store_all 29 _ _ rfl (w.heap.size + 1 + 1) ?csu7 ?hxu7 ?hyu7 _ _ ((h3.block _ (lt_of_block HB3v.out) (by simp; have := HL.out.lk.lt; omega)).trans HB3v.out) ?hfu7 9 ?hnu7 Try.size29 ?h1u7 ?_
  case hyu7 => exact rfl
  case hxu7 => exact rfl
  case hfu7 => exact rfl
  case hnu7 => exact rfl
  case h1u7 => simp [allOne, Value.oneCell']
  intro u9 hb9 h9
  refine regx_next hK (Keeps.row h9 (.inr rfl)) ?_
  clear hK K
  try simp only [Act.put]
  refine regx_take 11 (some 7) (v := ?_) rfl rfl (by kernel_rfl) (by kernel_rfl) (by kernel_rfl) (fun _ _ _ h => h) (by rfl) ?_ ?_
  rotate_left
  · intro W hW; go_simp; first | done | with_reducible rfl
  try simp only [Act.put, List.setIfInBounds_toArray, List.set_cons_zero, List.set_cons_succ]
  refine wpAnyH_done (by kernel_rfl) ?_ _
  have HZ5 := Lib.hid hb9
  have h9' : Keeps (fun k => w.heap.size ≤ k ∧ k < w.heap.size + 3) u3 u9 := Keeps.row h9 (mid 2 rfl (by omega))
  have HT5 := Lib.hid h9'
  have hk3 : Keeps (own c B) u2 u3 := (Keeps.row h3 (.inl rfl)).undrew
  have HK3 := Lib.hid ((Keeps.keep (X := own c B) (HG1.out.trans HG2.out)).trans hk3)
  have HL3 := Lib.hid ((HLS2.out.upd (c' := { c with u2 := up }) (g' := { g with f2 := up }) (drewl h3) hL3 rfl rfl rfl rfl HL.out.al HL.out.ms rfl HL.out.u3 HL.out.u0 HL.out.u1 HL.out.fi))
  have hr3 := HRS2.out.keeps hk3 (fun k hk hk2 => HS.out k hk2 hk)
  have HR3 := Lib.hid (show RS u3 { r with f2 := up } { g with f2 := up } from ⟨hr3.al, hr3.ms, hr3.f0, hr3.f1, rfl, hr3.f3, hr3.p, hr3.tk, hr3.t⟩)
  clear h9 hb9 hr3 hk3 h9'
  go_wp2
  refine bodyPost_ret (results_c29t rfl _ _ _ _ (by rfl) (by rfl) HZ5.out) (by rfl) ?_
  refine ⟨{ c with u2 := up }, { r with f2 := up }, rfl, ?_⟩
  rw [← HST.out]
  exact Post.fin HL.out HR.out HL3.out HR3.out HK3.out (fun k hk => .inl (own_same (B := B) (c := c) rfl rfl k hk)) (fun k hk => .inl hk) (fun k hk => HS.out k (own_same (B := B) (c := c) rfl rfl k hk)) HT5.out
set_option maxRecDepth 100000 in
set_option maxHeartbeats 8000000 in
theorem act_raise_3 (B : Nat) (c : Lc) (r : Rf) (g : Gh) (x : Ac) (bs : List UInt8) (w : World) (hL : LS w B c g) (hR : RS w r g) (hS : ∀ k, own c B k → ¬ rrow r k) (hw : (x.what == 0) = false ∧ (x.what == 1) = false ∧ (x.what == 2) = false ∧ (x.what == 3) = false ∧ (x.what == 4) = false) (h5 : True) (hl : x.line = 3) : Calls Try.prog 30 #[.pointer (some ⟨B, 0, none⟩), r.val, x.val] w fun e w' => ∃ c' r', e = .returned (.tuple #[r'.val, .bool true]) ∧ Post w w' B c c' r r' (g.step x bs) := by
  obtain ⟨hg0, b1, b2, b3⟩ := three_new w (.cells r.cells 29) (.cells x.cells 49) (.cells Rf.zero.cells 29)
  have HB1 := Lib.hid (show _ from b1)
  have HB2 := Lib.hid b2
  have HB3 := Lib.hid b3
  have HG0 := Lib.hid hg0
  have HL := Lib.hid hL
  have HR := Lib.hid hR
  have HS := Lib.hid hS
  have HLK0 := Lib.hid (hL.lk.keptNone hg0)
  have HST := Lib.hid (show ({ g with f3 := x.up } : Gh) = g.step x bs by obtain ⟨a0, a1, a2, a3, a4⟩ := hw; simp only [beq_eq_false_iff_ne, ne_eq] at a0 a1 a2 a3 a4; simp [Gh.step, a0, a1, a2, a3, a4, hl])
  have hw' := hw
  clear hg0 b1 b2 b3 hL hR hS
  obtain ⟨what, line, ba, bn, bc, byte, word, up⟩ := x
  simp only at hw hw' h5 hl
  obtain ⟨e0, e1, e2, e3, e4⟩ := hw
  clear hw'
  subst hl
  go_enter Try.func30, Try.ntmps30
  go_wp2_with (with_reducible refine hold_ld 29 _ rfl ?_)
  apply Lib.hid
  with_reducible refine wpList_load_blk rfl 29 _ rfl _ ?o3803 ?hx3803 _ _ _ HB1.out _ 9 ?hn3803 Try.underlying29 rfl Try.size29 ?_
  case hx3803 => exact rfl
  case hn3803 => exact rfl
  go_wp2_with fail
  refine (rraise_3 r up _).mono ?_; rintro e u1 ⟨rfl, h1⟩
  have HB1u := Lib.hid ((h1.block _ (lt_of_block HB1.out) (by simp)).trans HB1.out)
  have HB2u := Lib.hid ((h1.block _ (lt_of_block HB2.out) (by simp)).trans HB2.out)
  have HB3u := Lib.hid ((h1.block _ (lt_of_block HB3.out) (by simp)).trans HB3.out)
  have HG1 := Lib.hid (HG0.out.trans h1)
  have hsz1 := lt_of_block HB3u.out
  clear h1
  have hga := World.grownBy_alloc u1 (.cells Rf.zero.cells 29) none
  have hna := heap_alloc_new u1 (.cells Rf.zero.cells 29)
  have HB1m := Lib.hid ((hga.block _ (lt_of_block HB1u.out) (by simp)).trans HB1u.out)
  have HB2m := Lib.hid ((hga.block _ (lt_of_block HB2u.out) (by simp)).trans HB2u.out)
  have HB3m := Lib.hid ((hga.block _ (lt_of_block HB3u.out) (by simp)).trans HB3u.out)
  have HNA := Lib.hid hna
  have HGA := Lib.hid hga
  clear hga hna
  go_wp2_with (with_reducible refine hold_st 29 _ _ rfl ?_)
  apply Lib.hid
  with_reducible refine wpList_store_all rfl 29 _ _ rfl _ ?cs3804 ?hx3804 ?hy3804 _ _ HNA.out ?hf3804 _ ?hl3804 Try.size29 ?h13804 ?_
  case hy3804 => exact rfl
  case hx3804 => exact rfl
  case hf3804 => exact rfl
  case hl3804 => exact rfl
  case h13804 => simp [allOne, Value.oneCell']
  intro u2 hb2 hg2
  have HB1v := Lib.hid ((hg2.block _ (lt_of_block HB1m.out) (by have := lt_of_block HB3u.out; simp; omega)).trans HB1m.out)
  have HB2v := Lib.hid ((hg2.block _ (lt_of_block HB2m.out) (by have := lt_of_block HB3u.out; simp; omega)).trans HB2m.out)
  have HB3v := Lib.hid ((hg2.block _ (lt_of_block HB3m.out) (by have := lt_of_block HB3u.out; simp; omega)).trans HB3m.out)
  have HA := Lib.hid (show u2.heap[u1.heap.size]? = some (.cells ({ r with f3 := up } : Rf).cells 29 (0, 0)) from hb2)
  have HG2 := Lib.hid (grown_new HGA.out hg2 (Nat.le_refl _))
  have hsz2 := lt_of_block HB3v.out
  clear hb2 hg2
  have HLS2 := Lib.hid (HL.out.keptNone (HG1.out.trans HG2.out))
  have HRS2 := Lib.hid (HR.out.keptNone (HG1.out.trans HG2.out))
  have HNX2 := Lib.hid (show ¬ (own c B (w.heap.size + 1) ∨ w.heap.size + 1 = w.heap.size + 1 + 1) from fun h => h.elim (fun h => by have := HL.out.lt _ h; omega) (fun h => by omega))
  have HNXA := Lib.hid (show ¬ (own c B u1.heap.size ∨ u1.heap.size = w.heap.size + 1 + 1) from fun h => h.elim (fun h => by have := HL.out.lt _ h; omega) (fun h => by omega))
  go_wp2
  refine regx_open (fun k => own c B k ∨ k = w.heap.size + 1 + 1) (n := 12) rfl (by kernel_rfl) ?_
  refine regx_take 0 (some 168) (v := ?_) rfl rfl (by kernel_rfl) (by kernel_rfl) (by kernel_rfl) (fun _ _ _ h => h) (by rfl) ?_ ?_
  rotate_left
  · intro W hW; refine exec_ld29 (x := Operand.tmp 24) ?_ ?_ (((hW).block u1.heap.size (lt_of_block HA.out) HNXA.out).trans HA.out) <;> rfl
  try simp only [Act.put, List.setIfInBounds_toArray, List.set_cons_zero, List.set_cons_succ]
  refine regx_take 1 (some 169) (v := ?_) rfl rfl (by kernel_rfl) (by kernel_rfl) (by kernel_rfl) (fun _ _ _ h => h) (by rfl) ?_ ?_
  rotate_left
  · intro W hW; go_simp; first | done | with_reducible rfl
  try simp only [Act.put, List.setIfInBounds_toArray, List.set_cons_zero, List.set_cons_succ]
  refine regx_take 2 (some 170) (v := ?_) rfl rfl (by kernel_rfl) (by kernel_rfl) (by kernel_rfl) (fun _ _ _ h => h) (by rfl) ?_ ?_
  rotate_left
  · intro W hW; go_simp; first | done | with_reducible rfl
  try simp only [Act.put, List.setIfInBounds_toArray, List.set_cons_zero, List.set_cons_succ]
  refine regx_take 3 (some 171) (v := ?_) rfl rfl (by kernel_rfl) (by kernel_rfl) (by kernel_rfl) (fun _ _ _ h => h) (by rfl) ?_ ?_
  rotate_left
  · intro W hW; have c := cells_all (((hW).block (w.heap.size + 1) (lt_of_block HB2v.out) HNX2.out).trans HB2v.out) 1; go_simp; first | done | with_reducible rfl
  try simp only [Act.put, List.setIfInBounds_toArray, List.set_cons_zero, List.set_cons_succ]
  refine regx_take 4 (some 172) (v := ?_) rfl rfl (by kernel_rfl) (by kernel_rfl) (by kernel_rfl) (fun _ _ _ h => h) (by rfl) ?_ ?_
  rotate_left
  · intro W hW; go_simp; first | done | with_reducible rfl
  try simp only [Act.put, List.setIfInBounds_toArray, List.set_cons_zero, List.set_cons_succ]
  refine regx_take 5 (some 173) (v := ?_) rfl rfl (by kernel_rfl) (by kernel_rfl) (by kernel_rfl) (fun _ _ _ h => h) (by rfl) ?_ ?_
  rotate_left
  · intro W hW; have c := cells_all (((hW).block (w.heap.size + 1) (lt_of_block HB2v.out) HNX2.out).trans HB2v.out) 5; go_simp; first | done | with_reducible rfl
  try simp only [Act.put, List.setIfInBounds_toArray, List.set_cons_zero, List.set_cons_succ]
  refine regx_take 8 (some 176) (v := ?_) rfl rfl (by kernel_rfl) (by kernel_rfl) (by kernel_rfl) (fun _ _ _ h => h) (by rfl) ?_ ?_
  rotate_left
  · intro W hW; go_simp; first | done | with_reducible rfl
  try simp only [Act.put, List.setIfInBounds_toArray, List.set_cons_zero, List.set_cons_succ]
  refine wpAnyH_ready (rs := [6]) (by kernel_rfl) (by simp) ?_
  refine (AllReadyH.cons (o := { dst := some 174, op := Op.call { callee := Callee.value (Operand.func 15), args := #[Operand.tmp 169, Operand.tmp 171, Operand.tmp 173], argTypes := #[23, 3, 4] }, type := 31, pos := "law.go:77", after := #[{ on := 1, ground := Ground.data }, { on := 3, ground := Ground.data }, { on := 5, ground := Ground.data }], guard := none }) rfl (fun K hK => ?_) AllReadyH.nil)
  go_simp
  refine (raise_3 B c up _ HLS2.out.drew.lk).mono ?_; rintro e u3 ⟨rfl, hL3, h3⟩; have h3x : Keeps (fun k => own c B k ∨ k = w.heap.size + 1 + 1) u2.drew u3 := Keeps.row h3 (.inl (.inl rfl))
  refine regx_next hK h3x ?_
  clear hK K
  try simp only [Act.put, List.setIfInBounds_toArray, List.set_cons_zero, List.set_cons_succ]
  refine wpAnyH_ready (rs := [7]) (by kernel_rfl) (by simp) ?_
  refine (AllReadyH.cons (o := { dst := some 175, op := Op.call { callee := Callee.value (Operand.func 19), args := #[Operand.tmp 174], argTypes := #[31] }, type := 3, pos := "law.go:77", after := #[{ on := 6, ground := Ground.data }, { on := 6, ground := Ground.chain }], guard := none }) rfl (fun K hK => ?_) AllReadyH.nil)
  go_simp
  refine (num_any _ _).mono ?_; rintro e w' ⟨rfl, rfl⟩
  refine regx_same hK ?_
  clear hK K
  try simp only [Act.put, List.setIfInBounds_toArray, List.set_cons_zero, List.set_cons_succ]
  refine regx_take 9 (some 177) (v := ?_) rfl rfl (by kernel_rfl) (by kernel_rfl) (by kernel_rfl) (fun _ _ _ h => h) (by rfl) ?_ ?_
  rotate_left
  · intro W hW; go_simp; first | done | with_reducible rfl
  try simp only [Act.put, List.setIfInBounds_toArray, List.set_cons_zero, List.set_cons_succ]
  refine wpAnyH_ready (rs := [10]) (by kernel_rfl) (by simp) ?_
  refine (AllReadyH.cons (o := { dst := none, op := Op.store 29 (Operand.tmp 6) (Operand.tmp 168), type := 0, pos := "law.go:77", after := #[{ on := 0, ground := Ground.data }, { on := 7, ground := Ground.chain }, { on := 0, ground := Ground.phase }, { on := 1, ground := Ground.textOnly Departure.lateStores }, { on := 2, ground := Ground.textOnly Departure.lateStores }, { on := 3, ground := Ground.textOnly Departure.lateStores }, { on := 4, ground := Ground.textOnly Departure.lateStores }, { on := 5, ground := Ground.textOnly Departure.lateStores }, { on := 6, ground := Ground.textOnly Departure.lateStoresUnsure }, { on := 7, ground := Ground.textOnly Departure.lateStoresUnsure }, { on := 8, ground := Ground.textOnly Departure.lateStores }, { on := 9, ground := Ground.textOnly Departure.lateStores }], guard := none }) rfl (fun K hK => ?_) AllReadyH.nil)
  refine wp_store_all 29 _ _ rfl (w.heap.size + 1 + 1) ?csu16 ?hxu16 ?hyu16 _ _ ((h3.block _ (lt_of_block HB3v.out) (by simp; have := HL.out.lk.lt; omega)).trans HB3v.out) ?hfu16 9 ?hnu16 Try.size29 ?h1u16 ?_
  case hyu16 => exact rfl
  case hxu16 => exact rfl
  case hfu16 => exact rfl
  case hnu16 => exact rfl
  case h1u16 => simp [allOne, Value.oneCell']
  intro u9 hb9 h9
  refine regx_next hK (Keeps.row h9 (.inr rfl)) ?_
  clear hK K
  try simp only [Act.put]
  refine regx_take 11 (some 7) (v := ?_) rfl rfl (by kernel_rfl) (by kernel_rfl) (by kernel_rfl) (fun _ _ _ h => h) (by rfl) ?_ ?_
  rotate_left
  · intro W hW; go_simp; first | done | with_reducible rfl
  try simp only [Act.put, List.setIfInBounds_toArray, List.set_cons_zero, List.set_cons_succ]
  refine wpAnyH_done (by kernel_rfl) ?_ _
  have HZ5 := Lib.hid hb9
  have h9' : Keeps (fun k => w.heap.size ≤ k ∧ k < w.heap.size + 3) u3 u9 := Keeps.row h9 (mid 2 rfl (by omega))
  have HT5 := Lib.hid h9'
  have hk3 : Keeps (own c B) u2 u3 := (Keeps.row h3 (.inl rfl)).undrew
  have HK3 := Lib.hid ((Keeps.keep (X := own c B) (HG1.out.trans HG2.out)).trans hk3)
  have HL3 := Lib.hid ((HLS2.out.upd (c' := { c with u3 := up }) (g' := { g with f3 := up }) (drewl h3) hL3 rfl rfl rfl rfl HL.out.al HL.out.ms HL.out.u2 rfl HL.out.u0 HL.out.u1 HL.out.fi))
  have hr3 := HRS2.out.keeps hk3 (fun k hk hk2 => HS.out k hk2 hk)
  have HR3 := Lib.hid (show RS u3 { r with f3 := up } { g with f3 := up } from ⟨hr3.al, hr3.ms, hr3.f0, hr3.f1, hr3.f2, rfl, hr3.p, hr3.tk, hr3.t⟩)
  clear h9 hb9 hr3 hk3 h9'
  go_wp2
  refine bodyPost_ret (results_c29t rfl _ _ _ _ (by rfl) (by rfl) HZ5.out) (by rfl) ?_
  refine ⟨{ c with u3 := up }, { r with f3 := up }, rfl, ?_⟩
  rw [← HST.out]
  exact Post.fin HL.out HR.out HL3.out HR3.out HK3.out (fun k hk => .inl (own_same (B := B) (c := c) rfl rfl k hk)) (fun k hk => .inl hk) (fun k hk => HS.out k (own_same (B := B) (c := c) rfl rfl k hk)) HT5.out
set_option maxRecDepth 100000 in
set_option maxHeartbeats 8000000 in
theorem act_raise_bad (B : Nat) (c : Lc) (r : Rf) (g : Gh) (x : Ac) (bs : List UInt8) (w : World) (hL : LS w B c g) (hR : RS w r g) (hS : ∀ k, own c B k → ¬ rrow r k) (hw : (x.what == 0) = false ∧ (x.what == 1) = false ∧ (x.what == 2) = false ∧ (x.what == 3) = false ∧ (x.what == 4) = false) (h5 : True) (hl : x.line ≠ 2 ∧ x.line ≠ 3) : Calls Try.prog 30 #[.pointer (some ⟨B, 0, none⟩), r.val, x.val] w fun e w' => ∃ c' r', e = .returned (.tuple #[r'.val, .bool true]) ∧ Post w w' B c c' r r' (g.step x bs) := by
  obtain ⟨hg0, b1, b2, b3⟩ := three_new w (.cells r.cells 29) (.cells x.cells 49) (.cells Rf.zero.cells 29)
  have HB1 := Lib.hid (show _ from b1)
  have HB2 := Lib.hid b2
  have HB3 := Lib.hid b3
  have HG0 := Lib.hid hg0
  have HL := Lib.hid hL
  have HR := Lib.hid hR
  have HS := Lib.hid hS
  have HLK0 := Lib.hid (hL.lk.keptNone hg0)
  have HST := Lib.hid (show g = g.step x bs by obtain ⟨a0, a1, a2, a3, a4⟩ := hw; simp only [beq_eq_false_iff_ne, ne_eq] at a0 a1 a2 a3 a4; simp [Gh.step, a0, a1, a2, a3, a4, hl])
  have hw' := hw
  clear hg0 b1 b2 b3 hL hR hS
  obtain ⟨what, line, ba, bn, bc, byte, word, up⟩ := x
  simp only at hw hw' h5 hl
  obtain ⟨e0, e1, e2, e3, e4⟩ := hw
  clear hw'
  go_enter Try.func30, Try.ntmps30
  go_wp2_with (with_reducible refine hold_ld 29 _ rfl ?_)
  apply Lib.hid
  with_reducible refine wpList_load_blk rfl 29 _ rfl _ ?o3805 ?hx3805 _ _ _ HB1.out _ 9 ?hn3805 Try.underlying29 rfl Try.size29 ?_
  case hx3805 => exact rfl
  case hn3805 => exact rfl
  go_wp2_with fail
  refine (rraise_bad r line up hl.1 hl.2 _).mono ?_; rintro e u1 ⟨rfl, h1⟩
  have HB1u := Lib.hid ((h1.block _ (lt_of_block HB1.out) (by simp)).trans HB1.out)
  have HB2u := Lib.hid ((h1.block _ (lt_of_block HB2.out) (by simp)).trans HB2.out)
  have HB3u := Lib.hid ((h1.block _ (lt_of_block HB3.out) (by simp)).trans HB3.out)
  have HG1 := Lib.hid (HG0.out.trans h1)
  have hsz1 := lt_of_block HB3u.out
  clear h1
  have hga := World.grownBy_alloc u1 (.cells Rf.zero.cells 29) none
  have hna := heap_alloc_new u1 (.cells Rf.zero.cells 29)
  have HB1m := Lib.hid ((hga.block _ (lt_of_block HB1u.out) (by simp)).trans HB1u.out)
  have HB2m := Lib.hid ((hga.block _ (lt_of_block HB2u.out) (by simp)).trans HB2u.out)
  have HB3m := Lib.hid ((hga.block _ (lt_of_block HB3u.out) (by simp)).trans HB3u.out)
  have HNA := Lib.hid hna
  have HGA := Lib.hid hga
  clear hga hna
  go_wp2_with (with_reducible refine hold_st 29 _ _ rfl ?_)
  apply Lib.hid
  with_reducible refine wpList_store_all rfl 29 _ _ rfl _ ?cs3806 ?hx3806 ?hy3806 _ _ HNA.out ?hf3806 _ ?hl3806 Try.size29 ?h13806 ?_
  case hy3806 => exact rfl
  case hx3806 => exact rfl
  case hf3806 => exact rfl
  case hl3806 => exact rfl
  case h13806 => simp [allOne, Value.oneCell']
  intro u2 hb2 hg2
  have HB1v := Lib.hid ((hg2.block _ (lt_of_block HB1m.out) (by have := lt_of_block HB3u.out; simp; omega)).trans HB1m.out)
  have HB2v := Lib.hid ((hg2.block _ (lt_of_block HB2m.out) (by have := lt_of_block HB3u.out; simp; omega)).trans HB2m.out)
  have HB3v := Lib.hid ((hg2.block _ (lt_of_block HB3m.out) (by have := lt_of_block HB3u.out; simp; omega)).trans HB3m.out)
  have HA := Lib.hid (show u2.heap[u1.heap.size]? = some (.cells (r).cells 29 (0, 0)) from hb2)
  have HG2 := Lib.hid (grown_new HGA.out hg2 (Nat.le_refl _))
  have hsz2 := lt_of_block HB3v.out
  clear hb2 hg2
  have HLS2 := Lib.hid (HL.out.keptNone (HG1.out.trans HG2.out))
  have HRS2 := Lib.hid (HR.out.keptNone (HG1.out.trans HG2.out))
  have HNX2 := Lib.hid (show ¬ (own c B (w.heap.size + 1) ∨ w.heap.size + 1 = w.heap.size + 1 + 1) from fun h => h.elim (fun h => by have := HL.out.lt _ h; omega) (fun h => by omega))
  have HNXA := Lib.hid (show ¬ (own c B u1.heap.size ∨ u1.heap.size = w.heap.size + 1 + 1) from fun h => h.elim (fun h => by have := HL.out.lt _ h; omega) (fun h => by omega))
  go_wp2
  refine regx_open (fun k => own c B k ∨ k = w.heap.size + 1 + 1) (n := 12) rfl (by kernel_rfl) ?_
  refine regx_take 0 (some 168) (v := ?_) rfl rfl (by kernel_rfl) (by kernel_rfl) (by kernel_rfl) (fun _ _ _ h => h) (by rfl) ?_ ?_
  rotate_left
  · intro W hW; refine exec_ld29 (x := Operand.tmp 24) ?_ ?_ (((hW).block u1.heap.size (lt_of_block HA.out) HNXA.out).trans HA.out) <;> rfl
  try simp only [Act.put, List.setIfInBounds_toArray, List.set_cons_zero, List.set_cons_succ]
  refine regx_take 1 (some 169) (v := ?_) rfl rfl (by kernel_rfl) (by kernel_rfl) (by kernel_rfl) (fun _ _ _ h => h) (by rfl) ?_ ?_
  rotate_left
  · intro W hW; go_simp; first | done | with_reducible rfl
  try simp only [Act.put, List.setIfInBounds_toArray, List.set_cons_zero, List.set_cons_succ]
  refine regx_take 2 (some 170) (v := ?_) rfl rfl (by kernel_rfl) (by kernel_rfl) (by kernel_rfl) (fun _ _ _ h => h) (by rfl) ?_ ?_
  rotate_left
  · intro W hW; go_simp; first | done | with_reducible rfl
  try simp only [Act.put, List.setIfInBounds_toArray, List.set_cons_zero, List.set_cons_succ]
  refine regx_take 3 (some 171) (v := ?_) rfl rfl (by kernel_rfl) (by kernel_rfl) (by kernel_rfl) (fun _ _ _ h => h) (by rfl) ?_ ?_
  rotate_left
  · intro W hW; have c := cells_all (((hW).block (w.heap.size + 1) (lt_of_block HB2v.out) HNX2.out).trans HB2v.out) 1; go_simp; first | done | with_reducible rfl
  try simp only [Act.put, List.setIfInBounds_toArray, List.set_cons_zero, List.set_cons_succ]
  refine regx_take 4 (some 172) (v := ?_) rfl rfl (by kernel_rfl) (by kernel_rfl) (by kernel_rfl) (fun _ _ _ h => h) (by rfl) ?_ ?_
  rotate_left
  · intro W hW; go_simp; first | done | with_reducible rfl
  try simp only [Act.put, List.setIfInBounds_toArray, List.set_cons_zero, List.set_cons_succ]
  refine regx_take 5 (some 173) (v := ?_) rfl rfl (by kernel_rfl) (by kernel_rfl) (by kernel_rfl) (fun _ _ _ h => h) (by rfl) ?_ ?_
  rotate_left
  · intro W hW; have c := cells_all (((hW).block (w.heap.size + 1) (lt_of_block HB2v.out) HNX2.out).trans HB2v.out) 5; go_simp; first | done | with_reducible rfl
  try simp only [Act.put, List.setIfInBounds_toArray, List.set_cons_zero, List.set_cons_succ]
  refine regx_take 8 (some 176) (v := ?_) rfl rfl (by kernel_rfl) (by kernel_rfl) (by kernel_rfl) (fun _ _ _ h => h) (by rfl) ?_ ?_
  rotate_left
  · intro W hW; go_simp; first | done | with_reducible rfl
  try simp only [Act.put, List.setIfInBounds_toArray, List.set_cons_zero, List.set_cons_succ]
  refine wpAnyH_ready (rs := [6]) (by kernel_rfl) (by simp) ?_
  refine (AllReadyH.cons (o := { dst := some 174, op := Op.call { callee := Callee.value (Operand.func 15), args := #[Operand.tmp 169, Operand.tmp 171, Operand.tmp 173], argTypes := #[23, 3, 4] }, type := 31, pos := "law.go:77", after := #[{ on := 1, ground := Ground.data }, { on := 3, ground := Ground.data }, { on := 5, ground := Ground.data }], guard := none }) rfl (fun K hK => ?_) AllReadyH.nil)
  go_simp
  refine (raise_bad B c line up hl.1 hl.2 _ HLS2.out.drew.lk).mono ?_; rintro e w' ⟨rfl, rfl⟩
  refine regx_same hK ?_
  clear hK K
  try simp only [Act.put, List.setIfInBounds_toArray, List.set_cons_zero, List.set_cons_succ]
  refine wpAnyH_ready (rs := [7]) (by kernel_rfl) (by simp) ?_
  refine (AllReadyH.cons (o := { dst := some 175, op := Op.call { callee := Callee.value (Operand.func 19), args := #[Operand.tmp 174], argTypes := #[31] }, type := 3, pos := "law.go:77", after := #[{ on := 6, ground := Ground.data }, { on := 6, ground := Ground.chain }], guard := none }) rfl (fun K hK => ?_) AllReadyH.nil)
  go_simp
  refine (num_any _ _).mono ?_; rintro e w' ⟨rfl, rfl⟩
  refine regx_same hK ?_
  clear hK K
  try simp only [Act.put, List.setIfInBounds_toArray, List.set_cons_zero, List.set_cons_succ]
  refine regx_take 9 (some 177) (v := ?_) rfl rfl (by kernel_rfl) (by kernel_rfl) (by kernel_rfl) (fun _ _ _ h => h) (by rfl) ?_ ?_
  rotate_left
  · intro W hW; go_simp; first | done | with_reducible rfl
  try simp only [Act.put, List.setIfInBounds_toArray, List.set_cons_zero, List.set_cons_succ]
  refine wpAnyH_ready (rs := [10]) (by kernel_rfl) (by simp) ?_
  refine (AllReadyH.cons (o := { dst := none, op := Op.store 29 (Operand.tmp 6) (Operand.tmp 168), type := 0, pos := "law.go:77", after := #[{ on := 0, ground := Ground.data }, { on := 7, ground := Ground.chain }, { on := 0, ground := Ground.phase }, { on := 1, ground := Ground.textOnly Departure.lateStores }, { on := 2, ground := Ground.textOnly Departure.lateStores }, { on := 3, ground := Ground.textOnly Departure.lateStores }, { on := 4, ground := Ground.textOnly Departure.lateStores }, { on := 5, ground := Ground.textOnly Departure.lateStores }, { on := 6, ground := Ground.textOnly Departure.lateStoresUnsure }, { on := 7, ground := Ground.textOnly Departure.lateStoresUnsure }, { on := 8, ground := Ground.textOnly Departure.lateStores }, { on := 9, ground := Ground.textOnly Departure.lateStores }], guard := none }) rfl (fun K hK => ?_) AllReadyH.nil)
  refine wp_store_all 29 _ _ rfl (w.heap.size + 1 + 1) ?csu24 ?hxu24 ?hyu24 _ _ (HB3v.out) ?hfu24 9 ?hnu24 Try.size29 ?h1u24 ?_
  case hyu24 => exact rfl
  case hxu24 => exact rfl
  case hfu24 => exact rfl
  case hnu24 => exact rfl
  case h1u24 => simp [allOne, Value.oneCell']
  intro u9 hb9 h9
  refine regx_next hK (Keeps.row h9 (.inr rfl)) ?_
  clear hK K
  try simp only [Act.put]
  refine regx_take 11 (some 7) (v := ?_) rfl rfl (by kernel_rfl) (by kernel_rfl) (by kernel_rfl) (fun _ _ _ h => h) (by rfl) ?_ ?_
  rotate_left
  · intro W hW; go_simp; first | done | with_reducible rfl
  try simp only [Act.put, List.setIfInBounds_toArray, List.set_cons_zero, List.set_cons_succ]
  refine wpAnyH_done (by kernel_rfl) ?_ _
  have HZ5 := Lib.hid hb9
  have h9' : Keeps (fun k => w.heap.size ≤ k ∧ k < w.heap.size + 3) u2.drew u9 := Keeps.row h9 (mid 2 rfl (by omega))
  have HT5 := Lib.hid h9'
  have hk3 : Keeps (own c B) u2 u2.drew := Keeps.drewk
  have HK3 := Lib.hid ((Keeps.keep (X := own c B) (HG1.out.trans HG2.out)).trans hk3)
  have HL3 := Lib.hid (HLS2.out.drew)
  have hr3 := HRS2.out.keeps hk3 (fun k hk hk2 => HS.out k hk2 hk)
  have HR3 := Lib.hid (HRS2.out.drew)
  clear h9 hb9 hr3 hk3 h9'
  go_wp2
  refine bodyPost_ret (results_c29t rfl _ _ _ _ (by rfl) (by rfl) HZ5.out) (by rfl) ?_
  refine ⟨c, r, rfl, ?_⟩
  rw [← HST.out]
  exact Post.fin HL.out HR.out HL3.out HR3.out HK3.out (fun k hk => .inl (own_same (B := B) (c := c) rfl rfl k hk)) (fun k hk => .inl hk) (fun k hk => HS.out k (own_same (B := B) (c := c) rfl rfl k hk)) HT5.out
end Go.Proofs.Ytmdgehpmeikgfaa
