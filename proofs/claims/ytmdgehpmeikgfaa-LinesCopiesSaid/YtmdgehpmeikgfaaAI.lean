import Derived.Test.YtmdgehpmeikgfaaAH
set_option linter.unusedVariables false
namespace Go.Proofs.Ytmdgehpmeikgfaa
open Go.RowKit
theorem Try.size71 : (Try.prog.info? 71).map (·.size) = some 10 := by kernel_rfl
theorem copy_nil0 (w : World) : Calls Try.prog 34 #[.pointer none] w fun e w' => e = .returned (.pointer none) ∧ w = w' := by
  go_enter Try.func34, Try.ntmps34
  go_wp2_with fail
  refine (none_nil _).mono ?_; rintro e w' ⟨rfl, rfl⟩
  go_wp2
  go_ret
  exact ⟨rfl, rfl⟩
abbrev zero71 : Array Value := #[.int .u32 0, .int .u32 0, .bool false, .bool false, .bool false, .bool false, .slice none 0 0, .int .i64 0, .slice none 0 0, .bool false]
set_option maxRecDepth 100000 in
set_option maxHeartbeats 8000000 in
theorem copy_lq (B : Nat) (g : Gh) (qa oa : Option Addr) (qcap ocap : Nat) (q : List UInt8) (w : World) (hL : LQ w B g qa oa qcap ocap q) (hqe : q = g.pushed.drop g.taken) (hql : q.length ≤ 1000000) (htl : g.told.length ≤ 1000000) :
    Calls Try.prog 34 #[.pointer (some ⟨B, 0, none⟩)] w fun e w' => ∃ B2 c2, e = .returned (.pointer (some ⟨B2, 0, none⟩)) ∧ LS w' B2 c2 g ∧ (∀ k, own c2 B2 k → w.heap.size ≤ k) ∧ w.grownBy w' none := by
  have hga := World.grownBy_alloc w (.cells zero71 71) none
  have HNa := Lib.hid (heap_alloc_new w (.cells zero71 71))
  have HL := Lib.hid hL
  have HLa := Lib.hid (hL.lk.blk)
  have HQ := Lib.hid hL.q'
  have HO := Lib.hid hL.o
  have HQE := Lib.hid hqe
  have HGa := Lib.hid hga
  have hlt := hL.lk.lt
  clear hL hqe hga
  go_enter Try.func34, Try.ntmps34
  go_wp2_with fail
  refine (none_lk B _ _ HL.out.lk).mono ?_; rintro e w' ⟨rfl, rfl⟩
  go_wp2_with (with_reducible refine hold_ld 71 _ rfl ?_)
  apply Lib.hid
  with_reducible refine wpList_load_blk rfl 71 _ rfl _ ?o5401 ?hx5401 _ _ _ HLa.out _ 10 ?hn5401 Try.underlying71 rfl Try.size71 ?_
  case hx5401 => exact rfl
  case hn5401 => exact rfl
  go_wp2_with (with_reducible refine hold_st 71 _ _ rfl ?_)
  apply Lib.hid
  with_reducible refine wpList_store_all rfl 71 _ _ rfl _ ?cs5402 ?hx5402 ?hy5402 _ _ HNa.out ?hf5402 _ ?hl5402 Try.size71 ?h15402 ?_
  case hy5402 => exact rfl
  case hx5402 => exact rfl
  case hf5402 => exact rfl
  case hl5402 => exact rfl
  case h15402 => simp [allOne, Value.oneCell']
  intro w2 hb2 hg2
  have HC := Lib.hid hb2
  have HLB := Lib.hid ((hg2.block _ (lt_of_block ((HGa.out.block _ (lt_of_block HLa.out) (by simp)).trans HLa.out)) (by simp; omega)).trans ((HGa.out.block _ (lt_of_block HLa.out) (by simp)).trans HLa.out))
  have HG2 := Lib.hid (grown_new HGa.out hg2 (Nat.le_refl _))
  have HNB := Lib.hid (show ¬ B = w.heap.size by omega)
  have HQ2 := Lib.hid (HQ.out.keptNone HG2.out)
  have HO2 := Lib.hid (HO.out.keptNone HG2.out)
  have HSZ := Lib.hid (show w.heap.size < w2.heap.size from lt_of_block hb2)
  clear hb2 hg2
  go_wp2
  refine regx_open (fun k => k = w.heap.size) (n := 14) rfl (by kernel_rfl) ?_
  refine regx_take 0 (some 9) (v := ?_) rfl rfl (by kernel_rfl) (by kernel_rfl) (by kernel_rfl) (fun _ _ _ h => h) (by rfl) ?_ ?_
  rotate_left
  · intro W hW; go_simp; first | done | with_reducible rfl
  try simp only [Act.put, List.setIfInBounds_toArray, List.set_cons_zero, List.set_cons_succ]
  refine regx_take 1 (some 10) (v := ?_) rfl rfl (by kernel_rfl) (by kernel_rfl) (by kernel_rfl) (fun _ _ _ h => h) (by rfl) ?_ ?_
  rotate_left
  · intro W hW; go_simp; first | done | with_reducible rfl
  try simp only [Act.put, List.setIfInBounds_toArray, List.set_cons_zero, List.set_cons_succ]
  refine regx_take 2 (some 11) (v := ?_) rfl rfl (by kernel_rfl) (by kernel_rfl) (by kernel_rfl) (fun _ _ _ h => h) (by rfl) ?_ ?_
  rotate_left
  · intro W hW; go_simp; first | done | with_reducible rfl
  try simp only [Act.put, List.setIfInBounds_toArray, List.set_cons_zero, List.set_cons_succ]
  refine regx_take 3 (some 12) (v := ?_) rfl rfl (by kernel_rfl) (by kernel_rfl) (by kernel_rfl) (fun _ _ _ h => h) (by rfl) ?_ ?_
  rotate_left
  · intro W hW; have k1 : W.cell? ⟨B, 6, none⟩ = some (.slice qa q.length qcap) := cells_all (((hW).block B (lt_of_block HLB.out) HNB.out).trans HLB.out) 6; go_simp; first | done | with_reducible rfl
  try simp only [Act.put, List.setIfInBounds_toArray, List.set_cons_zero, List.set_cons_succ]
  refine regx_take 5 (some 14) (v := ?_) rfl rfl (by kernel_rfl) (by kernel_rfl) (by kernel_rfl) (fun _ _ _ h => h) (by rfl) ?_ ?_
  rotate_left
  · intro W hW; go_simp; first | done | with_reducible rfl
  try simp only [Act.put, List.setIfInBounds_toArray, List.set_cons_zero, List.set_cons_succ]
  refine regx_take 6 (some 15) (v := ?_) rfl rfl (by kernel_rfl) (by kernel_rfl) (by kernel_rfl) (fun _ _ _ h => h) (by rfl) ?_ ?_
  rotate_left
  · intro W hW; go_simp; first | done | with_reducible rfl
  try simp only [Act.put, List.setIfInBounds_toArray, List.set_cons_zero, List.set_cons_succ]
  refine regx_take 7 (some 16) (v := ?_) rfl rfl (by kernel_rfl) (by kernel_rfl) (by kernel_rfl) (fun _ _ _ h => h) (by rfl) ?_ ?_
  rotate_left
  · intro W hW; go_simp; first | done | with_reducible rfl
  try simp only [Act.put, List.setIfInBounds_toArray, List.set_cons_zero, List.set_cons_succ]
  refine regx_take 8 (some 17) (v := ?_) rfl rfl (by kernel_rfl) (by kernel_rfl) (by kernel_rfl) (fun _ _ _ h => h) (by rfl) ?_ ?_
  rotate_left
  · intro W hW; have k1 : W.cell? ⟨B, 8, none⟩ = some (.slice oa g.told.length ocap) := cells_all (((hW).block B (lt_of_block HLB.out) HNB.out).trans HLB.out) 8; go_simp; first | done | with_reducible rfl
  try simp only [Act.put, List.setIfInBounds_toArray, List.set_cons_zero, List.set_cons_succ]
  refine wpAnyH_ready (rs := [4]) (by kernel_rfl) (by simp) ?_
  refine (AllReadyH.cons (o := { dst := some 13, op := Op.call { callee := Callee.value (Operand.func 44), args := #[Operand.tmp 12], argTypes := #[27] }, type := 27, pos := "lines.go:186", after := #[{ on := 3, ground := Ground.data }], guard := none }) rfl (fun K hK => ?_) AllReadyH.nil)
  go_simp
  refine (clone_sl _ q _ (HQ2.out.drew) hql).mono ?_; rintro e u1 ⟨v1, rfl, hv1, h1, n1⟩
  refine regx_next hK (Keeps.keep h1) ?_
  clear hK K
  try simp only [Act.put, List.setIfInBounds_toArray, List.set_cons_zero, List.set_cons_succ]
  refine wpAnyH_ready (rs := [9]) (by kernel_rfl) (by simp) ?_
  refine (AllReadyH.cons (o := { dst := some 18, op := Op.call { callee := Callee.value (Operand.func 44), args := #[Operand.tmp 17], argTypes := #[27] }, type := 27, pos := "lines.go:186", after := #[{ on := 8, ground := Ground.data }, { on := 4, ground := Ground.chain }], guard := none }) rfl (fun K hK => ?_) AllReadyH.nil)
  go_simp
  refine (clone_sl _ g.told _ (HO2.out.keptNone (drewl h1)) htl).mono ?_; rintro e u2 ⟨v2, rfl, hv2, h2, n2⟩; obtain ⟨a1, c1, rfl, _⟩ := hv1.shape; obtain ⟨a2, c2, rfl, _⟩ := hv2.shape
  refine regx_next hK (Keeps.keep h2) ?_
  clear hK K
  try simp only [Act.put, List.setIfInBounds_toArray, List.set_cons_zero, List.set_cons_succ]
  refine regx_take 10 (some 19) (v := ?_) rfl rfl (by kernel_rfl) (by kernel_rfl) (by kernel_rfl) (fun _ _ _ h => h) (by rfl) ?_ ?_
  rotate_left
  · intro W hW; go_simp; first | done | with_reducible rfl
  try simp only [Act.put, List.setIfInBounds_toArray, List.set_cons_zero, List.set_cons_succ]
  refine wpAnyH_ready (rs := [11]) (by kernel_rfl) (by simp) ?_
  refine (AllReadyH.cons (o := { dst := none, op := Op.store 27 (Operand.tmp 19) (Operand.tmp 13), type := 0, pos := "lines.go:186", after := #[{ on := 10, ground := Ground.data }, { on := 4, ground := Ground.data }, { on := 9, ground := Ground.chain }, { on := 0, ground := Ground.phase }, { on := 1, ground := Ground.phase }, { on := 2, ground := Ground.phase }, { on := 3, ground := Ground.phase }, { on := 4, ground := Ground.phase }, { on := 5, ground := Ground.textOnly Departure.lateStores }, { on := 6, ground := Ground.textOnly Departure.lateStoresUnsure }, { on := 7, ground := Ground.textOnly Departure.lateStoresUnsure }, { on := 8, ground := Ground.phase }, { on := 9, ground := Ground.phase }], guard := none }) rfl (fun K hK => ?_) AllReadyH.nil)
  have hC2 := (h2.block _ (lt_of_block ((h1.block _ (lt_of_block (show w2.drew.heap[w.heap.size]? = _ from HC.out)) (by simp)).trans HC.out)) (by simp)).trans ((h1.block _ (lt_of_block (show w2.drew.heap[w.heap.size]? = _ from HC.out)) (by simp)).trans HC.out)
  have kc := cells_all hC2 6
  have kf := frozen_all hC2 6
  have hC3 := heap_setCell_at (j := 6) (.slice a1 q.length c1) hC2
  have h3 := grown_setCell u2 w.heap.size 6 (.slice a1 q.length c1)
  go_simp
  refine regx_next hK (Keeps.row h3 rfl) ?_
  clear hK K
  try simp only [Act.put]
  refine regx_take 12 (some 20) (v := ?_) rfl rfl (by kernel_rfl) (by kernel_rfl) (by kernel_rfl) (fun _ _ _ h => h) (by rfl) ?_ ?_
  rotate_left
  · intro W hW; go_simp; first | done | with_reducible rfl
  try simp only [Act.put, List.setIfInBounds_toArray, List.set_cons_zero, List.set_cons_succ]
  refine wpAnyH_ready (rs := [13]) (by kernel_rfl) (by simp) ?_
  refine (AllReadyH.cons (o := { dst := none, op := Op.store 27 (Operand.tmp 20) (Operand.tmp 18), type := 0, pos := "lines.go:186", after := #[{ on := 12, ground := Ground.data }, { on := 9, ground := Ground.data }, { on := 11, ground := Ground.chain }, { on := 0, ground := Ground.phase }, { on := 1, ground := Ground.phase }, { on := 2, ground := Ground.phase }, { on := 3, ground := Ground.phase }, { on := 4, ground := Ground.phase }, { on := 5, ground := Ground.phase }, { on := 6, ground := Ground.phase }, { on := 7, ground := Ground.phase }, { on := 8, ground := Ground.phase }, { on := 9, ground := Ground.phase }, { on := 10, ground := Ground.phase }, { on := 11, ground := Ground.phase }], guard := none }) rfl (fun K hK => ?_) AllReadyH.nil)
  have kc2 := cells_all hC3 8
  have kf2 := frozen_all hC3 8
  have hC4 := heap_setCell_at (j := 8) (.slice a2 g.told.length c2) hC3
  have h4 := grown_setCell (u2.setCell ⟨w.heap.size, 6, none⟩ (.slice a1 q.length c1)) w.heap.size 8 (.slice a2 g.told.length c2)
  go_simp
  refine regx_next hK (Keeps.row h4 rfl) ?_
  clear hK K
  try simp only [Act.put]
  refine wpAnyH_done (by kernel_rfl) ?_ _
  have HC4 := Lib.hid hC4
  have HG4 := Lib.hid (show w.grownBy _ none from grown_new (grown_new ((HG2.out.trans (drewl h1)).trans h2) h3 (Nat.le_refl _)) h4 (Nat.le_refl _))
  have hV1 := ((hv1.keptNone h2).kept h3 (fun k hk e => by have e2 := Option.some.inj e; have h5 : w2.heap.size ≤ k := n1 k hk; have := HSZ.out; omega)).kept h4 (fun k hk e => by have e2 := Option.some.inj e; have h5 : w2.heap.size ≤ k := n1 k hk; have := HSZ.out; omega)
  have hV2 := (hv2.kept h3 (fun k hk e => by have e2 := Option.some.inj e; have h5 : u1.heap.size ≤ k := n2 k hk; have h6 : w2.heap.size ≤ u1.heap.size := h1.size; have := HSZ.out; omega)).kept h4 (fun k hk e => by have e2 := Option.some.inj e; have h5 : u1.heap.size ≤ k := n2 k hk; have h6 : w2.heap.size ≤ u1.heap.size := h1.size; have := HSZ.out; omega)
  have HV1 := Lib.hid hV1
  have HV2 := Lib.hid hV2
  have HN1 := Lib.hid n1
  have HN2 := Lib.hid n2
  have HS1 := Lib.hid h1.size
  have HLT := Lib.hid (hv1.lt)
  clear h1 h2 h3 h4 hv1 hv2 hC2 hC3 hC4 kc kf kc2 kf2 hV1 hV2 n1 n2
  go_wp2
  go_ret
  refine ⟨w.heap.size, ⟨(g.alarm : Nat), (g.mask : Nat), false, false, g.f2, g.f3, .slice a1 q.length c1, (g.taken : Nat), .slice a2 g.told.length c2⟩, rfl, ⟨HC4.out, rfl, rfl, rfl, rfl, rfl, rfl, HQE.out ▸ HV1.out, rfl, HV2.out, fun k hk hk2 => ?_⟩, fun k hk => ?_, HG4.out⟩
  · have h5 : k < u1.heap.size := HLT.out k hk
    have h6 : u1.heap.size ≤ k := HN2.out k hk2
    omega
  · rcases hk with rfl | h | h
    · exact Nat.le_refl _
    · have h5 : w2.heap.size ≤ k := HN1.out k h
      have := HSZ.out
      omega
    · have h5 : u1.heap.size ≤ k := HN2.out k h
      have := HSZ.out
      have h6 : w2.heap.size ≤ u1.heap.size := HS1.out
      omega
theorem copy_ls (B : Nat) (c : Lc) (g : Gh) (w : World) (hL : LS w B c g) (hpl : g.pushed.length ≤ 1000000) (htl : g.told.length ≤ 1000000) :
    Calls Try.prog 34 #[.pointer (some ⟨B, 0, none⟩)] w fun e w' => ∃ B2 c2, e = .returned (.pointer (some ⟨B2, 0, none⟩)) ∧ LS w' B2 c2 g ∧ (∀ k, own c2 B2 k → w.heap.size ≤ k) ∧ w.grownBy w' none := by
  obtain ⟨_, _, _, _, h1⟩ := hL.lq
  exact copy_lq B g _ _ _ _ _ w h1 rfl (by rw [List.length_drop]; omega) htl
end Go.Proofs.Ytmdgehpmeikgfaa
