import Derived.Test.YtmdgehpmeikgfaaR
set_option linter.unusedVariables false
namespace Go.Proofs.Ytmdgehpmeikgfaa
open Go.RowKit
theorem Keeps.drewk {X : Nat → Prop} {w : World} : Keeps X w w.drew := ⟨rfl, rfl, rfl, Nat.le_refl _, fun _ _ _ => rfl⟩
theorem Keeps.undrew {X : Nat → Prop} {a b : World} (h : Keeps X a.drew b) : Keeps X a b := ⟨h.os, h.tape, h.output, h.size, h.block⟩
theorem Sl.drew {w : World} {v : Value} {l : List UInt8} (h : Sl w v l) : Sl w.drew v l := h
theorem LS.drew {w : World} {B : Nat} {c : Lc} {g : Gh} (h : LS w B c g) : LS w.drew B c g := ⟨h.lk, h.al, h.ms, h.u2, h.u3, h.u0, h.u1, h.q, h.fi, h.o, h.ne⟩
theorem RS.drew {w : World} {r : Rf} {g : Gh} (h : RS w r g) : RS w.drew r g := ⟨h.al, h.ms, h.f0, h.f1, h.f2, h.f3, h.p, h.tk, h.t⟩
set_option maxRecDepth 100000 in
set_option maxHeartbeats 8000000 in
theorem act_tell (B : Nat) (c : Lc) (r : Rf) (g : Gh) (x : Ac) (bs : List UInt8) (w : World) (hL : LS w B c g) (hR : RS w r g) (hS : ∀ k, own c B k → ¬ rrow r k) (hw : x.what = 3) (hb : g.told.length ≤ 999999) : Calls Try.prog 30 #[.pointer (some ⟨B, 0, none⟩), r.val, x.val] w fun e w' => ∃ c' r', e = .returned (.tuple #[r'.val, .bool true]) ∧ Post w w' B c c' r r' (g.step x bs) := by
  obtain ⟨hg0, b1, b2, b3⟩ := three_new w (.cells r.cells 29) (.cells x.cells 49) (.cells Rf.zero.cells 29)
  have HB1 := Lib.hid (show _ from b1)
  have HB2 := Lib.hid b2
  have HB3 := Lib.hid b3
  have HG0 := Lib.hid hg0
  have HL := Lib.hid hL
  have HR := Lib.hid hR
  have HS := Lib.hid hS
  have HLK0 := Lib.hid (hL.lk.keptNone hg0)
  have HST := Lib.hid (show ({ g with told := g.told ++ [x.byte] } : Gh) = g.step x bs by simp [Gh.step, hw])
  clear hg0 b1 b2 b3 hL hR hS
  obtain ⟨what, line, ba, bn, bc, byte, word, up⟩ := x
  simp only at hw
  subst hw
  go_enter Try.func30, Try.ntmps30
  go_wp2_with (with_reducible refine hold_ld 29 _ rfl ?_)
  apply Lib.hid
  with_reducible refine wpList_load_blk rfl 29 _ rfl _ ?o3701 ?hx3701 _ _ _ HB1.out _ 9 ?hn3701 Try.underlying29 rfl Try.size29 ?_
  case hx3701 => exact rfl
  case hn3701 => exact rfl
  go_wp2_with fail
  refine (rtell r g.told byte _ (HR.out.t.keptNone HG0.out) hb).mono ?_; rintro e u1 ⟨ta, tc, rfl, hT1, h1, hnew⟩
  have HB1u := Lib.hid ((h1.block _ (lt_of_block HB1.out) (by simp)).trans HB1.out)
  have HB2u := Lib.hid ((h1.block _ (lt_of_block HB2.out) (by simp)).trans HB2.out)
  have HB3u := Lib.hid ((h1.block _ (lt_of_block HB3.out) (by simp)).trans HB3.out)
  have HG1 := Lib.hid (HG0.out.trans h1)
  have HT1 := Lib.hid hT1
  have HNW := Lib.hid hnew
  have hsz1 := lt_of_block HB3u.out
  clear h1 hT1 hnew
  have hga := World.grownBy_alloc u1 (.cells Rf.zero.cells 29) none
  have hna := heap_alloc_new u1 (.cells Rf.zero.cells 29)
  have HB1m := Lib.hid ((hga.block _ (lt_of_block HB1u.out) (by simp)).trans HB1u.out)
  have HB2m := Lib.hid ((hga.block _ (lt_of_block HB2u.out) (by simp)).trans HB2u.out)
  have HB3m := Lib.hid ((hga.block _ (lt_of_block HB3u.out) (by simp)).trans HB3u.out)
  have HNA := Lib.hid hna
  have HGA := Lib.hid hga
  clear hga hna
  go_wp2_with (with_reducible refine hold_st 29 _ _ rfl ?_)
  apply Lib.hid
  with_reducible refine wpList_store_all rfl 29 _ _ rfl _ ?cs3702 ?hx3702 ?hy3702 _ _ HNA.out ?hf3702 _ ?hl3702 Try.size29 ?h13702 ?_
  case hy3702 => exact rfl
  case hx3702 => exact rfl
  case hf3702 => exact rfl
  case hl3702 => exact rfl
  case h13702 => simp [allOne, Value.oneCell']
  intro u2 hb2 hg2
  have HB1v := Lib.hid ((hg2.block _ (lt_of_block HB1m.out) (by have := lt_of_block HB3u.out; simp; omega)).trans HB1m.out)
  have HB2v := Lib.hid ((hg2.block _ (lt_of_block HB2m.out) (by have := lt_of_block HB3u.out; simp; omega)).trans HB2m.out)
  have HB3v := Lib.hid ((hg2.block _ (lt_of_block HB3m.out) (by have := lt_of_block HB3u.out; simp; omega)).trans HB3m.out)
  have HA := Lib.hid (show u2.heap[u1.heap.size]? = some (.cells ({ r with ta := ta, tn := g.told.length + 1, tc := tc } : Rf).cells 29 (0, 0)) from hb2)
  have HG2 := Lib.hid (grown_new HGA.out hg2 (Nat.le_refl _))
  have hsz2 := lt_of_block HB3v.out
  clear hb2 hg2
  have HLS2 := Lib.hid (HL.out.keptNone (HG1.out.trans HG2.out))
  have HRS2 := Lib.hid (HR.out.keptNone (HG1.out.trans HG2.out))
  have HT2 := Lib.hid (HT1.out.keptNone HG2.out)
  have HNX2 := Lib.hid (show ¬ (own c B (w.heap.size + 1) ∨ w.heap.size + 1 = w.heap.size + 1 + 1) from fun h => h.elim (fun h => by have := HL.out.lt _ h; omega) (fun h => by omega))
  have HNXA := Lib.hid (show ¬ (own c B u1.heap.size ∨ u1.heap.size = w.heap.size + 1 + 1) from fun h => h.elim (fun h => by have := HL.out.lt _ h; omega) (fun h => by omega))
  have HNX3 := Lib.hid (show ¬ (w.heap.size + 1 + 1 = B ∨ rowOf c.ov = some (w.heap.size + 1 + 1)) from fun h => by have := HL.out.lt (w.heap.size + 1 + 1) (h.elim .inl (fun h => .inr (.inr h))); omega)
  go_wp2
  refine regx_open (fun k => own c B k ∨ k = w.heap.size + 1 + 1) (n := 9) rfl (by kernel_rfl) ?_
  refine regx_take 0 (some 142) (v := ?_) rfl rfl (by kernel_rfl) (by kernel_rfl) (by kernel_rfl) (fun _ _ _ h => h) (by rfl) ?_ ?_
  rotate_left
  · intro W hW; refine exec_ld29 (x := Operand.tmp 22) ?_ ?_ (((hW).block u1.heap.size (lt_of_block HA.out) HNXA.out).trans HA.out) <;> rfl
  try simp only [Act.put, List.setIfInBounds_toArray, List.set_cons_zero, List.set_cons_succ]
  refine regx_take 1 (some 143) (v := ?_) rfl rfl (by kernel_rfl) (by kernel_rfl) (by kernel_rfl) (fun _ _ _ h => h) (by rfl) ?_ ?_
  rotate_left
  · intro W hW; go_simp; first | done | with_reducible rfl
  try simp only [Act.put, List.setIfInBounds_toArray, List.set_cons_zero, List.set_cons_succ]
  refine regx_take 2 (some 144) (v := ?_) rfl rfl (by kernel_rfl) (by kernel_rfl) (by kernel_rfl) (fun _ _ _ h => h) (by rfl) ?_ ?_
  rotate_left
  · intro W hW; go_simp; first | done | with_reducible rfl
  try simp only [Act.put, List.setIfInBounds_toArray, List.set_cons_zero, List.set_cons_succ]
  refine regx_take 3 (some 145) (v := ?_) rfl rfl (by kernel_rfl) (by kernel_rfl) (by kernel_rfl) (fun _ _ _ h => h) (by rfl) ?_ ?_
  rotate_left
  · intro W hW; have c := cells_all (((hW).block (w.heap.size + 1) (lt_of_block HB2v.out) HNX2.out).trans HB2v.out) 3; go_simp; first | done | with_reducible rfl
  try simp only [Act.put, List.setIfInBounds_toArray, List.set_cons_zero, List.set_cons_succ]
  refine regx_take 5 (some 147) (v := ?_) rfl rfl (by kernel_rfl) (by kernel_rfl) (by kernel_rfl) (fun _ _ _ h => h) (by rfl) ?_ ?_
  rotate_left
  · intro W hW; go_simp; first | done | with_reducible rfl
  try simp only [Act.put, List.setIfInBounds_toArray, List.set_cons_zero, List.set_cons_succ]
  refine wpAnyH_ready (rs := [4]) (by kernel_rfl) (by simp) ?_
  refine (AllReadyH.cons (o := { dst := some 146, op := Op.call { callee := Callee.value (Operand.func 26), args := #[Operand.tmp 143, Operand.tmp 145], argTypes := #[23, 5] }, type := 3, pos := "law.go:71", after := #[{ on := 1, ground := Ground.data }, { on := 3, ground := Ground.data }], guard := none }) rfl (fun K hK => ?_) AllReadyH.nil)
  go_simp
  refine (tell_lk B c byte g.told _ HLS2.out.drew.lk HLS2.out.o.drew hb).mono ?_; rintro e u3 ⟨ov', rfl, hL3, hO3, h3, hrow⟩ ; have h3x : Keeps (fun k => own c B k ∨ k = w.heap.size + 1 + 1) u2.drew u3 := h3.mono fun i _ h => h.elim (fun h => .inl (.inl h)) (fun h => .inl (.inr (.inr h)))
  refine regx_next hK h3x ?_
  clear hK K
  try simp only [Act.put, List.setIfInBounds_toArray, List.set_cons_zero, List.set_cons_succ]
  refine regx_take 6 (some 148) (v := ?_) rfl rfl (by kernel_rfl) (by kernel_rfl) (by kernel_rfl) (fun _ _ _ h => h) (by rfl) ?_ ?_
  rotate_left
  · intro W hW; go_simp; first | done | with_reducible rfl
  try simp only [Act.put, List.setIfInBounds_toArray, List.set_cons_zero, List.set_cons_succ]
  refine wpAnyH_ready (rs := [7]) (by kernel_rfl) (by simp) ?_
  refine (AllReadyH.cons (o := { dst := none, op := Op.store 29 (Operand.tmp 6) (Operand.tmp 142), type := 0, pos := "law.go:71", after := #[{ on := 0, ground := Ground.data }, { on := 4, ground := Ground.chain }, { on := 0, ground := Ground.phase }, { on := 1, ground := Ground.textOnly Departure.lateStores }, { on := 2, ground := Ground.textOnly Departure.lateStores }, { on := 3, ground := Ground.textOnly Departure.lateStores }, { on := 4, ground := Ground.textOnly Departure.lateStoresUnsure }, { on := 5, ground := Ground.textOnly Departure.lateStores }, { on := 6, ground := Ground.textOnly Departure.lateStores }], guard := none }) rfl (fun K hK => ?_) AllReadyH.nil)
  refine wp_store_all 29 _ _ rfl (w.heap.size + 1 + 1) ?csu5 ?hxu5 ?hyu5 _ _ ((h3.block _ (lt_of_block HB3v.out) HNX3.out).trans HB3v.out) ?hfu5 9 ?hnu5 Try.size29 ?h1u5 ?_
  case hyu5 => exact rfl
  case hxu5 => exact rfl
  case hfu5 => exact rfl
  case hnu5 => exact rfl
  case h1u5 => simp [allOne, Value.oneCell']
  intro u9 hb9 h9
  refine regx_next hK (Keeps.row h9 (.inr rfl)) ?_
  clear hK K
  try simp only [Act.put]
  refine regx_take 8 (some 7) (v := ?_) rfl rfl (by kernel_rfl) (by kernel_rfl) (by kernel_rfl) (fun _ _ _ h => h) (by rfl) ?_ ?_
  rotate_left
  · intro W hW; go_simp; first | done | with_reducible rfl
  try simp only [Act.put, List.setIfInBounds_toArray, List.set_cons_zero, List.set_cons_succ]
  refine wpAnyH_done (by kernel_rfl) ?_ _
  have h3 := h3.undrew
  have HZ5 := Lib.hid hb9
  have h9' : Keeps (fun k => w.heap.size ≤ k ∧ k < w.heap.size + 3) u3 u9 := Keeps.row h9 (mid 2 rfl (by omega))
  have HT5 := Lib.hid h9'
  have hk3 : Keeps (own c B) u2 u3 := h3.mono (fun i _ h => h.elim .inl (fun h => .inr (.inr h)))
  have HK3 := Lib.hid ((Keeps.keep (X := own c B) (HG1.out.trans HG2.out)).trans hk3)
  have HL3 := Lib.hid (show LS u3 B { c with ov := ov' } { g with told := g.told ++ [byte] } from ⟨hL3, HL.out.al, HL.out.ms, HL.out.u2, HL.out.u3, HL.out.u0, HL.out.u1, HLS2.out.q.keeps h3 (fun k hk h => h.elim (fun e => HLS2.out.q.ne HLS2.out.lk.blk (by decide) k hk (by rw [e])) (HL.out.ne k hk)), HL.out.fi, hO3, fun k hk h => hrow.elim (fun e => HL.out.ne k hk (e ▸ h)) (fun ⟨j, e1, e2⟩ => by rw [e1] at h; cases h; have := HL.out.lt k (.inr (.inl hk)); have h8 : u2.heap.size ≤ k := e2; have h7 : w.heap.size + 3 ≤ u2.heap.size := hsz2; omega)⟩)
  have hr3 := HRS2.out.keeps hk3 (fun k hk hk2 => HS.out k hk2 hk)
  have hT3 := HT2.out.keeps hk3 (fun k hk hk2 => by have := HL.out.lt k hk2; have := HNW.out k hk; simp only [World.size_alloc] at this; omega)
  have HR3 := Lib.hid (show RS u3 { r with ta := ta, tn := g.told.length + 1, tc := tc } { g with told := g.told ++ [byte] } from ⟨hr3.al, hr3.ms, hr3.f0, hr3.f1, hr3.f2, hr3.f3, hr3.p, hr3.tk, by simpa using hT3⟩)
  have HNL := Lib.hid (show ∀ k, own { c with ov := ov' } B k → own c B k ∨ u2.heap.size ≤ k from fun k hk => by
    rcases hk with h | h | h
    · exact .inl (.inl h)
    · exact .inl (.inr (.inl h))
    · rcases hrow with e | ⟨j, e1, e2⟩
      · exact .inl (.inr (.inr (e ▸ h)))
      · right; rw [e1] at h; cases h; exact e2)
  clear h9 hb9 h3x h3 hrow hO3 hL3 hr3 hT3 hk3 h9'
  go_wp2
  refine bodyPost_ret (results_c29t rfl _ _ _ _ (by rfl) (by rfl) HZ5.out) (by rfl) ?_
  refine ⟨{ c with ov := ov' }, { r with ta := ta, tn := g.told.length + 1, tc := tc }, rfl, ?_⟩
  rw [← HST.out]
  have hw3 : w.heap.size + 3 ≤ u2.heap.size := hsz2
  have hnt : ∀ k, rowOf (.slice ta (g.told.length + 1) tc) = some k → w.heap.size + 3 ≤ k ∧ k < u2.heap.size := fun k hk => ⟨by have := HNW.out k (by simpa using hk); simp only [World.size_alloc] at this; omega, HT2.out.lt k (by simpa using hk)⟩
  exact Post.fin HL.out HR.out HL3.out HR3.out HK3.out (fun k hk => (HNL.out k hk).imp id (fun h => by omega)) (fun k hk => hk.elim (fun h => .inl (.inl h)) (fun h => .inr (hnt k h).1)) (fun k hk hk2 => (HNL.out k hk).elim (fun h => hk2.elim (fun h2 => HS.out k h (.inl h2)) (fun h2 => by have := (hnt k h2).1; have := HL.out.lt k h; omega)) (fun h => hk2.elim (fun h2 => by have := HR.out.lt k (.inl h2); omega) (fun h2 => by have := (hnt k h2).2; omega))) HT5.out
end Go.Proofs.Ytmdgehpmeikgfaa
