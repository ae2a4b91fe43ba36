import Derived.Test.YtmdgehpmeikgfaaT
set_option linter.unusedVariables false
namespace Go.Proofs.Ytmdgehpmeikgfaa
open Go.RowKit
theorem Sl.toSrc {w : World} {a : Option Addr} {n cap : Nat} {l : List UInt8} (h : Sl w (.slice a n cap) l) : Go.Proofs.Ytmdgehpmeikgfaa.Src w a l := by
  rcases id h with ⟨_, hl⟩ | ⟨g, o, cap', cur, hv, _⟩
  · exact .inl hl
  · cases hv
    exact .inr ⟨g, o, rfl, fun j hj => h.cell j _ (bV_get l j hj)⟩
theorem Src.keeps {X : Nat → Prop} {w w' : World} {a : Option Addr} {l : List UInt8} (h : Go.Proofs.Ytmdgehpmeikgfaa.Src w a l) (hg : Keeps X w w') (hne : ∀ b o, a = some ⟨b, o, none⟩ → ¬ X b) : Go.Proofs.Ytmdgehpmeikgfaa.Src w' a l := by
  rcases h with h | ⟨b, o, ha, hc⟩
  · exact .inl h
  · refine .inr ⟨b, o, ha, fun j hj => ?_⟩
    have hb := hg.block b (World.block_lt_of_cell? w _ (hc j hj)) (hne b o ha)
    rw [← hc j hj]
    simp [World.cell?, hb]
theorem Sl.free {w : World} {g o n cap : Nat} {l : List UInt8} (h : Sl w (.slice (some ⟨g, o, none⟩) n cap) l) (j : Nat) : w.frozen? ⟨g, j, none⟩ = false := by
  rcases h with ⟨h, _⟩ | ⟨g', o', cap', cur, h0, h1, h2, h3, h4, h5⟩
  · cases h
  · cases h0
    exact frozen_all h3 j
theorem Sl.setAt {w : World} {g o n cap : Nat} {l : List UInt8} (h : Sl w (.slice (some ⟨g, o, none⟩) n cap) l) (j : Nat) (hj : j < l.length) (c : UInt8) : Sl (w.setCell ⟨g, o + j, none⟩ (.int .u8 (c.toNat : Int))) (.slice (some ⟨g, o, none⟩) n cap) (l.set j c) := by
  rcases h with ⟨h, _⟩ | ⟨g', o', cap', cur, h0, h1, h2, h3, h4, h5⟩
  · cases h
  · cases h0
    have := heap_setCell_at (j := o + j) (.int .u8 (c.toNat : Int)) h3
    rw [List.setIfInBounds_toArray] at this
    refine .inr ⟨g, o, cap, _, by rw [List.length_set], by rw [List.length_set]; exact h1, h2, this, by rw [List.length_set]; exact h4, ?_⟩
    rw [List.length_set, List.drop_set, if_neg (by omega), show o + j - o = j from by omega, List.take_set, h5]
    simp [bsV, List.map_set, bV]
theorem u8_succ (c : UInt8) : IntKind.u8.wrap ((c.toNat : Int) + 1) = ((c + 1).toNat : Int) := by
  rw [IntKind.wrap_u8, UInt8.toNat_add]
  simp
set_option maxRecDepth 100000 in
set_option maxHeartbeats 16000000 in
theorem act_push_long (B : Nat) (c : Lc) (r : Rf) (g : Gh) (x : Ac) (bs : List UInt8) (w : World) (hL : LS w B c g) (hR : RS w r g) (hS : ∀ k, own c B k → ¬ rrow r k) (hw : x.what = 1) (hWG : WG g) (hbn : x.bn = bs.length) (hX : Src w x.ba bs) (hXn : bs ≠ [] → ∀ b o, x.ba = some ⟨b, o, none⟩ → ¬ own c B b) (hbs : bs.length ≤ 500000) (hpl : g.pushed.length ≤ 500000) (hfit : 256 < g.pushed.length - g.taken + bs.length) : Calls Try.prog 30 #[.pointer (some ⟨B, 0, none⟩), r.val, x.val] w fun e w' => ∃ c' r', e = .returned (.tuple #[r'.val, .bool true]) ∧ Post w w' B c c' r r' (g.step x bs) := by
  have htk := hWG.tk
  have hql : (g.pushed.drop g.taken).length = g.pushed.length - g.taken := List.length_drop
  obtain ⟨hg0, b1, b2, b3⟩ := three_new w (.cells r.cells 29) (.cells x.cells 49) (.cells Rf.zero.cells 29)
  have HB1 := Lib.hid (show _ from b1)
  have HB2 := Lib.hid b2
  have HB3 := Lib.hid b3
  have HG0 := Lib.hid hg0
  have HL := Lib.hid hL
  have HR := Lib.hid hR
  have HS := Lib.hid hS
  have HLK0 := Lib.hid (hL.lk.keptNone hg0)
  have HST := Lib.hid (show g = g.step x bs by simp [Gh.step, hw, show ¬ (g.pushed.length - g.taken + bs.length ≤ 256) from by omega])
  have HX0 := Lib.hid hX
  clear hg0 b1 b2 b3 hL hR hS
  obtain ⟨what, line, ba, bn, bc, byte, word, up⟩ := x
  simp only at hw hbn hX hXn
  subst hw hbn
  clear hX
  have hv0 : Sl ((((w.alloc (.cells r.cells 29)).alloc (.cells (⟨1, line, ba, bs.length, bc, byte, word, up⟩ : Ac).cells 49)).alloc (.cells Rf.zero.cells 29)).alloc (.cells #[] 5)) (.slice (some ⟨w.heap.size + 1 + 1 + 1, 0, none⟩) 0 0) [] :=
    .inr ⟨w.heap.size + 1 + 1 + 1, 0, 0, [], rfl, Nat.le_refl _, by simp [maxLen], (by have := heap_alloc_new (((w.alloc (.cells r.cells 29)).alloc (.cells (⟨1, line, ba, bs.length, bc, byte, word, up⟩ : Ac).cells 49)).alloc (.cells Rf.zero.cells 29)) (.cells #[] 5); simpa using this), by simp, by simp [bsV]⟩
  have hga := World.grownBy_alloc (((w.alloc (.cells r.cells 29)).alloc (.cells (⟨1, line, ba, bs.length, bc, byte, word, up⟩ : Ac).cells 49)).alloc (.cells Rf.zero.cells 29)) (.cells #[] 5) none
  have hvs := src_go (cap := bc) ((HX0.out).keptNone (HG0.out.trans hga))
  have HB1z := Lib.hid ((hga.block _ (lt_of_block HB1.out) (by simp)).trans HB1.out)
  have HB2z := Lib.hid ((hga.block _ (lt_of_block HB2.out) (by simp)).trans HB2.out)
  have HB3z := Lib.hid ((hga.block _ (lt_of_block HB3.out) (by simp)).trans HB3.out)
  have HGz := Lib.hid (HG0.out.trans hga)
  clear hga
  go_enter Try.func30, Try.ntmps30
  go_wp2_with (at_builtin; refine wpList_sl rfl _ _ rfl _ _ [] bs rfl rfl hv0 hvs (by simp; omega) ?_)
  intro v1 w1 hQ1 hg1 hr1
  obtain ⟨va, vcap, hv1, hvc⟩ := hQ1.shape
  subst hv1
  have hrb : ∀ k, rowOf (.slice va bs.length vcap) = some k → w.heap.size + 3 ≤ k := by
    rcases hr1 with h | h
    · rw [h]; rintro k ⟨⟩; exact Nat.le_refl _
    · rw [h]; rintro k ⟨⟩; omega
  have HB1a := Lib.hid ((hg1.block _ (lt_of_block HB1z.out) (by simp [rowOf]; try omega)).trans HB1z.out)
  have HB2a := Lib.hid ((hg1.block _ (lt_of_block HB2z.out) (by simp [rowOf]; try omega)).trans HB2z.out)
  have HB3a := Lib.hid ((hg1.block _ (lt_of_block HB3z.out) (by simp [rowOf]; try omega)).trans HB3z.out)
  have HGa := Lib.hid (grown_new HGz.out hg1 (by show w.heap.size ≤ w.heap.size + 1 + 1 + 1; omega))
  have HQa := Lib.hid (show Sl w1 (.slice va bs.length vcap) bs from hQ1)
  have hsza := lt_of_block HB3a.out
  clear hQ1 hg1 hr1 hv0 hvs
  have hc2 : w1.cell? ⟨w.heap.size + 1, 2, none⟩ = some (.slice ba bs.length bc) := cells_all HB2a.out 2
  go_wp2_with (with_reducible refine hold_ld 29 _ rfl ?_)
  apply Lib.hid
  with_reducible refine wpList_load_blk rfl 29 _ rfl _ ?o3901 ?hx3901 _ _ _ HB1a.out _ 9 ?hn3901 Try.underlying29 rfl Try.size29 ?_
  case hx3901 => exact rfl
  case hn3901 => exact rfl
  go_wp2_with fail
  refine (rpush_long r g.taken HR.out.tk (by rw [HR.out.pn]; exact htk) bs.length ba bc _ (by rw [HR.out.pn]; omega) (by omega) (by rw [HR.out.pn]; exact hfit)).mono ?_; rintro e u1 ⟨rfl, h1⟩
  have HB1u := Lib.hid ((h1.block _ (lt_of_block HB1a.out) (by simp)).trans HB1a.out)
  have HB2u := Lib.hid ((h1.block _ (lt_of_block HB2a.out) (by simp)).trans HB2a.out)
  have HB3u := Lib.hid ((h1.block _ (lt_of_block HB3a.out) (by simp)).trans HB3a.out)
  have HG1 := Lib.hid (HGa.out.trans h1)
  have HQ1 := Lib.hid (HQa.out.keptNone h1)
  have hszu := h1.size
  clear h1
  have hga := World.grownBy_alloc u1 (.cells Rf.zero.cells 29) none
  have hna := heap_alloc_new u1 (.cells Rf.zero.cells 29)
  have HB1m := Lib.hid ((hga.block _ (lt_of_block HB1u.out) (by simp)).trans HB1u.out)
  have HB2m := Lib.hid ((hga.block _ (lt_of_block HB2u.out) (by simp)).trans HB2u.out)
  have HB3m := Lib.hid ((hga.block _ (lt_of_block HB3u.out) (by simp)).trans HB3u.out)
  have HNA := Lib.hid hna
  have HGA := Lib.hid hga
  clear hga hna
  go_wp2_with (with_reducible refine hold_st 29 _ _ rfl ?_)
  apply Lib.hid
  with_reducible refine wpList_store_all rfl 29 _ _ rfl _ ?cs3902 ?hx3902 ?hy3902 _ _ HNA.out ?hf3902 _ ?hl3902 Try.size29 ?h13902 ?_
  case hy3902 => exact rfl
  case hx3902 => exact rfl
  case hf3902 => exact rfl
  case hl3902 => exact rfl
  case h13902 => simp [allOne, Value.oneCell']
  intro u2 hb2 hg2
  have HB1v := Lib.hid ((hg2.block _ (lt_of_block HB1m.out) (by have := lt_of_block HB3u.out; simp; omega)).trans HB1m.out)
  have HB2v := Lib.hid ((hg2.block _ (lt_of_block HB2m.out) (by have := lt_of_block HB3u.out; simp; omega)).trans HB2m.out)
  have HB3v := Lib.hid ((hg2.block _ (lt_of_block HB3m.out) (by have := lt_of_block HB3u.out; simp; omega)).trans HB3m.out)
  have HA := Lib.hid (show u2.heap[u1.heap.size]? = some (.cells (r).cells 29 (0, 0)) from hb2)
  have HG2 := Lib.hid (grown_new HGA.out hg2 (Nat.le_refl _))
  have hsz2 := lt_of_block HB3v.out
  clear hb2 hg2
  have HLS2 := Lib.hid (HL.out.keptNone (HG1.out.trans HG2.out))
  have HRS2 := Lib.hid (HR.out.keptNone (HG1.out.trans HG2.out))
  have HQ2 := Lib.hid (HQ1.out.keptNone HG2.out)
  have hsv : ∀ a n cap, Sl u2 (.slice a n cap) bs → Go.Proofs.Ytmdgehpmeikgfaa.Src u2 a bs := fun a n cap h => h.toSrc
  have hszA := lt_of_block HA.out
  go_wp2_with fail
  refine (push_long B c (g.pushed.drop g.taken) bs.length va vcap _ HLS2.out.lk HLS2.out.q (by rw [hql]; exact hfit) (by rw [hql]; exact hWG.wt)).mono ?_; rintro e u3 ⟨rfl, rfl⟩
  have HB1t := HB1v
  have HB2t := HB2v
  have HB3t := HB3v
  have HAt := HA
  have HK3 := Lib.hid (Keeps.keep (X := own c B) (HG1.out.trans HG2.out))
  have HL3 := HLS2
  have HR3 := HRS2
  have HQ3 := HQ2
  have HRB := Lib.hid (show ∀ k, rowOf (.slice va bs.length vcap) = some k → w.heap.size + 3 ≤ k ∧ k < w1.heap.size from fun k hk => ⟨hrb k hk, HQa.out.lt k hk⟩)
  have hX3 : Go.Proofs.Ytmdgehpmeikgfaa.Src u2 ba bs := HX0.out.keptNone (HG1.out.trans HG2.out)
  clear hrb
  have k1 := conv_sl HQ3.out
  have k2 := conv_src (cap := bc) hX3
  have hc2 : u2.cell? ⟨w.heap.size + 1, 2, none⟩ = some (.slice ba bs.length bc) := cells_all HB2t.out 2
  clear hX3
  go_wp2
  clear k1 k2 hc2
  go_loopw [14] (fun i wr => ∃ j : Nat, j ≤ bs.length ∧ i = .int .i64 j ∧ (∃ l, l.length = bs.length ∧ Sl wr (.slice va bs.length vcap) l) ∧ Keeps (fun k => rowOf (.slice va bs.length vcap) = some k) u2 wr) (fun i _ => bs.length - (intOf i).toNat)
  case atStart => exact ⟨0, Nat.zero_le _, rfl, ⟨bs, rfl, HQ3.out⟩, Keeps.refl _ _⟩
  case round =>
    obtain ⟨j, hj, rfl, ⟨l, hll, hSr⟩, hKr⟩ := hrel
    rcases Nat.lt_or_ge j bs.length with hlt | hge
    · obtain ⟨gb, o, cb, cur, hv, _⟩ := id (hSr.resolve_left (fun h => by rw [h.2] at hll; simp at hll; omega))
      injection hv with e1 e2 e3
      subst e1
      have hjl : j < l.length := by omega
      have hcr := hSr.cell j _ (bV_get l j hjl)
      have hfr : wr.frozen? ⟨gb, o + j, none⟩ = false := hSr.free (o + j)
      have hlt' : (j : Int) < (bs.length : Nat) := by omega
      have hw8 := u8_succ (l[j]'hjl)
      have hS' := Lib.hid (hSr.setAt j hjl ((l[j]'hjl) + 1))
      have hK' := Lib.hid (hKr.trans (Keeps.row (grown_setCell wr gb (o + j) (.int .u8 (((l[j]'hjl) + 1).toNat : Int))) rfl))
      have hwj : IntKind.i64.wrap ((j : Int) + 1) = ((j + 1 : Nat) : Int) := by rw [IntKind.wrap_i64]; omega
      have hll' : (l.set j ((l[j]'hjl) + 1)).length = bs.length := by simpa using hll
      generalize hcl : (l[j]'hjl) = cl at *
      simp only [bV] at hcr
      clear hSr hKr e2 e3 hll
      go_wp2
      go_roundw
      case rel => exact ⟨j + 1, by omega, rfl, ⟨_, hll', hS'.out⟩, hK'.out⟩
      case measure => simp [intOf]; omega
    · obtain rfl : j = bs.length := by omega
      have HB1r := Lib.hid ((hKr.block _ (lt_of_block HB1t.out) (fun e => by have := (HRB.out _ e).1; omega)).trans HB1t.out)
      have HB2r := Lib.hid ((hKr.block _ (lt_of_block HB2t.out) (fun e => by have := (HRB.out _ e).1; omega)).trans HB2t.out)
      have HB3r := Lib.hid ((hKr.block _ (lt_of_block HB3t.out) (fun e => by have := (HRB.out _ e).1; omega)).trans HB3t.out)
      have HAr := Lib.hid ((hKr.block _ (lt_of_block HAt.out) (fun e => by have := (HRB.out _ e).2; omega)).trans HAt.out)
      have HNA2 := Lib.hid (show some u1.heap.size ≠ some (w.heap.size + 1 + 1) from fun e => by injection e; omega)
      have HLw := Lib.hid (HL3.out.keeps hKr (fun k hk hk2 => by have := HRB.out k hk2; have := HL.out.lt k hk; omega))
      have HRw := Lib.hid (HR3.out.keeps hKr (fun k hk hk2 => by have := HRB.out k hk2; have := HR.out.lt k hk; omega))
      have HKw := Lib.hid (HK3.out.then hKr (fun i hi hi2 => by have := HRB.out i hi; omega))
      have hrp := HR.out.pn
      clear hSr hKr
      go_wp2
      refine reg_open (some (w.heap.size + 1 + 1)) (n := 29) rfl (by kernel_rfl) ?_
      refine reg_take 0 (some 77) (v := ?_) rfl rfl (by kernel_rfl) (by kernel_rfl) (by kernel_rfl) (fun _ _ _ h => h) (by rfl) ?_ ?_
      rotate_left
      · intro W hW; refine exec_ld29 (x := Operand.tmp 9) ?_ ?_ (((hW).block u1.heap.size (lt_of_block HAr.out) HNA2.out).trans HAr.out) <;> rfl
      try simp only [Act.put, List.setIfInBounds_toArray, List.set_cons_zero, List.set_cons_succ]
      refine reg_take 1 (some 78) (v := ?_) rfl rfl (by kernel_rfl) (by kernel_rfl) (by kernel_rfl) (fun _ _ _ h => h) (by rfl) ?_ ?_
      rotate_left
      · intro W hW; go_simp; first | done | with_reducible rfl
      try simp only [Act.put, List.setIfInBounds_toArray, List.set_cons_zero, List.set_cons_succ]
      refine reg_take 3 (some 80) (v := ?_) rfl rfl (by kernel_rfl) (by kernel_rfl) (by kernel_rfl) (fun _ _ _ h => h) (by rfl) ?_ ?_
      rotate_left
      · intro W hW; go_simp; first | done | with_reducible rfl
      try simp only [Act.put, List.setIfInBounds_toArray, List.set_cons_zero, List.set_cons_succ]
      refine wpAnyH_ready (rs := [2]) (by kernel_rfl) (by simp) ?_
      refine (AllReadyH.cons (o := { dst := some 79, op := Op.call { callee := Callee.value (Operand.func 19), args := #[Operand.tmp 78], argTypes := #[31] }, type := 3, pos := "law.go:64", after := #[{ on := 1, ground := Ground.data }], guard := none }) rfl (fun K hK => ?_) AllReadyH.nil)
      go_simp
      refine (num_any _ _).mono ?_; rintro e w' ⟨rfl, rfl⟩
      refine reg_same hK ?_
      clear hK K
      try simp only [Act.put, List.setIfInBounds_toArray, List.set_cons_zero, List.set_cons_succ]
      refine reg_take 4 (some 81) (v := ?_) rfl rfl (by kernel_rfl) (by kernel_rfl) (by kernel_rfl) (fun _ _ _ h => h) (by rfl) ?_ ?_
      rotate_left
      · intro W hW; go_simp; first | done | with_reducible rfl
      try simp only [Act.put, List.setIfInBounds_toArray, List.set_cons_zero, List.set_cons_succ]
      refine reg_take 5 (some 82) (v := ?_) rfl rfl (by kernel_rfl) (by kernel_rfl) (by kernel_rfl) (fun _ _ _ h => h) (by rfl) ?_ ?_
      rotate_left
      · intro W hW; go_simp; first | done | with_reducible rfl
      try simp only [Act.put, List.setIfInBounds_toArray, List.set_cons_zero, List.set_cons_succ]
      refine reg_take 6 (some 83) (v := ?_) rfl rfl (by kernel_rfl) (by kernel_rfl) (by kernel_rfl) (fun _ _ _ h => h) (by rfl) ?_ ?_
      rotate_left
      · intro W hW; go_simp; first | done | with_reducible rfl
      try simp only [Act.put, List.setIfInBounds_toArray, List.set_cons_zero, List.set_cons_succ]
      refine reg_take 7 (some 84) (v := ?_) rfl rfl (by kernel_rfl) (by kernel_rfl) (by kernel_rfl) (fun _ _ _ h => h) (by rfl) ?_ ?_
      rotate_left
      · intro W hW; go_simp; first | done | with_reducible rfl
      try simp only [Act.put, List.setIfInBounds_toArray, List.set_cons_zero, List.set_cons_succ]
      refine reg_take 8 (some 85) (v := ?_) rfl rfl (by kernel_rfl) (by kernel_rfl) (by kernel_rfl) (fun _ _ _ h => h) (by rfl) ?_ ?_
      rotate_left
      · intro W hW; go_simp; first | done | with_reducible rfl
      try simp only [Act.put, List.setIfInBounds_toArray, List.set_cons_zero, List.set_cons_succ]
      refine reg_take 9 (some 86) (v := ?_) rfl rfl (by kernel_rfl) (by kernel_rfl) (by kernel_rfl) (fun _ _ _ h => h) (by rfl) ?_ ?_
      rotate_left
      · intro W hW; go_simp; first | done | with_reducible rfl
      try simp only [Act.put, List.setIfInBounds_toArray, List.set_cons_zero, List.set_cons_succ]
      refine reg_take 10 (some 87) (v := ?_) rfl rfl (by kernel_rfl) (by kernel_rfl) (by kernel_rfl) (fun _ _ _ h => h) (by rfl) ?_ ?_
      rotate_left
      · intro W hW; go_simp; first | done | with_reducible rfl
      try simp only [Act.put, List.setIfInBounds_toArray, List.set_cons_zero, List.set_cons_succ]
      refine reg_take 11 (some 88) (v := ?_) rfl rfl (by kernel_rfl) (by kernel_rfl) (by kernel_rfl) (fun _ _ _ h => h) (by rfl) ?_ ?_
      rotate_left
      · intro W hW; go_simp; first | done | with_reducible rfl
      try simp only [Act.put, List.setIfInBounds_toArray, List.set_cons_zero, List.set_cons_succ]
      refine reg_take 12 (some 89) (v := ?_) rfl rfl (by kernel_rfl) (by kernel_rfl) (by kernel_rfl) (fun _ _ _ h => h) (by rfl) ?_ ?_
      rotate_left
      · intro W hW; go_simp; first | done | with_reducible rfl
      try simp only [Act.put, List.setIfInBounds_toArray, List.set_cons_zero, List.set_cons_succ]
      refine reg_take 13 (some 90) (v := ?_) rfl rfl (by kernel_rfl) (by kernel_rfl) (by kernel_rfl) (fun _ _ _ h => h) (by rfl) ?_ ?_
      rotate_left
      · intro W hW; go_simp; first | done | with_reducible rfl
      try simp only [Act.put, List.setIfInBounds_toArray, List.set_cons_zero, List.set_cons_succ]
      refine reg_take 14 (some 91) (v := ?_) rfl rfl (by kernel_rfl) (by kernel_rfl) (by kernel_rfl) (fun _ _ _ h => h) (by rfl) ?_ ?_
      rotate_left
      · intro W hW; go_simp; first | done | with_reducible rfl
      try simp only [Act.put, List.setIfInBounds_toArray, List.set_cons_zero, List.set_cons_succ]
      refine reg_take 15 (some 92) (v := ?_) rfl rfl (by kernel_rfl) (by kernel_rfl) (by kernel_rfl) (fun _ _ _ h => h) (by rfl) ?_ ?_
      rotate_left
      · intro W hW; go_simp; first | done | with_reducible rfl
      try simp only [Act.put, List.setIfInBounds_toArray, List.set_cons_zero, List.set_cons_succ]
      refine reg_skip 16 (some 93) rfl rfl (by kernel_rfl) (by kernel_rfl) (by kernel_rfl) (fun _ _ _ h => h) (by rfl) ?_
      try simp only [Act.put, List.setIfInBounds_toArray, List.set_cons_zero, List.set_cons_succ]
      refine reg_skip 17 (some 94) rfl rfl (by kernel_rfl) (by kernel_rfl) (by kernel_rfl) (fun _ _ _ h => h) (by rfl) ?_
      try simp only [Act.put, List.setIfInBounds_toArray, List.set_cons_zero, List.set_cons_succ]
      refine reg_skip 18 (some 95) rfl rfl (by kernel_rfl) (by kernel_rfl) (by kernel_rfl) (fun _ _ _ h => h) (by rfl) ?_
      try simp only [Act.put, List.setIfInBounds_toArray, List.set_cons_zero, List.set_cons_succ]
      refine reg_skip 19 (some 96) rfl rfl (by kernel_rfl) (by kernel_rfl) (by kernel_rfl) (fun _ _ _ h => h) (by rfl) ?_
      try simp only [Act.put, List.setIfInBounds_toArray, List.set_cons_zero, List.set_cons_succ]
      refine reg_skip 20 (some 97) rfl rfl (by kernel_rfl) (by kernel_rfl) (by kernel_rfl) (fun _ _ _ h => h) (by rfl) ?_
      try simp only [Act.put, List.setIfInBounds_toArray, List.set_cons_zero, List.set_cons_succ]
      refine reg_skip 21 (some 98) rfl rfl (by kernel_rfl) (by kernel_rfl) (by kernel_rfl) (fun _ _ _ h => h) (by rfl) ?_
      try simp only [Act.put, List.setIfInBounds_toArray, List.set_cons_zero, List.set_cons_succ]
      refine reg_skip 22 (some 99) rfl rfl (by kernel_rfl) (by kernel_rfl) (by kernel_rfl) (fun _ _ _ h => h) (by rfl) ?_
      try simp only [Act.put, List.setIfInBounds_toArray, List.set_cons_zero, List.set_cons_succ]
      refine reg_skip 23 (some 100) rfl rfl (by kernel_rfl) (by kernel_rfl) (by kernel_rfl) (fun _ _ _ h => h) (by rfl) ?_
      try simp only [Act.put, List.setIfInBounds_toArray, List.set_cons_zero, List.set_cons_succ]
      refine reg_skip 24 (some 101) rfl rfl (by kernel_rfl) (by kernel_rfl) (by kernel_rfl) (fun _ _ _ h => h) (by rfl) ?_
      try simp only [Act.put, List.setIfInBounds_toArray, List.set_cons_zero, List.set_cons_succ]
      refine reg_take 25 (some 102) (v := ?_) rfl rfl (by kernel_rfl) (by kernel_rfl) (by kernel_rfl) (fun _ _ _ h => h) (by rfl) ?_ ?_
      rotate_left
      · intro W hW; go_simp; first | done | with_reducible rfl
      try simp only [Act.put, List.setIfInBounds_toArray, List.set_cons_zero, List.set_cons_succ]
      refine reg_take 26 (some 103) (v := ?_) rfl rfl (by kernel_rfl) (by kernel_rfl) (by kernel_rfl) (fun _ _ _ h => h) (by rfl) ?_ ?_
      rotate_left
      · intro W hW; go_simp; first | done | with_reducible rfl
      try simp only [Act.put, List.setIfInBounds_toArray, List.set_cons_zero, List.set_cons_succ]
      refine wpAnyH_ready (rs := [27]) (by kernel_rfl) (by simp) ?_
      refine (AllReadyH.cons (o := { dst := none, op := Op.store 29 (Operand.tmp 6) (Operand.tmp 77), type := 0, pos := "law.go:64", after := #[{ on := 0, ground := Ground.data }, { on := 18, ground := Ground.chain }, { on := 0, ground := Ground.phase }, { on := 1, ground := Ground.textOnly Departure.lateStores }, { on := 2, ground := Ground.textOnly Departure.lateStoresUnsure }, { on := 3, ground := Ground.textOnly Departure.lateStores }, { on := 4, ground := Ground.textOnly Departure.lateStores }, { on := 5, ground := Ground.textOnly Departure.lateStores }, { on := 6, ground := Ground.textOnly Departure.lateStores }, { on := 7, ground := Ground.textOnly Departure.lateStores }, { on := 8, ground := Ground.textOnly Departure.lateStores }, { on := 9, ground := Ground.textOnly Departure.lateStores }, { on := 10, ground := Ground.textOnly Departure.lateStores }, { on := 11, ground := Ground.textOnly Departure.lateStores }, { on := 12, ground := Ground.textOnly Departure.lateStores }, { on := 13, ground := Ground.textOnly Departure.lateStores }, { on := 14, ground := Ground.textOnly Departure.lateStores }, { on := 15, ground := Ground.textOnly Departure.lateStores }, { on := 16, ground := Ground.textOnly Departure.lateStores }, { on := 17, ground := Ground.textOnly Departure.lateStores }, { on := 18, ground := Ground.textOnly Departure.lateStores }, { on := 19, ground := Ground.textOnly Departure.lateStores }, { on := 20, ground := Ground.textOnly Departure.lateStores }, { on := 21, ground := Ground.textOnly Departure.lateStores }, { on := 22, ground := Ground.textOnly Departure.lateStoresUnsure }, { on := 23, ground := Ground.textOnly Departure.lateStores }, { on := 24, ground := Ground.textOnly Departure.lateStores }, { on := 25, ground := Ground.textOnly Departure.lateStores }, { on := 26, ground := Ground.textOnly Departure.lateStores }], guard := none }) rfl (fun K hK => ?_) AllReadyH.nil)
      refine wp_store_all 29 _ _ rfl (w.heap.size + 1 + 1) ?csu3 ?hxu3 ?hyu3 _ _ HB3r.out ?hfu3 9 ?hnu3 Try.size29 ?h1u3 ?_
      case hyu3 => exact rfl
      case hxu3 => exact rfl
      case hfu3 => exact rfl
      case hnu3 => exact rfl
      case h1u3 => simp [allOne, Value.oneCell']
      intro u9 hb9 h9
      refine reg_next hK h9 ?_
      clear hK K
      try simp only [Act.put]
      refine reg_take 28 (some 7) (v := ?_) rfl rfl (by kernel_rfl) (by kernel_rfl) (by kernel_rfl) (fun _ _ _ h => h) (by rfl) ?_ ?_
      rotate_left
      · intro W hW; go_simp; first | done | with_reducible rfl
      try simp only [Act.put, List.setIfInBounds_toArray, List.set_cons_zero, List.set_cons_succ]
      refine wpAnyH_done (by kernel_rfl) ?_ _
      have HZ5 := Lib.hid hb9
      have h9' : Keeps (fun k => w.heap.size ≤ k ∧ k < w.heap.size + 3) wr u9 := (Keeps.row h9 (mid 2 rfl (by omega))).undrew
      have HT5 := Lib.hid h9'
      clear h9 hb9 h9'
      go_wp2
      refine bodyPost_ret (results_c29t rfl _ _ _ _ (by rfl) (by rfl) HZ5.out) (by rfl) ?_
      refine ⟨c, r, rfl, ?_⟩
      rw [← HST.out]
      exact Post.fin HL.out HR.out HLw.out HRw.out HKw.out (fun k hk => .inl hk) (fun k hk => .inl hk) HS.out HT5.out
set_option maxRecDepth 100000 in
set_option maxHeartbeats 16000000 in
theorem act_push_ok (B : Nat) (c : Lc) (r : Rf) (g : Gh) (x : Ac) (bs : List UInt8) (w : World) (hL : LS w B c g) (hR : RS w r g) (hS : ∀ k, own c B k → ¬ rrow r k) (hw : x.what = 1) (hWG : WG g) (hbn : x.bn = bs.length) (hX : Src w x.ba bs) (hXn : bs ≠ [] → ∀ b o, x.ba = some ⟨b, o, none⟩ → ¬ own c B b) (hbs : bs.length ≤ 500000) (hpl : g.pushed.length ≤ 500000) (hfit : g.pushed.length - g.taken + bs.length ≤ 256) : Calls Try.prog 30 #[.pointer (some ⟨B, 0, none⟩), r.val, x.val] w fun e w' => ∃ c' r', e = .returned (.tuple #[r'.val, .bool true]) ∧ Post w w' B c c' r r' (g.step x bs) := by
  have htk := hWG.tk
  have hql : (g.pushed.drop g.taken).length = g.pushed.length - g.taken := List.length_drop
  obtain ⟨hg0, b1, b2, b3⟩ := three_new w (.cells r.cells 29) (.cells x.cells 49) (.cells Rf.zero.cells 29)
  have HB1 := Lib.hid (show _ from b1)
  have HB2 := Lib.hid b2
  have HB3 := Lib.hid b3
  have HG0 := Lib.hid hg0
  have HL := Lib.hid hL
  have HR := Lib.hid hR
  have HS := Lib.hid hS
  have HLK0 := Lib.hid (hL.lk.keptNone hg0)
  have HST := Lib.hid (show ({ g with pushed := g.pushed ++ bs } : Gh) = g.step x bs by simp [Gh.step, hw, hfit])
  have HX0 := Lib.hid hX
  clear hg0 b1 b2 b3 hL hR hS
  obtain ⟨what, line, ba, bn, bc, byte, word, up⟩ := x
  simp only at hw hbn hX hXn
  subst hw hbn
  clear hX
  have hv0 : Sl ((((w.alloc (.cells r.cells 29)).alloc (.cells (⟨1, line, ba, bs.length, bc, byte, word, up⟩ : Ac).cells 49)).alloc (.cells Rf.zero.cells 29)).alloc (.cells #[] 5)) (.slice (some ⟨w.heap.size + 1 + 1 + 1, 0, none⟩) 0 0) [] :=
    .inr ⟨w.heap.size + 1 + 1 + 1, 0, 0, [], rfl, Nat.le_refl _, by simp [maxLen], (by have := heap_alloc_new (((w.alloc (.cells r.cells 29)).alloc (.cells (⟨1, line, ba, bs.length, bc, byte, word, up⟩ : Ac).cells 49)).alloc (.cells Rf.zero.cells 29)) (.cells #[] 5); simpa using this), by simp, by simp [bsV]⟩
  have hga := World.grownBy_alloc (((w.alloc (.cells r.cells 29)).alloc (.cells (⟨1, line, ba, bs.length, bc, byte, word, up⟩ : Ac).cells 49)).alloc (.cells Rf.zero.cells 29)) (.cells #[] 5) none
  have hvs := src_go (cap := bc) ((HX0.out).keptNone (HG0.out.trans hga))
  have HB1z := Lib.hid ((hga.block _ (lt_of_block HB1.out) (by simp)).trans HB1.out)
  have HB2z := Lib.hid ((hga.block _ (lt_of_block HB2.out) (by simp)).trans HB2.out)
  have HB3z := Lib.hid ((hga.block _ (lt_of_block HB3.out) (by simp)).trans HB3.out)
  have HGz := Lib.hid (HG0.out.trans hga)
  clear hga
  go_enter Try.func30, Try.ntmps30
  go_wp2_with (at_builtin; refine wpList_sl rfl _ _ rfl _ _ [] bs rfl rfl hv0 hvs (by simp; omega) ?_)
  intro v1 w1 hQ1 hg1 hr1
  obtain ⟨va, vcap, hv1, hvc⟩ := hQ1.shape
  subst hv1
  have hrb : ∀ k, rowOf (.slice va bs.length vcap) = some k → w.heap.size + 3 ≤ k := by
    rcases hr1 with h | h
    · rw [h]; rintro k ⟨⟩; exact Nat.le_refl _
    · rw [h]; rintro k ⟨⟩; omega
  have HB1a := Lib.hid ((hg1.block _ (lt_of_block HB1z.out) (by simp [rowOf]; try omega)).trans HB1z.out)
  have HB2a := Lib.hid ((hg1.block _ (lt_of_block HB2z.out) (by simp [rowOf]; try omega)).trans HB2z.out)
  have HB3a := Lib.hid ((hg1.block _ (lt_of_block HB3z.out) (by simp [rowOf]; try omega)).trans HB3z.out)
  have HGa := Lib.hid (grown_new HGz.out hg1 (by show w.heap.size ≤ w.heap.size + 1 + 1 + 1; omega))
  have HQa := Lib.hid (show Sl w1 (.slice va bs.length vcap) bs from hQ1)
  have hsza := lt_of_block HB3a.out
  clear hQ1 hg1 hr1 hv0 hvs
  have hc2 : w1.cell? ⟨w.heap.size + 1, 2, none⟩ = some (.slice ba bs.length bc) := cells_all HB2a.out 2
  go_wp2_with (with_reducible refine hold_ld 29 _ rfl ?_)
  apply Lib.hid
  with_reducible refine wpList_load_blk rfl 29 _ rfl _ ?o3903 ?hx3903 _ _ _ HB1a.out _ 9 ?hn3903 Try.underlying29 rfl Try.size29 ?_
  case hx3903 => exact rfl
  case hn3903 => exact rfl
  go_wp2_with fail
  refine (rpush_ok r g.taken HR.out.tk (by rw [HR.out.pn]; exact htk) g.pushed bs ba bc _ (HR.out.p.keptNone HGa.out) (HX0.out.keptNone HGa.out) (by omega) (by rw [HR.out.pn]; exact hfit)).mono ?_; rintro e u1 ⟨pa, pc, rfl, hP1, h1, hnew⟩
  have HB1u := Lib.hid ((h1.block _ (lt_of_block HB1a.out) (by simp)).trans HB1a.out)
  have HB2u := Lib.hid ((h1.block _ (lt_of_block HB2a.out) (by simp)).trans HB2a.out)
  have HB3u := Lib.hid ((h1.block _ (lt_of_block HB3a.out) (by simp)).trans HB3a.out)
  have HG1 := Lib.hid (HGa.out.trans h1)
  have HQ1 := Lib.hid (HQa.out.keptNone h1)
  have hszu := h1.size
  have HP1 := Lib.hid (show Sl u1 (.slice pa (g.pushed.length + bs.length) pc) (g.pushed ++ bs) by simpa using hP1)
  have HNW := Lib.hid (show New w1 (.slice pa (g.pushed.length + bs.length) pc) by simpa using hnew)
  clear hP1 hnew
  clear h1
  have hga := World.grownBy_alloc u1 (.cells Rf.zero.cells 29) none
  have hna := heap_alloc_new u1 (.cells Rf.zero.cells 29)
  have HB1m := Lib.hid ((hga.block _ (lt_of_block HB1u.out) (by simp)).trans HB1u.out)
  have HB2m := Lib.hid ((hga.block _ (lt_of_block HB2u.out) (by simp)).trans HB2u.out)
  have HB3m := Lib.hid ((hga.block _ (lt_of_block HB3u.out) (by simp)).trans HB3u.out)
  have HNA := Lib.hid hna
  have HGA := Lib.hid hga
  clear hga hna
  go_wp2_with (with_reducible refine hold_st 29 _ _ rfl ?_)
  apply Lib.hid
  with_reducible refine wpList_store_all rfl 29 _ _ rfl _ ?cs3904 ?hx3904 ?hy3904 _ _ HNA.out ?hf3904 _ ?hl3904 Try.size29 ?h13904 ?_
  case hy3904 => exact rfl
  case hx3904 => exact rfl
  case hf3904 => exact rfl
  case hl3904 => exact rfl
  case h13904 => simp [allOne, Value.oneCell']
  intro u2 hb2 hg2
  have HB1v := Lib.hid ((hg2.block _ (lt_of_block HB1m.out) (by have := lt_of_block HB3u.out; simp; omega)).trans HB1m.out)
  have HB2v := Lib.hid ((hg2.block _ (lt_of_block HB2m.out) (by have := lt_of_block HB3u.out; simp; omega)).trans HB2m.out)
  have HB3v := Lib.hid ((hg2.block _ (lt_of_block HB3m.out) (by have := lt_of_block HB3u.out; simp; omega)).trans HB3m.out)
  have HA := Lib.hid (show u2.heap[u1.heap.size]? = some (.cells ({ r with pa := pa, pn := g.pushed.length + bs.length, pc := pc } : Rf).cells 29 (0, 0)) from hb2)
  have HG2 := Lib.hid (grown_new HGA.out hg2 (Nat.le_refl _))
  have hsz2 := lt_of_block HB3v.out
  clear hb2 hg2
  have HLS2 := Lib.hid (HL.out.keptNone (HG1.out.trans HG2.out))
  have HRS2 := Lib.hid (HR.out.keptNone (HG1.out.trans HG2.out))
  have HQ2 := Lib.hid (HQ1.out.keptNone HG2.out)
  have hsv : ∀ a n cap, Sl u2 (.slice a n cap) bs → Go.Proofs.Ytmdgehpmeikgfaa.Src u2 a bs := fun a n cap h => h.toSrc
  have hszA := lt_of_block HA.out
  go_wp2_with fail
  refine (push_ok B c (g.pushed.drop g.taken) bs va vcap _ HLS2.out.lk HLS2.out.q (hsv _ _ _ HQ2.out) (by rw [hql]; exact hfit) (by rw [HL.out.fi]; omega) (by rw [HL.out.fi]; omega)).mono ?_; rintro e u3 ⟨qv', rfl, hL3, hQ3, h3, hrow⟩
  have hn : c.first + ((g.pushed.drop g.taken).length : Nat) = (g.pushed.length : Nat) := by rw [HL.out.fi, hql]; omega
  rw [hn]
  have hlt := HL.out.lt
  have HB1t := Lib.hid ((h3.block _ (lt_of_block HB1v.out) (fun e => by have := hlt _ (e.elim .inl (fun h => .inr (.inl h))); omega)).trans HB1v.out)
  have HB2t := Lib.hid ((h3.block _ (lt_of_block HB2v.out) (fun e => by have := hlt _ (e.elim .inl (fun h => .inr (.inl h))); omega)).trans HB2v.out)
  have HB3t := Lib.hid ((h3.block _ (lt_of_block HB3v.out) (fun e => by have := hlt _ (e.elim .inl (fun h => .inr (.inl h))); omega)).trans HB3v.out)
  have HAt := Lib.hid ((h3.block _ (lt_of_block HA.out) (fun e => by have := hlt _ (e.elim .inl (fun h => .inr (.inl h))); omega)).trans HA.out)
  have hk3 : Keeps (own c B) u2 u3 := h3.mono (fun i _ h => h.elim .inl (fun h => .inr (.inl h)))
  have HK3 := Lib.hid ((Keeps.keep (X := own c B) (HG1.out.trans HG2.out)).trans hk3)
  have hnl : ∀ k, own { c with qv := qv' } B k → own c B k ∨ u2.heap.size ≤ k := fun k hk => by
    rcases hk with h | h | h
    · exact .inl (.inl h)
    · rcases hrow with e | ⟨j, e1, e2⟩
      · exact .inl (.inr (.inl (e ▸ h)))
      · right; rw [e1] at h; cases h; exact e2
    · exact .inl (.inr (.inr h))
  have hl3 : LS u3 B { c with qv := qv' } { g with pushed := g.pushed ++ bs } := ⟨hL3, HL.out.al, HL.out.ms, HL.out.u2, HL.out.u3, HL.out.u0, HL.out.u1, by rw [List.drop_append_of_le_length htk]; exact hQ3, HL.out.fi, HLS2.out.o.keeps h3 (fun k hk h => h.elim (fun e => HLS2.out.o.ne HLS2.out.lk.blk (by decide) k hk (by rw [e])) (fun e => HL.out.ne k e hk)), fun k hk h => hrow.elim (fun e => HL.out.ne k (e ▸ hk) h) (fun ⟨j, e1, e2⟩ => by rw [e1] at hk; cases hk; have := HL.out.lt _ (.inr (.inr h)); omega)⟩
  have HL3 := Lib.hid hl3
  have hr3 := HRS2.out.keeps hk3 (fun k hk hk2 => HS.out k hk2 hk)
  have hP3 := (HP1.out.keptNone HG2.out).keeps hk3 (fun k hk hk2 => by have := HL.out.lt k hk2; have := HNW.out k hk; omega)
  have HR3 := Lib.hid (show RS u3 { r with pa := pa, pn := g.pushed.length + bs.length, pc := pc } { g with pushed := g.pushed ++ bs } from ⟨hr3.al, hr3.ms, hr3.f0, hr3.f1, hr3.f2, hr3.f3, by simpa using hP3, hr3.tk, hr3.t⟩)
  have HNL := Lib.hid hnl
  have HNR := Lib.hid (show ∀ k, rrow { r with pa := pa, pn := g.pushed.length + bs.length, pc := pc } k → rrow r k ∨ (w.heap.size + 3 ≤ k ∧ w1.heap.size ≤ k ∧ k < u2.heap.size) from fun k hk => hk.elim (fun h => .inr ⟨by have := HNW.out k h; omega, HNW.out k h, (HP1.out.keptNone HG2.out).lt k h⟩) (fun h => .inl (.inr h)))
  have HQ3 := Lib.hid (HQ2.out.keeps hk3 (fun k hk hk2 => by have := HL.out.lt k hk2; have := hrb k hk; omega))
  have HRB := Lib.hid (show ∀ k, rowOf (.slice va bs.length vcap) = some k → w.heap.size + 3 ≤ k ∧ k < w1.heap.size from fun k hk => ⟨hrb k hk, HQa.out.lt k hk⟩)
  have HX3 := Lib.hid ((HX0.out.keptNone (HG1.out.trans HG2.out)))
  have hX3 : Go.Proofs.Ytmdgehpmeikgfaa.Src u3 ba bs := (Classical.em (bs = [])).elim .inl (fun he => HX3.out.keeps hk3 (hXn he))
  clear h3 hk3 hl3 hr3 hP3 hrow hnl hL3 hQ3 hrb hn
  have k1 := conv_sl HQ3.out
  have k2 := conv_src (cap := bc) hX3
  have hc2 : u3.cell? ⟨w.heap.size + 1, 2, none⟩ = some (.slice ba bs.length bc) := cells_all HB2t.out 2
  clear hX3
  go_wp2
  clear k1 k2 hc2
  go_loopw [14] (fun i wr => ∃ j : Nat, j ≤ bs.length ∧ i = .int .i64 j ∧ (∃ l, l.length = bs.length ∧ Sl wr (.slice va bs.length vcap) l) ∧ Keeps (fun k => rowOf (.slice va bs.length vcap) = some k) u3 wr) (fun i _ => bs.length - (intOf i).toNat)
  case atStart => exact ⟨0, Nat.zero_le _, rfl, ⟨bs, rfl, HQ3.out⟩, Keeps.refl _ _⟩
  case round =>
    obtain ⟨j, hj, rfl, ⟨l, hll, hSr⟩, hKr⟩ := hrel
    rcases Nat.lt_or_ge j bs.length with hlt | hge
    · obtain ⟨gb, o, cb, cur, hv, _⟩ := id (hSr.resolve_left (fun h => by rw [h.2] at hll; simp at hll; omega))
      injection hv with e1 e2 e3
      subst e1
      have hjl : j < l.length := by omega
      have hcr := hSr.cell j _ (bV_get l j hjl)
      have hfr : wr.frozen? ⟨gb, o + j, none⟩ = false := hSr.free (o + j)
      have hlt' : (j : Int) < (bs.length : Nat) := by omega
      have hw8 := u8_succ (l[j]'hjl)
      have hS' := Lib.hid (hSr.setAt j hjl ((l[j]'hjl) + 1))
      have hK' := Lib.hid (hKr.trans (Keeps.row (grown_setCell wr gb (o + j) (.int .u8 (((l[j]'hjl) + 1).toNat : Int))) rfl))
      have hwj : IntKind.i64.wrap ((j : Int) + 1) = ((j + 1 : Nat) : Int) := by rw [IntKind.wrap_i64]; omega
      have hll' : (l.set j ((l[j]'hjl) + 1)).length = bs.length := by simpa using hll
      generalize hcl : (l[j]'hjl) = cl at *
      simp only [bV] at hcr
      clear hSr hKr e2 e3 hll
      go_wp2
      go_roundw
      case rel => exact ⟨j + 1, by omega, rfl, ⟨_, hll', hS'.out⟩, hK'.out⟩
      case measure => simp [intOf]; omega
    · obtain rfl : j = bs.length := by omega
      have HB1r := Lib.hid ((hKr.block _ (lt_of_block HB1t.out) (fun e => by have := (HRB.out _ e).1; omega)).trans HB1t.out)
      have HB2r := Lib.hid ((hKr.block _ (lt_of_block HB2t.out) (fun e => by have := (HRB.out _ e).1; omega)).trans HB2t.out)
      have HB3r := Lib.hid ((hKr.block _ (lt_of_block HB3t.out) (fun e => by have := (HRB.out _ e).1; omega)).trans HB3t.out)
      have HAr := Lib.hid ((hKr.block _ (lt_of_block HAt.out) (fun e => by have := (HRB.out _ e).2; omega)).trans HAt.out)
      have HNA2 := Lib.hid (show some u1.heap.size ≠ some (w.heap.size + 1 + 1) from fun e => by injection e; omega)
      have HLw := Lib.hid (HL3.out.keeps hKr (fun k hk hk2 => by have := HRB.out k hk2; exact (HNL.out k hk).elim (fun h => by have := HL.out.lt k h; omega) (fun h => by omega)))
      have HRw := Lib.hid (HR3.out.keeps hKr (fun k hk hk2 => by have := HRB.out k hk2; exact (HNR.out k hk).elim (fun h => by have := HR.out.lt k h; omega) (fun h => by omega)))
      have HKw := Lib.hid (HK3.out.then hKr (fun i hi hi2 => by have := HRB.out i hi; omega))
      have hrp := HR.out.pn
      clear hSr hKr
      go_wp2
      refine reg_open (some (w.heap.size + 1 + 1)) (n := 29) rfl (by kernel_rfl) ?_
      refine reg_take 0 (some 77) (v := ?_) rfl rfl (by kernel_rfl) (by kernel_rfl) (by kernel_rfl) (fun _ _ _ h => h) (by rfl) ?_ ?_
      rotate_left
      · intro W hW; refine exec_ld29 (x := Operand.tmp 9) ?_ ?_ (((hW).block u1.heap.size (lt_of_block HAr.out) HNA2.out).trans HAr.out) <;> rfl
      try simp only [Act.put, List.setIfInBounds_toArray, List.set_cons_zero, List.set_cons_succ]
      refine reg_take 1 (some 78) (v := ?_) rfl rfl (by kernel_rfl) (by kernel_rfl) (by kernel_rfl) (fun _ _ _ h => h) (by rfl) ?_ ?_
      rotate_left
      · intro W hW; go_simp; first | done | with_reducible rfl
      try simp only [Act.put, List.setIfInBounds_toArray, List.set_cons_zero, List.set_cons_succ]
      refine reg_take 3 (some 80) (v := ?_) rfl rfl (by kernel_rfl) (by kernel_rfl) (by kernel_rfl) (fun _ _ _ h => h) (by rfl) ?_ ?_
      rotate_left
      · intro W hW; go_simp; first | done | with_reducible rfl
      try simp only [Act.put, List.setIfInBounds_toArray, List.set_cons_zero, List.set_cons_succ]
      refine wpAnyH_ready (rs := [2]) (by kernel_rfl) (by simp) ?_
      refine (AllReadyH.cons (o := { dst := some 79, op := Op.call { callee := Callee.value (Operand.func 19), args := #[Operand.tmp 78], argTypes := #[31] }, type := 3, pos := "law.go:64", after := #[{ on := 1, ground := Ground.data }], guard := none }) rfl (fun K hK => ?_) AllReadyH.nil)
      go_simp
      refine (num_any _ _).mono ?_; rintro e w' ⟨rfl, rfl⟩
      refine reg_same hK ?_
      clear hK K
      try simp only [Act.put, List.setIfInBounds_toArray, List.set_cons_zero, List.set_cons_succ]
      refine reg_take 4 (some 81) (v := ?_) rfl rfl (by kernel_rfl) (by kernel_rfl) (by kernel_rfl) (fun _ _ _ h => h) (by rfl) ?_ ?_
      rotate_left
      · intro W hW; go_simp; first | done | with_reducible rfl
      try simp only [Act.put, List.setIfInBounds_toArray, List.set_cons_zero, List.set_cons_succ]
      refine reg_take 5 (some 82) (v := ?_) rfl rfl (by kernel_rfl) (by kernel_rfl) (by kernel_rfl) (fun _ _ _ h => h) (by rfl) ?_ ?_
      rotate_left
      · intro W hW; go_simp; first | done | with_reducible rfl
      try simp only [Act.put, List.setIfInBounds_toArray, List.set_cons_zero, List.set_cons_succ]
      refine reg_take 6 (some 83) (v := ?_) rfl rfl (by kernel_rfl) (by kernel_rfl) (by kernel_rfl) (fun _ _ _ h => h) (by rfl) ?_ ?_
      rotate_left
      · intro W hW; go_simp; first | done | with_reducible rfl
      try simp only [Act.put, List.setIfInBounds_toArray, List.set_cons_zero, List.set_cons_succ]
      refine reg_take 7 (some 84) (v := ?_) rfl rfl (by kernel_rfl) (by kernel_rfl) (by kernel_rfl) (fun _ _ _ h => h) (by rfl) ?_ ?_
      rotate_left
      · intro W hW; go_simp; first | done | with_reducible rfl
      try simp only [Act.put, List.setIfInBounds_toArray, List.set_cons_zero, List.set_cons_succ]
      refine reg_take 8 (some 85) (v := ?_) rfl rfl (by kernel_rfl) (by kernel_rfl) (by kernel_rfl) (fun _ _ _ h => h) (by rfl) ?_ ?_
      rotate_left
      · intro W hW; go_simp; first | done | with_reducible rfl
      try simp only [Act.put, List.setIfInBounds_toArray, List.set_cons_zero, List.set_cons_succ]
      refine reg_take 9 (some 86) (v := ?_) rfl rfl (by kernel_rfl) (by kernel_rfl) (by kernel_rfl) (fun _ _ _ h => h) (by rfl) ?_ ?_
      rotate_left
      · intro W hW; go_simp; first | done | with_reducible rfl
      try simp only [Act.put, List.setIfInBounds_toArray, List.set_cons_zero, List.set_cons_succ]
      refine reg_take 10 (some 87) (v := ?_) rfl rfl (by kernel_rfl) (by kernel_rfl) (by kernel_rfl) (fun _ _ _ h => h) (by rfl) ?_ ?_
      rotate_left
      · intro W hW; go_simp; first | done | with_reducible rfl
      try simp only [Act.put, List.setIfInBounds_toArray, List.set_cons_zero, List.set_cons_succ]
      refine reg_take 11 (some 88) (v := ?_) rfl rfl (by kernel_rfl) (by kernel_rfl) (by kernel_rfl) (fun _ _ _ h => h) (by rfl) ?_ ?_
      rotate_left
      · intro W hW; go_simp; first | done | with_reducible rfl
      try simp only [Act.put, List.setIfInBounds_toArray, List.set_cons_zero, List.set_cons_succ]
      refine reg_skip 12 (some 89) rfl rfl (by kernel_rfl) (by kernel_rfl) (by kernel_rfl) (fun _ _ _ h => h) (by rfl) ?_
      try simp only [Act.put, List.setIfInBounds_toArray, List.set_cons_zero, List.set_cons_succ]
      refine reg_skip 13 (some 90) rfl rfl (by kernel_rfl) (by kernel_rfl) (by kernel_rfl) (fun _ _ _ h => h) (by rfl) ?_
      try simp only [Act.put, List.setIfInBounds_toArray, List.set_cons_zero, List.set_cons_succ]
      refine reg_take 14 (some 91) (v := ?_) rfl rfl (by kernel_rfl) (by kernel_rfl) (by kernel_rfl) (fun _ _ _ h => h) (by rfl) ?_ ?_
      rotate_left
      · intro W hW; go_simp; first | done | with_reducible rfl
      try simp only [Act.put, List.setIfInBounds_toArray, List.set_cons_zero, List.set_cons_succ]
      refine reg_take 15 (some 92) (v := ?_) rfl rfl (by kernel_rfl) (by kernel_rfl) (by kernel_rfl) (fun _ _ _ h => h) (by rfl) ?_ ?_
      rotate_left
      · intro W hW; go_simp; first | done | with_reducible rfl
      try simp only [Act.put, List.setIfInBounds_toArray, List.set_cons_zero, List.set_cons_succ]
      refine reg_take 16 (some 93) (v := ?_) rfl rfl (by kernel_rfl) (by kernel_rfl) (by kernel_rfl) (fun _ _ _ h => h) (by rfl) ?_ ?_
      rotate_left
      · intro W hW; go_simp; first | done | with_reducible rfl
      try simp only [Act.put, List.setIfInBounds_toArray, List.set_cons_zero, List.set_cons_succ]
      refine reg_take 17 (some 94) (v := ?_) rfl rfl (by kernel_rfl) (by kernel_rfl) (by kernel_rfl) (fun _ _ _ h => h) (by rfl) ?_ ?_
      rotate_left
      · intro W hW; go_simp; first | done | with_reducible rfl
      try simp only [Act.put, List.setIfInBounds_toArray, List.set_cons_zero, List.set_cons_succ]
      refine reg_take 18 (some 95) (v := ?_) rfl rfl (by kernel_rfl) (by kernel_rfl) (by kernel_rfl) (fun _ _ _ h => h) (by rfl) ?_ ?_
      rotate_left
      · intro W hW; go_simp; first | done | with_reducible rfl
      try simp only [Act.put, List.setIfInBounds_toArray, List.set_cons_zero, List.set_cons_succ]
      refine reg_take 19 (some 96) (v := ?_) rfl rfl (by kernel_rfl) (by kernel_rfl) (by kernel_rfl) (fun _ _ _ h => h) (by rfl) ?_ ?_
      rotate_left
      · intro W hW; go_simp; first | done | with_reducible rfl
      try simp only [Act.put, List.setIfInBounds_toArray, List.set_cons_zero, List.set_cons_succ]
      refine reg_take 20 (some 97) (v := ?_) rfl rfl (by kernel_rfl) (by kernel_rfl) (by kernel_rfl) (fun _ _ _ h => h) (by rfl) ?_ ?_
      rotate_left
      · intro W hW; go_simp; first | done | with_reducible rfl
      try simp only [Act.put, List.setIfInBounds_toArray, List.set_cons_zero, List.set_cons_succ]
      refine reg_take 21 (some 98) (v := ?_) rfl rfl (by kernel_rfl) (by kernel_rfl) (by kernel_rfl) (fun _ _ _ h => h) (by rfl) ?_ ?_
      rotate_left
      · intro W hW; have c := cells_all (((hW).block w.heap.size (lt_of_block HB1r.out) (by simp; omega)).trans HB1r.out) 6; go_simp; first | done | with_reducible rfl
      try simp only [Act.put, List.setIfInBounds_toArray, List.set_cons_zero, List.set_cons_succ]
      refine reg_take 22 (some 99) (v := ?_) rfl rfl (by kernel_rfl) (by kernel_rfl) (by kernel_rfl) (fun _ _ _ h => h) (by rfl) ?_ ?_
      rotate_left
      · intro W hW; go_simp; first | done | with_reducible rfl
      try simp only [Act.put, List.setIfInBounds_toArray, List.set_cons_zero, List.set_cons_succ]
      refine reg_take 23 (some 100) (v := ?_) rfl rfl (by kernel_rfl) (by kernel_rfl) (by kernel_rfl) (fun _ _ _ h => h) (by rfl) ?_ ?_
      rotate_left
      · intro W hW; go_simp; first | done | with_reducible rfl
      try simp only [Act.put, List.setIfInBounds_toArray, List.set_cons_zero, List.set_cons_succ]
      refine reg_take 24 (some 101) (v := ?_) rfl rfl (by kernel_rfl) (by kernel_rfl) (by kernel_rfl) (fun _ _ _ h => h) (by rfl) ?_ ?_
      rotate_left
      · intro W hW; go_simp; first | done | with_reducible rfl
      try simp only [Act.put, List.setIfInBounds_toArray, List.set_cons_zero, List.set_cons_succ]
      refine reg_take 25 (some 102) (v := ?_) rfl rfl (by kernel_rfl) (by kernel_rfl) (by kernel_rfl) (fun _ _ _ h => h) (by rfl) ?_ ?_
      rotate_left
      · intro W hW; go_simp; first | done | with_reducible rfl
      try simp only [Act.put, List.setIfInBounds_toArray, List.set_cons_zero, List.set_cons_succ]
      refine reg_take 26 (some 103) (v := ?_) rfl rfl (by kernel_rfl) (by kernel_rfl) (by kernel_rfl) (fun _ _ _ h => h) (by rfl) ?_ ?_
      rotate_left
      · intro W hW; go_simp; first | done | with_reducible rfl
      try simp only [Act.put, List.setIfInBounds_toArray, List.set_cons_zero, List.set_cons_succ]
      refine wpAnyH_ready (rs := [27]) (by kernel_rfl) (by simp) ?_
      refine (AllReadyH.cons (o := { dst := none, op := Op.store 29 (Operand.tmp 6) (Operand.tmp 77), type := 0, pos := "law.go:64", after := #[{ on := 0, ground := Ground.data }, { on := 18, ground := Ground.chain }, { on := 0, ground := Ground.phase }, { on := 1, ground := Ground.textOnly Departure.lateStores }, { on := 2, ground := Ground.textOnly Departure.lateStoresUnsure }, { on := 3, ground := Ground.textOnly Departure.lateStores }, { on := 4, ground := Ground.textOnly Departure.lateStores }, { on := 5, ground := Ground.textOnly Departure.lateStores }, { on := 6, ground := Ground.textOnly Departure.lateStores }, { on := 7, ground := Ground.textOnly Departure.lateStores }, { on := 8, ground := Ground.textOnly Departure.lateStores }, { on := 9, ground := Ground.textOnly Departure.lateStores }, { on := 10, ground := Ground.textOnly Departure.lateStores }, { on := 11, ground := Ground.textOnly Departure.lateStores }, { on := 12, ground := Ground.textOnly Departure.lateStores }, { on := 13, ground := Ground.textOnly Departure.lateStores }, { on := 14, ground := Ground.textOnly Departure.lateStores }, { on := 15, ground := Ground.textOnly Departure.lateStores }, { on := 16, ground := Ground.textOnly Departure.lateStores }, { on := 17, ground := Ground.textOnly Departure.lateStores }, { on := 18, ground := Ground.textOnly Departure.lateStores }, { on := 19, ground := Ground.textOnly Departure.lateStores }, { on := 20, ground := Ground.textOnly Departure.lateStores }, { on := 21, ground := Ground.textOnly Departure.lateStores }, { on := 22, ground := Ground.textOnly Departure.lateStoresUnsure }, { on := 23, ground := Ground.textOnly Departure.lateStores }, { on := 24, ground := Ground.textOnly Departure.lateStores }, { on := 25, ground := Ground.textOnly Departure.lateStores }, { on := 26, ground := Ground.textOnly Departure.lateStores }], guard := none }) rfl (fun K hK => ?_) AllReadyH.nil)
      refine wp_store_all 29 _ _ rfl (w.heap.size + 1 + 1) ?csu9 ?hxu9 ?hyu9 _ _ HB3r.out ?hfu9 9 ?hnu9 Try.size29 ?h1u9 ?_
      case hyu9 => exact rfl
      case hxu9 => exact rfl
      case hfu9 => exact rfl
      case hnu9 => exact rfl
      case h1u9 => simp [allOne, Value.oneCell']
      intro u9 hb9 h9
      refine reg_next hK h9 ?_
      clear hK K
      try simp only [Act.put]
      refine reg_take 28 (some 7) (v := ?_) rfl rfl (by kernel_rfl) (by kernel_rfl) (by kernel_rfl) (fun _ _ _ h => h) (by rfl) ?_ ?_
      rotate_left
      · intro W hW; go_simp; first | done | with_reducible rfl
      try simp only [Act.put, List.setIfInBounds_toArray, List.set_cons_zero, List.set_cons_succ]
      refine wpAnyH_done (by kernel_rfl) ?_ _
      have HZ5 := Lib.hid hb9
      have h9' : Keeps (fun k => w.heap.size ≤ k ∧ k < w.heap.size + 3) wr u9 := (Keeps.row h9 (mid 2 rfl (by omega))).undrew
      have HT5 := Lib.hid h9'
      clear h9 hb9 h9'
      go_wp2
      refine bodyPost_ret (results_c29t rfl _ _ _ _ (by rfl) (by rfl) HZ5.out) (by rfl) ?_
      refine ⟨{ c with qv := qv' }, { r with pa := pa, pn := g.pushed.length + bs.length, pc := pc }, rfl, ?_⟩
      rw [← HST.out]
      exact Post.fin HL.out HR.out HLw.out HRw.out HKw.out (fun k hk => (HNL.out k hk).imp id (fun h => by omega)) (fun k hk => (HNR.out k hk).imp id (fun h => h.1)) (fun k hk hk2 => (HNL.out k hk).elim (fun h => (HNR.out k hk2).elim (fun h2 => HS.out k h h2) (fun h2 => by have := HL.out.lt k h; omega)) (fun h => (HNR.out k hk2).elim (fun h2 => by have := HR.out.lt k h2; omega) (fun h2 => by omega))) HT5.out
end Go.Proofs.Ytmdgehpmeikgfaa
