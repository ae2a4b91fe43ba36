import Derived.Test.YtmdgehpmeikgfaaAB
set_option linter.unusedVariables false
namespace Go.Proofs.Ytmdgehpmeikgfaa
open Go.RowKit
theorem src_at {w : World} {a : Option Addr} {b o : Nat} {l : List UInt8} (e : a = some ⟨b, o, none⟩) (h : Go.Proofs.Ytmdgehpmeikgfaa.Src w a l) : Go.Proofs.Ytmdgehpmeikgfaa.Src w (some ⟨b, o, none⟩) l := e ▸ h
theorem Post.after {w w1 w2 : World} {B : Nat} {c c' : Lc} {r r' : Rf} {g : Gh} (p : Post w w1 B c c' r r' g) (hg : w1.grownBy w2 none) : Post w w2 B c c' r r' g :=
  ⟨p.ls.keptNone hg, p.rs.keptNone hg, p.sep, p.keep.trans (Keeps.keep hg), p.newl, p.newr⟩
theorem Post.before {w0 w w1 : World} {B : Nat} {c c' : Lc} {r r' : Rf} {g : Gh} (p : Post w w1 B c c' r r' g) (hg : w0.grownBy w none) : Post w0 w1 B c c' r r' g :=
  ⟨p.ls, p.rs, p.sep, (Keeps.keep hg).trans p.keep, fun k hk => (p.newl k hk).imp id (fun h => Nat.le_trans hg.size h), fun k hk => (p.newr k hk).imp id (fun h => Nat.le_trans hg.size h)⟩
theorem Post.afterA {w w1 w2 : World} {B A : Nat} {c c' : Lc} {r r' : Rf} {g : Gh} {cs cs' : Array Value} (p : Post w w1 B c c' r r' g) (hA : w2.heap[A]? = some (.cells cs 29 (0, 0))) (hz : w1.heap[A]? = some (.cells cs' 29 (0, 0))) (hs : w.heap.size ≤ A) (hg : w1.grownBy w2 (some A)) : Post w w2 B c c' r r' g :=
  ⟨p.ls.keeps (Keeps.row (X := fun k => k = A) hg rfl) (fun k hk e => p.ls.nown hz (e ▸ hk)), p.rs.keeps (Keeps.row (X := fun k => k = A) hg rfl) (fun k hk e => p.rs.nrow hz (e ▸ hk)), p.sep, p.keep.fresh hg hs, p.newl, p.newr⟩
theorem keeps_cell {X : Nat → Prop} {w w' : World} {b o : Nat} {v : Value} (hg : Keeps X w w') (hc : w.cell? ⟨b, o, none⟩ = some v) (hn : ¬ X b) : w'.cell? ⟨b, o, none⟩ = some v := by
  have hb := hg.block b (World.block_lt_of_cell? w _ hc) hn
  rw [← hc]
  simp [World.cell?, hb]
theorem step_take_pushed (g : Gh) : (g.step ⟨2, 0, none, 0, 0, 0, 0, false⟩ []).pushed = g.pushed := by
  unfold Gh.step
  simp
  split <;> rfl
theorem step_take_told (g : Gh) : (g.step ⟨2, 0, none, 0, 0, 0, 0, false⟩ []).told = g.told := by
  unfold Gh.step
  simp
  split <;> rfl
set_option maxRecDepth 100000 in
set_option maxHeartbeats 16000000 in
theorem linesBytes_walk (a : Option Addr) (n cap : Nat) (aa : Nat → Option Addr) (cc : Nat → Nat) (ll : Nat → List UInt8) (at' : Option Addr) (nt capt : Nat) (tk : Nat → Int) (w : World) (hs : SrcLL w a n aa cc ll) (hm : n ≤ 9223372036854775807) (hst : SrcI w at' nt tk) (hmt : nt ≤ 9223372036854775807) :
    Calls Try.prog 6 #[.slice a n cap, .slice at' nt capt] w fun e w' => e = .returned (.bool true) ∧ w.grownBy w' none := by
  by_cases hc : n ≤ 20
  rotate_left
  · have hc' : (20 : Int) < (n : Nat) := by omega
    go_enter Try.func6, Try.ntmps6
    go_wp2_with fail
    refine (works_any _).mono ?_; rintro e w1 ⟨rfl, hg1⟩
    go_wp2
    go_ret
    exact ⟨rfl, hg1⟩
  have hc' : ¬ (20 : Int) < (n : Nat) := by omega
  go_enter Try.func6, Try.ntmps6
  go_wp2_with fail
  refine (new_any _).mono ?_; rintro e w1 ⟨B, rfl, hB, hT1, hg1⟩
  have hga := World.grownBy_alloc w1 (.cells Rf.zero.cells 29) none
  have HN := Lib.hid (heap_alloc_new w1 (.cells Rf.zero.cells 29))
  have HW := Lib.hid ((Wk.start hB hT1 hg1).keptNone hga)
  have hsz := hg1.size
  clear hT1 hg1 hga
  go_wp2_with (with_reducible refine hold_st 29 _ _ rfl ?_)
  apply Lib.hid
  with_reducible refine wpList_store_all rfl 29 _ _ rfl _ ?cs4605 ?hx4605 ?hy4605 _ _ HN.out ?hf4605 _ ?hl4605 Try.size29 ?h14605 ?_
  case hy4605 => exact rfl
  case hx4605 => exact rfl
  case hf4605 => exact rfl
  case hl4605 => exact rfl
  case h14605 => simp [allOne, Value.oneCell']
  intro w2 hb2 hg2
  have HI2 := Lib.hid (show LI w w2 B w1.heap.size 0 .new .zero .zero from by
    have h0 := HW.out.ls.nown HN.out
    exact ⟨HW.out.ls.keeps (Keeps.row (X := fun k => k = w1.heap.size) hg2 rfl) (fun k hk e => h0 (e ▸ hk)), zero_rs _, ⟨by show (0 : Nat) < 4294967296; decide, by show (0 : Nat) < 16; decide, Nat.le_refl _, by show (0 : Nat) - 0 ≤ 256; decide⟩, fun k _ h => h.elim (fun e => by cases e) (fun e => by cases e), hb2, HW.out.new, fun k h => h.elim (fun e => by cases e) (fun e => by cases e), hsz, grown_new HW.out.grown hg2 hsz, Nat.le_refl _, Nat.le_refl _⟩)
  clear hb2 hg2 HN HW
  go_wp2
  go_loopw [7] (fun i wr => ∃ k : Nat, k ≤ n ∧ i = .int .i64 k ∧ ∃ c r g, LI w wr B w1.heap.size (256 * k) c r g) (fun i _ => n - (intOf i).toNat)
  case atStart => exact ⟨0, Nat.zero_le _, rfl, .new, .zero, .zero, HI2.out⟩
  case round =>
    obtain ⟨k, hk, rfl, c, r, g, hI⟩ := hrel
    have HI := Lib.hid hI
    clear hI HI2
    by_cases hlt : k < n
    rotate_left
    · obtain rfl : k = n := by omega
      go_wp2_with fail
      refine (works_any _).mono ?_; rintro e w3 ⟨rfl, hg3⟩
      have HG := Lib.hid (HI.out.grown.trans hg3)
      clear hg3
      go_wp2
      go_ret
      exact ⟨rfl, HG.out⟩
    · obtain ⟨b, o, rfl, hcs⟩ := hs.resolve_left (by omega)
      obtain ⟨hcl, hsk⟩ := hcs k hlt
      have hlt' : (k : Int) < (n : Nat) := by omega
      have hwk : IntKind.i64.wrap ((k : Int) + 1) = ((k + 1 : Nat) : Int) := by rw [IntKind.wrap_i64]; omega
      have hck : wr.cell? ⟨b, o + k, none⟩ = some (.slice (aa k) (ll k).length (cc k)) := HI.out.grown.cell hcl (by simp)
      have HS0 := Lib.hid hsk
      have HSc := Lib.hid (hsk.keptNone HI.out.grown)
      have HC := Lib.hid hck
      have hb0 : b < w.heap.size := World.block_lt_of_cell? w _ hcl
      have hwz := HI.out.grown.size
      have HNA := Lib.hid (show ¬ (own c B w1.heap.size ∨ wr.heap.size ≤ w1.heap.size) from fun h => h.elim HI.out.nown (fun h => by have := lt_of_block HI.out.blk; omega))
      have HNB := Lib.hid (show ¬ (own c B b ∨ wr.heap.size ≤ b) from fun h => h.elim (fun h => by have := HI.out.own _ h; omega) (fun h => by omega))
      clear hcs hcl hsk hs
      by_cases hl : (ll k).length ≤ 1000
      rotate_left
      · have hl' : (1000 : Int) < ((ll k).length : Nat) := by omega
        go_wp2_with fail
        refine (works_any _).mono ?_; rintro e w3 ⟨rfl, hg3⟩
        have HG := Lib.hid (HI.out.grown.trans hg3)
        clear hg3
        go_wp2
        go_ret
        exact ⟨rfl, HG.out⟩
      have hl' : ¬ (1000 : Int) < ((ll k).length : Nat) := by omega
      have HN0 := Lib.hid (show (wr.alloc (.cells Rf.zero.cells 29)).drew.heap[wr.heap.size]? = some (.cells Rf.zero.cells 29 (0, 0)) from heap_alloc_new wr (.cells Rf.zero.cells 29))
      go_wp2
      refine regx_open (fun k => own c B k ∨ wr.heap.size ≤ k) (n := 14) rfl (by kernel_rfl) ?_
      refine regx_take 0 (some 31) (v := ?_) rfl rfl (by kernel_rfl) (by kernel_rfl) (by kernel_rfl) (fun _ _ _ h => h) (by rfl) ?_ ?_
      rotate_left
      · intro W hW; go_simp; first | done | with_reducible rfl
      try simp only [Act.put, List.setIfInBounds_toArray, List.set_cons_zero, List.set_cons_succ]
      refine regx_take 1 (some 32) (v := ?_) rfl rfl (by kernel_rfl) (by kernel_rfl) (by kernel_rfl) (fun _ _ _ h => h) (by rfl) ?_ ?_
      rotate_left
      · intro W hW; refine exec_ld29 (x := Operand.tmp 6) ?_ ?_ (((hW).block w1.heap.size (lt_of_block HI.out.blk) HNA.out).trans HI.out.blk) <;> rfl
      try simp only [Act.put, List.setIfInBounds_toArray, List.set_cons_zero, List.set_cons_succ]
      refine regx_take 2 (some 33) (v := ?_) rfl rfl (by kernel_rfl) (by kernel_rfl) (by kernel_rfl) (fun _ _ _ h => h) (by rfl) ?_ ?_
      rotate_left
      · intro W hW; go_simp; first | done | with_reducible rfl
      try simp only [Act.put, List.setIfInBounds_toArray, List.set_cons_zero, List.set_cons_succ]
      refine regx_take 3 (some 34) (v := ?_) rfl rfl (by kernel_rfl) (by kernel_rfl) (by kernel_rfl) (fun _ _ _ h => h) (by rfl) ?_ ?_
      rotate_left
      · intro W hW; go_simp; first | done | with_reducible rfl
      try simp only [Act.put, List.setIfInBounds_toArray, List.set_cons_zero, List.set_cons_succ]
      refine regx_take 4 (some 35) (v := ?_) rfl rfl (by kernel_rfl) (by kernel_rfl) (by kernel_rfl) (fun _ _ _ h => h) (by rfl) ?_ ?_
      rotate_left
      · intro W hW; go_simp; first | done | with_reducible rfl
      try simp only [Act.put, List.setIfInBounds_toArray, List.set_cons_zero, List.set_cons_succ]
      refine regx_take 5 (some 36) (v := ?_) rfl rfl (by kernel_rfl) (by kernel_rfl) (by kernel_rfl) (fun _ _ _ h => h) (by rfl) ?_ ?_
      rotate_left
      · intro W hW; have k7 := keeps_cell hW HC.out HNB.out; go_simp; first | done | with_reducible rfl
      try simp only [Act.put, List.setIfInBounds_toArray, List.set_cons_zero, List.set_cons_succ]
      refine regx_take 6 (some 37) (v := ?_) rfl rfl (by kernel_rfl) (by kernel_rfl) (by kernel_rfl) (fun _ _ _ h => h) (by rfl) ?_ ?_
      rotate_left
      · intro W hW; go_simp; first | done | with_reducible rfl
      try simp only [Act.put, List.setIfInBounds_toArray, List.set_cons_zero, List.set_cons_succ]
      refine wpAnyH_ready (rs := [7, 11]) (by kernel_rfl) (by simp) ?_
      refine (AllReadyH.cons (o := { dst := some 38, op := Op.call { callee := Callee.value (Operand.func 30), args := #[Operand.tmp 31, Operand.tmp 32, Operand.tmp 37], argTypes := #[23, 29, 49] }, type := 60, pos := "law.go:111", after := #[{ on := 0, ground := Ground.data }, { on := 1, ground := Ground.data }, { on := 6, ground := Ground.data }], guard := none }) rfl (fun K hK => ?_) (AllReadyH.cons (o := { dst := some 8, op := Op.alloc 29, type := 0, pos := "law.go:111", after := #[], guard := none }) rfl (fun K hK => ?_) AllReadyH.nil))
      · go_simp
        refine (act_any B c r g ⟨1, 0, aa k, (ll k).length, cc k, 0, 0, false⟩ (ll k) _ (HI.out.ls.keptNone (by first | exact drewr (World.grownBy.refl _ _) | exact (drewr (World.grownBy.refl _ _)).trans hm)) (HI.out.rs.keptNone (by first | exact drewr (World.grownBy.refl _ _) | exact (drewr (World.grownBy.refl _ _)).trans hm)) HI.out.sep HI.out.wg rfl ((HSc.out).keptNone (by first | exact drewr (World.grownBy.refl _ _) | exact (drewr (World.grownBy.refl _ _)).trans hm)) (fun hne b' o' e hk => by have h1 := HI.out.own _ hk; have h2 := Go.Proofs.Ytmdgehpmeikgfaa.Src.lt (src_at (show aa k = some ⟨b', o', none⟩ from e) HS0.out) hne; omega) (by omega) (by have := HI.out.pl; omega) (by have := HI.out.tl; omega) (show (0 : Nat) < 4294967296 by decide)).mono ?_; rintro e u1 ⟨c', r', rfl, hP⟩
        refine regx_next hK (hP.keep.mono fun i _ h => .inl h) ?_
        clear hK K
        try simp only [Act.put, List.setIfInBounds_toArray, List.set_cons_zero, List.set_cons_succ]
        refine regx_take 8 (some 30) (v := ?_) rfl rfl (by kernel_rfl) (by kernel_rfl) (by kernel_rfl) (fun _ _ _ h => h) (by rfl) ?_ ?_
        rotate_left
        · intro W hW; go_simp; first | done | with_reducible rfl
        try simp only [Act.put, List.setIfInBounds_toArray, List.set_cons_zero, List.set_cons_succ]
        refine regx_take 9 (some 39) (v := ?_) rfl rfl (by kernel_rfl) (by kernel_rfl) (by kernel_rfl) (fun _ _ _ h => h) (by rfl) ?_ ?_
        rotate_left
        · intro W hW; go_simp; first | done | with_reducible rfl
        try simp only [Act.put, List.setIfInBounds_toArray, List.set_cons_zero, List.set_cons_succ]
        refine regx_take 10 (some 40) (v := ?_) rfl rfl (by kernel_rfl) (by kernel_rfl) (by kernel_rfl) (fun _ _ _ h => h) (by rfl) ?_ ?_
        rotate_left
        · intro W hW; go_simp; first | done | with_reducible rfl
        try simp only [Act.put, List.setIfInBounds_toArray, List.set_cons_zero, List.set_cons_succ]
        refine wpAnyH_ready (rs := [11]) (by kernel_rfl) (by simp) ?_
        refine (AllReadyH.cons (o := { dst := some 8, op := Op.alloc 29, type := 0, pos := "law.go:111", after := #[], guard := none }) rfl (fun K hK => ?_) AllReadyH.nil)
        go_simp
        have hn := heap_alloc_new u1 (.cells Rf.zero.cells 29); have hm := World.grownBy_alloc u1 (.cells Rf.zero.cells 29) none
        refine regx_next hK (Keeps.keep hm) ?_
        clear hK K
        try simp only [Act.put, List.setIfInBounds_toArray, List.set_cons_zero, List.set_cons_succ]
        refine wpAnyH_ready (rs := [12]) (by kernel_rfl) (by simp) ?_
        refine (AllReadyH.cons (o := { dst := none, op := Op.store 29 (Operand.tmp 8) (Operand.tmp 39), type := 0, pos := "law.go:111", after := #[{ on := 11, ground := Ground.data }, { on := 9, ground := Ground.data }, { on := 7, ground := Ground.chain }, { on := 0, ground := Ground.phase }, { on := 1, ground := Ground.phase }, { on := 2, ground := Ground.phase }, { on := 3, ground := Ground.phase }, { on := 4, ground := Ground.phase }, { on := 5, ground := Ground.phase }, { on := 6, ground := Ground.phase }, { on := 7, ground := Ground.phase }, { on := 8, ground := Ground.phase }, { on := 9, ground := Ground.phase }, { on := 10, ground := Ground.textOnly Departure.lateStores }, { on := 11, ground := Ground.phase }], guard := none }) rfl (fun K hK => ?_) AllReadyH.nil)
        refine wp_store_all 29 _ _ rfl ?bu7 ?csu7 ?hxu7 ?hyu7 ?cu7 ?tu7 ?hzu7 ?hfu7 9 ?hnu7 Try.size29 ?h1u7 ?_
        case hyu7 => exact rfl
        case hxu7 => exact rfl
        case hzu7 => first | exact hn | exact (hP.keep.block _ (lt_of_block hn) (fun h => by have := HI.out.ls.lt _ h; simp at this)).trans hn | (have hz9 := (hP.keep.block wr.heap.size (lt_of_block HN0.out) (fun h => by have := HI.out.ls.lt _ h; omega)).trans HN0.out; exact hz9)
        case hfu7 => exact rfl
        case hnu7 => exact rfl
        case h1u7 => simp [allOne, Value.oneCell']
        intro u9 hb9 h9
        refine regx_next hK (Keeps.row h9 (.inr (by first | exact Nat.le_refl _ | exact hP.keep.size))) ?_
        clear hK K
        try simp only [Act.put]
        refine regx_take 13 (some 9) (v := ?_) rfl rfl (by kernel_rfl) (by kernel_rfl) (by kernel_rfl) (fun _ _ _ h => h) (by rfl) ?_ ?_
        rotate_left
        · intro W hW; go_simp; first | done | with_reducible rfl
        try simp only [Act.put, List.setIfInBounds_toArray, List.set_cons_zero, List.set_cons_succ]
        refine wpAnyH_done (by kernel_rfl) ?_ _
        have hz8 : True := trivial
        have HQ := Lib.hid (show Post wr.drew u9 B c c' r r' (g.step ⟨1, 0, aa k, (ll k).length, cc k, 0, 0, false⟩ (ll k)) from by
          first
            | exact ((hP.after hm).afterA hb9 (heap_alloc_new _ _) (by first | exact Nat.le_refl _ | exact hP.keep.size) h9)
            | exact ((hP.before hm).afterA hb9 ((hP.keep.block wr.heap.size (lt_of_block HN0.out) (fun h => by have := HI.out.ls.lt _ h; omega)).trans HN0.out) (by first | exact Nat.le_refl _ | exact hP.keep.size) h9))
        have HA8 := Lib.hid hb9
        have HBA := Lib.hid ((HQ.out.keep.block w1.heap.size (lt_of_block HI.out.blk) HI.out.nown).trans HI.out.blk)
        clear hP hm h9 hb9 hn hz8
        go_wp2_with (with_reducible refine hold_ld 29 _ rfl ?_)
        apply Lib.hid
        with_reducible refine wpList_load_blk rfl 29 _ rfl _ ?o4601u9 ?hx4601u9 _ _ _ HA8.out _ 9 ?hn4601u9 Try.underlying29 rfl Try.size29 ?_
        case hx4601u9 => exact rfl
        case hn4601u9 => exact rfl
        go_wp2_with (with_reducible refine hold_st 29 _ _ rfl ?_)
        apply Lib.hid
        with_reducible refine wpList_store_all rfl 29 _ _ rfl _ ?cs4602u9 ?hx4602u9 ?hy4602u9 _ _ HBA.out ?hf4602u9 _ ?hl4602u9 Try.size29 ?h14602u9 ?_
        case hy4602u9 => exact rfl
        case hx4602u9 => exact rfl
        case hf4602u9 => exact rfl
        case hl4602u9 => exact rfl
        case h14602u9 => simp [allOne, Value.oneCell']
        intro u10 hb10 hg10
        have HI10 := Lib.hid (show LI w u10 B w1.heap.size (256 * (k + 1)) c' r' (g.step ⟨1, 0, aa k, (ll k).length, cc k, 0, 0, false⟩ (ll k)) from
          (HI.out.keptNone (drewr (World.grownBy.refl _ _))).act HQ.out hg10 hb10 (HI.out.wg.step _ (show 0 < 4294967296 by decide) _) (by have h1 := HI.out.pl; have h2 := (g.step_pushed ⟨1, 0, aa k, (ll k).length, cc k, 0, 0, false⟩ (ll k)).1; omega) (by have h1 := HI.out.tl; have h2 := g.step_told ⟨1, 0, aa k, (ll k).length, cc k, 0, 0, false⟩ (ll k); omega))
        clear hb10 hg10
        go_wp2
        go_loopw [9, 10] (fun okv j wq => okv = .bool true ∧ ∃ m : Nat, m ≤ 300 ∧ j = .int .i64 m ∧ ∃ c r g, LI w wq B w1.heap.size (256 * (k + 1)) c r g) (fun _ j _ => 300 - (intOf j).toNat)
        case atStart => exact ⟨rfl, 0, by omega, rfl, _, _, _, HI10.out⟩
        case round =>
          obtain ⟨rfl, m, hm3, rfl, c2, r2, g2, hJ⟩ := hrel
          have HJ := Lib.hid hJ
          clear hJ HI10 HQ HA8 HBA
          by_cases hkt : k < nt
          rotate_left
          · have hkt' : ¬ (k : Int) < (nt : Nat) := by omega
            go_wp2_with (with_reducible refine hold_ld 29 _ rfl ?_)
            apply Lib.hid
            refine wpList_val (by rfl) (exec_ld29 (x := .tmp 6) (r := r2) rfl rfl HJ.out.blk) ?_
            go_wp2_with fail
            refine (is_ok B c2 r2 g2 _ HJ.out.ls HJ.out.rs HJ.out.wg (by have := HJ.out.pl; omega) (by have := HJ.out.tl; omega)).mono ?_; rintro e u12 ⟨rfl, h12⟩
            have HJ2 := Lib.hid (HJ.out.keptNone h12)
            clear h12 HJ
            go_wp2
            go_roundw
            case rel => exact ⟨k + 1, by omega, by simp, c2, r2, g2, HJ2.out⟩
            case measure => simp [intOf]; omega
          obtain ⟨bt, ot, rfl, hct⟩ := hst.resolve_left (by omega)
          have hcq := hct k hkt
          have hkt' : (k : Int) < (nt : Nat) := by omega
          have hck : wr.cell? ⟨bt, ot + k, none⟩ = some (.int .i64 (tk k)) := HJ.out.grown.cell hcq (by simp)
          clear hct hcq
          by_cases hmt : (m : Int) < tk k
          rotate_left
          · go_wp2_with (with_reducible refine hold_ld 29 _ rfl ?_)
            apply Lib.hid
            refine wpList_val (by rfl) (exec_ld29 (x := .tmp 6) (r := r2) rfl rfl HJ.out.blk) ?_
            go_wp2_with fail
            refine (is_ok B c2 r2 g2 _ HJ.out.ls HJ.out.rs HJ.out.wg (by have := HJ.out.pl; omega) (by have := HJ.out.tl; omega)).mono ?_; rintro e u12 ⟨rfl, h12⟩
            have HJ2 := Lib.hid (HJ.out.keptNone h12)
            clear h12 HJ
            go_wp2
            go_roundw
            case rel => exact ⟨k + 1, by omega, by simp, c2, r2, g2, HJ2.out⟩
            case measure => simp [intOf]; omega
          by_cases hm300 : m < 300
          rotate_left
          · have hm300' : ¬ (m : Int) < 300 := by omega
            go_wp2_with (with_reducible refine hold_ld 29 _ rfl ?_)
            apply Lib.hid
            refine wpList_val (by rfl) (exec_ld29 (x := .tmp 6) (r := r2) rfl rfl HJ.out.blk) ?_
            go_wp2_with fail
            refine (is_ok B c2 r2 g2 _ HJ.out.ls HJ.out.rs HJ.out.wg (by have := HJ.out.pl; omega) (by have := HJ.out.tl; omega)).mono ?_; rintro e u12 ⟨rfl, h12⟩
            have HJ2 := Lib.hid (HJ.out.keptNone h12)
            clear h12 HJ
            go_wp2
            go_roundw
            case rel => exact ⟨k + 1, by omega, by simp, c2, r2, g2, HJ2.out⟩
            case measure => simp [intOf]; omega
          have hm300' : (m : Int) < 300 := by omega
          go_wp2_with (with_reducible refine hold_ld 29 _ rfl ?_)
          apply Lib.hid
          with_reducible refine wpList_load_blk rfl 29 _ rfl _ ?o4603u9 ?hx4603u9 _ _ _ HJ.out.blk _ 9 ?hn4603u9 Try.underlying29 rfl Try.size29 ?_
          case hx4603u9 => exact rfl
          case hn4603u9 => exact rfl
          have C := act_any B c2 r2 g2 ⟨2, 0, none, 0, 0, 0, 0, false⟩ [] wr HJ.out.ls HJ.out.rs HJ.out.sep HJ.out.wg rfl (.inl rfl) (fun h => absurd rfl h) (by simp) (by have := HJ.out.pl; omega) (by have := HJ.out.tl; omega) (show (0 : Nat) < 4294967296 by decide)
          go_wp2_with fail
          refine C.mono ?_; rintro e u13 ⟨c3, r3, rfl, hP3⟩
          have HP3 := Lib.hid hP3
          have HBB := Lib.hid ((hP3.keep.block w1.heap.size (lt_of_block HJ.out.blk) HJ.out.nown).trans HJ.out.blk)
          clear C hP3
          go_wp2_with (with_reducible refine hold_st 29 _ _ rfl ?_)
          apply Lib.hid
          with_reducible refine wpList_store_all rfl 29 _ _ rfl _ ?cs4604u9 ?hx4604u9 ?hy4604u9 _ _ HBB.out ?hf4604u9 _ ?hl4604u9 Try.size29 ?h14604u9 ?_
          case hy4604u9 => exact rfl
          case hx4604u9 => exact rfl
          case hf4604u9 => exact rfl
          case hl4604u9 => exact rfl
          case h14604u9 => simp [allOne, Value.oneCell']
          intro u14 hb14 hg14
          have HJ14 := Lib.hid (show LI w u14 B w1.heap.size (256 * (k + 1)) c3 r3 (g2.step ⟨2, 0, none, 0, 0, 0, 0, false⟩ []) from
            HJ.out.act HP3.out hg14 hb14 (HJ.out.wg.step _ (show 0 < 4294967296 by decide) _) (by rw [step_take_pushed]; exact HJ.out.pl) (by rw [step_take_told]; exact HJ.out.tl))
          have hwm : IntKind.i64.wrap ((m : Int) + 1) = ((m + 1 : Nat) : Int) := by rw [IntKind.wrap_i64]; omega
          clear hb14 hg14
          go_wp2
          go_roundw
          case rel => exact ⟨rfl, m + 1, by omega, rfl, c3, r3, _, HJ14.out⟩
          case measure => simp [intOf]; omega
      · go_simp
        have hn := heap_alloc_new wr.drew (.cells Rf.zero.cells 29); have hm := World.grownBy_alloc wr.drew (.cells Rf.zero.cells 29) none
        refine regx_next hK (Keeps.keep hm) ?_
        clear hK K
        try simp only [Act.put, List.setIfInBounds_toArray, List.set_cons_zero, List.set_cons_succ]
        refine wpAnyH_ready (rs := [7]) (by kernel_rfl) (by simp) ?_
        refine (AllReadyH.cons (o := { dst := some 38, op := Op.call { callee := Callee.value (Operand.func 30), args := #[Operand.tmp 31, Operand.tmp 32, Operand.tmp 37], argTypes := #[23, 29, 49] }, type := 60, pos := "law.go:111", after := #[{ on := 0, ground := Ground.data }, { on := 1, ground := Ground.data }, { on := 6, ground := Ground.data }], guard := none }) rfl (fun K hK => ?_) AllReadyH.nil)
        go_simp
        refine (act_any B c r g ⟨1, 0, aa k, (ll k).length, cc k, 0, 0, false⟩ (ll k) _ (HI.out.ls.keptNone (by first | exact drewr (World.grownBy.refl _ _) | exact (drewr (World.grownBy.refl _ _)).trans hm)) (HI.out.rs.keptNone (by first | exact drewr (World.grownBy.refl _ _) | exact (drewr (World.grownBy.refl _ _)).trans hm)) HI.out.sep HI.out.wg rfl ((HSc.out).keptNone (by first | exact drewr (World.grownBy.refl _ _) | exact (drewr (World.grownBy.refl _ _)).trans hm)) (fun hne b' o' e hk => by have h1 := HI.out.own _ hk; have h2 := Go.Proofs.Ytmdgehpmeikgfaa.Src.lt (src_at (show aa k = some ⟨b', o', none⟩ from e) HS0.out) hne; omega) (by omega) (by have := HI.out.pl; omega) (by have := HI.out.tl; omega) (show (0 : Nat) < 4294967296 by decide)).mono ?_; rintro e u1 ⟨c', r', rfl, hP⟩
        refine regx_next hK (hP.keep.mono fun i _ h => .inl h) ?_
        clear hK K
        try simp only [Act.put, List.setIfInBounds_toArray, List.set_cons_zero, List.set_cons_succ]
        refine regx_take 8 (some 30) (v := ?_) rfl rfl (by kernel_rfl) (by kernel_rfl) (by kernel_rfl) (fun _ _ _ h => h) (by rfl) ?_ ?_
        rotate_left
        · intro W hW; go_simp; first | done | with_reducible rfl
        try simp only [Act.put, List.setIfInBounds_toArray, List.set_cons_zero, List.set_cons_succ]
        refine regx_take 9 (some 39) (v := ?_) rfl rfl (by kernel_rfl) (by kernel_rfl) (by kernel_rfl) (fun _ _ _ h => h) (by rfl) ?_ ?_
        rotate_left
        · intro W hW; go_simp; first | done | with_reducible rfl
        try simp only [Act.put, List.setIfInBounds_toArray, List.set_cons_zero, List.set_cons_succ]
        refine regx_take 10 (some 40) (v := ?_) rfl rfl (by kernel_rfl) (by kernel_rfl) (by kernel_rfl) (fun _ _ _ h => h) (by rfl) ?_ ?_
        rotate_left
        · intro W hW; go_simp; first | done | with_reducible rfl
        try simp only [Act.put, List.setIfInBounds_toArray, List.set_cons_zero, List.set_cons_succ]
        refine wpAnyH_ready (rs := [12]) (by kernel_rfl) (by simp) ?_
        refine (AllReadyH.cons (o := { dst := none, op := Op.store 29 (Operand.tmp 8) (Operand.tmp 39), type := 0, pos := "law.go:111", after := #[{ on := 11, ground := Ground.data }, { on := 9, ground := Ground.data }, { on := 7, ground := Ground.chain }, { on := 0, ground := Ground.phase }, { on := 1, ground := Ground.phase }, { on := 2, ground := Ground.phase }, { on := 3, ground := Ground.phase }, { on := 4, ground := Ground.phase }, { on := 5, ground := Ground.phase }, { on := 6, ground := Ground.phase }, { on := 7, ground := Ground.phase }, { on := 8, ground := Ground.phase }, { on := 9, ground := Ground.phase }, { on := 10, ground := Ground.textOnly Departure.lateStores }, { on := 11, ground := Ground.phase }], guard := none }) rfl (fun K hK => ?_) AllReadyH.nil)
        refine wp_store_all 29 _ _ rfl ?bu14 ?csu14 ?hxu14 ?hyu14 ?cu14 ?tu14 ?hzu14 ?hfu14 9 ?hnu14 Try.size29 ?h1u14 ?_
        case hyu14 => exact rfl
        case hxu14 => exact rfl
        case hzu14 => first | exact hn | exact (hP.keep.block _ (lt_of_block hn) (fun h => by have := HI.out.ls.lt _ h; simp at this)).trans hn | (have hz9 := (hP.keep.block wr.heap.size (lt_of_block HN0.out) (fun h => by have := HI.out.ls.lt _ h; omega)).trans HN0.out; exact hz9)
        case hfu14 => exact rfl
        case hnu14 => exact rfl
        case h1u14 => simp [allOne, Value.oneCell']
        intro u9 hb9 h9
        refine regx_next hK (Keeps.row h9 (.inr (by first | exact Nat.le_refl _ | exact hP.keep.size))) ?_
        clear hK K
        try simp only [Act.put]
        refine regx_take 13 (some 9) (v := ?_) rfl rfl (by kernel_rfl) (by kernel_rfl) (by kernel_rfl) (fun _ _ _ h => h) (by rfl) ?_ ?_
        rotate_left
        · intro W hW; go_simp; first | done | with_reducible rfl
        try simp only [Act.put, List.setIfInBounds_toArray, List.set_cons_zero, List.set_cons_succ]
        refine wpAnyH_done (by kernel_rfl) ?_ _
        have hz8 : True := trivial
        have HQ := Lib.hid (show Post wr.drew u9 B c c' r r' (g.step ⟨1, 0, aa k, (ll k).length, cc k, 0, 0, false⟩ (ll k)) from by
          first
            | exact ((hP.after hm).afterA hb9 (heap_alloc_new _ _) (by first | exact Nat.le_refl _ | exact hP.keep.size) h9)
            | exact ((hP.before hm).afterA hb9 ((hP.keep.block wr.heap.size (lt_of_block HN0.out) (fun h => by have := HI.out.ls.lt _ h; omega)).trans HN0.out) (by first | exact Nat.le_refl _ | exact hP.keep.size) h9))
        have HA8 := Lib.hid hb9
        have HBA := Lib.hid ((HQ.out.keep.block w1.heap.size (lt_of_block HI.out.blk) HI.out.nown).trans HI.out.blk)
        clear hP hm h9 hb9 hn hz8
        go_wp2_with (with_reducible refine hold_ld 29 _ rfl ?_)
        apply Lib.hid
        with_reducible refine wpList_load_blk rfl 29 _ rfl _ ?o4601u16 ?hx4601u16 _ _ _ HA8.out _ 9 ?hn4601u16 Try.underlying29 rfl Try.size29 ?_
        case hx4601u16 => exact rfl
        case hn4601u16 => exact rfl
        go_wp2_with (with_reducible refine hold_st 29 _ _ rfl ?_)
        apply Lib.hid
        with_reducible refine wpList_store_all rfl 29 _ _ rfl _ ?cs4602u16 ?hx4602u16 ?hy4602u16 _ _ HBA.out ?hf4602u16 _ ?hl4602u16 Try.size29 ?h14602u16 ?_
        case hy4602u16 => exact rfl
        case hx4602u16 => exact rfl
        case hf4602u16 => exact rfl
        case hl4602u16 => exact rfl
        case h14602u16 => simp [allOne, Value.oneCell']
        intro u10 hb10 hg10
        have HI10 := Lib.hid (show LI w u10 B w1.heap.size (256 * (k + 1)) c' r' (g.step ⟨1, 0, aa k, (ll k).length, cc k, 0, 0, false⟩ (ll k)) from
          (HI.out.keptNone (drewr (World.grownBy.refl _ _))).act HQ.out hg10 hb10 (HI.out.wg.step _ (show 0 < 4294967296 by decide) _) (by have h1 := HI.out.pl; have h2 := (g.step_pushed ⟨1, 0, aa k, (ll k).length, cc k, 0, 0, false⟩ (ll k)).1; omega) (by have h1 := HI.out.tl; have h2 := g.step_told ⟨1, 0, aa k, (ll k).length, cc k, 0, 0, false⟩ (ll k); omega))
        clear hb10 hg10
        go_wp2
        go_loopw [9, 10] (fun okv j wq => okv = .bool true ∧ ∃ m : Nat, m ≤ 300 ∧ j = .int .i64 m ∧ ∃ c r g, LI w wq B w1.heap.size (256 * (k + 1)) c r g) (fun _ j _ => 300 - (intOf j).toNat)
        case atStart => exact ⟨rfl, 0, by omega, rfl, _, _, _, HI10.out⟩
        case round =>
          obtain ⟨rfl, m, hm3, rfl, c2, r2, g2, hJ⟩ := hrel
          have HJ := Lib.hid hJ
          clear hJ HI10 HQ HA8 HBA
          by_cases hkt : k < nt
          rotate_left
          · have hkt' : ¬ (k : Int) < (nt : Nat) := by omega
            go_wp2_with (with_reducible refine hold_ld 29 _ rfl ?_)
            apply Lib.hid
            refine wpList_val (by rfl) (exec_ld29 (x := .tmp 6) (r := r2) rfl rfl HJ.out.blk) ?_
            go_wp2_with fail
            refine (is_ok B c2 r2 g2 _ HJ.out.ls HJ.out.rs HJ.out.wg (by have := HJ.out.pl; omega) (by have := HJ.out.tl; omega)).mono ?_; rintro e u12 ⟨rfl, h12⟩
            have HJ2 := Lib.hid (HJ.out.keptNone h12)
            clear h12 HJ
            go_wp2
            go_roundw
            case rel => exact ⟨k + 1, by omega, by simp, c2, r2, g2, HJ2.out⟩
            case measure => simp [intOf]; omega
          obtain ⟨bt, ot, rfl, hct⟩ := hst.resolve_left (by omega)
          have hcq := hct k hkt
          have hkt' : (k : Int) < (nt : Nat) := by omega
          have hck : wr.cell? ⟨bt, ot + k, none⟩ = some (.int .i64 (tk k)) := HJ.out.grown.cell hcq (by simp)
          clear hct hcq
          by_cases hmt : (m : Int) < tk k
          rotate_left
          · go_wp2_with (with_reducible refine hold_ld 29 _ rfl ?_)
            apply Lib.hid
            refine wpList_val (by rfl) (exec_ld29 (x := .tmp 6) (r := r2) rfl rfl HJ.out.blk) ?_
            go_wp2_with fail
            refine (is_ok B c2 r2 g2 _ HJ.out.ls HJ.out.rs HJ.out.wg (by have := HJ.out.pl; omega) (by have := HJ.out.tl; omega)).mono ?_; rintro e u12 ⟨rfl, h12⟩
            have HJ2 := Lib.hid (HJ.out.keptNone h12)
            clear h12 HJ
            go_wp2
            go_roundw
            case rel => exact ⟨k + 1, by omega, by simp, c2, r2, g2, HJ2.out⟩
            case measure => simp [intOf]; omega
          by_cases hm300 : m < 300
          rotate_left
          · have hm300' : ¬ (m : Int) < 300 := by omega
            go_wp2_with (with_reducible refine hold_ld 29 _ rfl ?_)
            apply Lib.hid
            refine wpList_val (by rfl) (exec_ld29 (x := .tmp 6) (r := r2) rfl rfl HJ.out.blk) ?_
            go_wp2_with fail
            refine (is_ok B c2 r2 g2 _ HJ.out.ls HJ.out.rs HJ.out.wg (by have := HJ.out.pl; omega) (by have := HJ.out.tl; omega)).mono ?_; rintro e u12 ⟨rfl, h12⟩
            have HJ2 := Lib.hid (HJ.out.keptNone h12)
            clear h12 HJ
            go_wp2
            go_roundw
            case rel => exact ⟨k + 1, by omega, by simp, c2, r2, g2, HJ2.out⟩
            case measure => simp [intOf]; omega
          have hm300' : (m : Int) < 300 := by omega
          go_wp2_with (with_reducible refine hold_ld 29 _ rfl ?_)
          apply Lib.hid
          with_reducible refine wpList_load_blk rfl 29 _ rfl _ ?o4603u16 ?hx4603u16 _ _ _ HJ.out.blk _ 9 ?hn4603u16 Try.underlying29 rfl Try.size29 ?_
          case hx4603u16 => exact rfl
          case hn4603u16 => exact rfl
          have C := act_any B c2 r2 g2 ⟨2, 0, none, 0, 0, 0, 0, false⟩ [] wr HJ.out.ls HJ.out.rs HJ.out.sep HJ.out.wg rfl (.inl rfl) (fun h => absurd rfl h) (by simp) (by have := HJ.out.pl; omega) (by have := HJ.out.tl; omega) (show (0 : Nat) < 4294967296 by decide)
          go_wp2_with fail
          refine C.mono ?_; rintro e u13 ⟨c3, r3, rfl, hP3⟩
          have HP3 := Lib.hid hP3
          have HBB := Lib.hid ((hP3.keep.block w1.heap.size (lt_of_block HJ.out.blk) HJ.out.nown).trans HJ.out.blk)
          clear C hP3
          go_wp2_with (with_reducible refine hold_st 29 _ _ rfl ?_)
          apply Lib.hid
          with_reducible refine wpList_store_all rfl 29 _ _ rfl _ ?cs4604u16 ?hx4604u16 ?hy4604u16 _ _ HBB.out ?hf4604u16 _ ?hl4604u16 Try.size29 ?h14604u16 ?_
          case hy4604u16 => exact rfl
          case hx4604u16 => exact rfl
          case hf4604u16 => exact rfl
          case hl4604u16 => exact rfl
          case h14604u16 => simp [allOne, Value.oneCell']
          intro u14 hb14 hg14
          have HJ14 := Lib.hid (show LI w u14 B w1.heap.size (256 * (k + 1)) c3 r3 (g2.step ⟨2, 0, none, 0, 0, 0, 0, false⟩ []) from
            HJ.out.act HP3.out hg14 hb14 (HJ.out.wg.step _ (show 0 < 4294967296 by decide) _) (by rw [step_take_pushed]; exact HJ.out.pl) (by rw [step_take_told]; exact HJ.out.tl))
          have hwm : IntKind.i64.wrap ((m : Int) + 1) = ((m + 1 : Nat) : Int) := by rw [IntKind.wrap_i64]; omega
          clear hb14 hg14
          go_wp2
          go_roundw
          case rel => exact ⟨rfl, m + 1, by omega, rfl, c3, r3, _, HJ14.out⟩
          case measure => simp [intOf]; omega
end Go.Proofs.Ytmdgehpmeikgfaa
