import Derived.Test.YtmdgehpmeikgfaaAC
set_option linter.unusedVariables false
namespace Go.Proofs.Ytmdgehpmeikgfaa
open Go.RowKit
/-- Lines and the document's, each by its own. -/
structure LJ (w0 w : World) (B A : Nat) (c : Lc) (r : Rf) (gl gr : Gh) : Prop where
  ls : LS w B c gl
  rs : RS w r gr
  sep : ∀ k, own c B k → ¬ rrow r k
  blk : w.heap[A]? = some (.cells r.cells 29 (0, 0))
  own : ∀ k, own c B k → w0.heap.size ≤ k
  row : ∀ k, rrow r k → w0.heap.size ≤ k
  new : w0.heap.size ≤ A
  grown : w0.grownBy w none
theorem LJ.kn {w0 w w' : World} {B A : Nat} {c : Lc} {r : Rf} {gl gr : Gh} (h : LJ w0 w B A c r gl gr) (hg : w.grownBy w' none) : LJ w0 w' B A c r gl gr :=
  ⟨h.ls.keptNone hg, h.rs.keptNone hg, h.sep, (hg.block _ (lt_of_block h.blk) (by simp)).trans h.blk, h.own, h.row, h.new, h.grown.trans hg⟩
theorem LJ.line {w0 w w' : World} {B A : Nat} {c c' : Lc} {r : Rf} {gl gr gl' : Gh} (h : LJ w0 w B A c r gl gr) (p : LPost w w' B c c' gl') : LJ w0 w' B A c' r gl' gr :=
  have hsz := h.grown.size
  ⟨p.ls, h.rs.keeps p.keep (fun k hk hk2 => h.sep k hk2 hk), fun k hk hk2 => (p.newl k hk).elim (fun h1 => h.sep k h1 hk2) (fun h1 => by have := h.rs.lt k hk2; omega), (p.keep.block A (lt_of_block h.blk) (h.ls.nown h.blk)).trans h.blk,
    fun k hk => (p.newl k hk).elim (h.own k) (fun h1 => by omega), h.row, h.new, ((Keeps.keep (X := fun k => w0.heap.size ≤ k) h.grown).trans (p.keep.mono (fun i _ hi => h.own i hi))).toGrown (fun i hi hx => by omega)⟩
theorem LJ.ref {w0 w w1 w2 : World} {B A : Nat} {c : Lc} {r r' : Rf} {gl gr gr' : Gh} (h : LJ w0 w B A c r gl gr) (hr : RS w1 r' gr') (hg : w.grownBy w1 none) (hn : ∀ k, rrow r' k → rrow r k ∨ w.heap.size ≤ k) (hs : w1.grownBy w2 (some A)) (hb : w2.heap[A]? = some (.cells r'.cells 29 (0, 0))) : LJ w0 w2 B A c r' gl gr' := by
  have hsz := h.grown.size
  have hA := lt_of_block h.blk
  have hA1 := (hg.block _ hA (by simp)).trans h.blk
  have hk : Keeps (fun k => k = A) w1 w2 := Keeps.row hs rfl
  exact ⟨(h.ls.keptNone hg).keeps hk (fun k hk e => h.ls.nown h.blk (e ▸ hk)), hr.keeps hk (fun k hk e => hr.nrow hA1 (e ▸ hk)), fun k hk hk2 => (hn k hk2).elim (h.sep k hk) (fun h1 => by have := h.ls.lt k hk; omega), hb, h.own, fun k hk => (hn k hk).elim (h.row k) (fun h1 => by omega), h.new,
    grown_new (h.grown.trans hg) hs h.new⟩
theorem rs_raise2 {w : World} {r : Rf} {g : Gh} (up : Bool) (h : RS w r g) : RS w { r with f2 := up } (g.raise 2 up) := ⟨h.al, h.ms, h.f0, h.f1, rfl, h.f3, h.p, h.tk, h.t⟩
theorem rs_raise3 {w : World} {r : Rf} {g : Gh} (up : Bool) (h : RS w r g) : RS w { r with f3 := up } (g.raise 3 up) := ⟨h.al, h.ms, h.f0, h.f1, h.f2, rfl, h.p, h.tk, h.t⟩
theorem mask_ls (B : Nat) (c : Lc) (g : Gh) (m : Int) {w : World} (h : LS w B c g) (hm : (g.mask : Int) = m) : Calls Try.prog 22 #[.pointer (some ⟨B, 0, none⟩)] w fun e w' => e = .returned (.int .u32 m) ∧ w = w' := by
  have := mask_lk B c w h.lk
  rwa [h.ms, hm] at this
theorem max_comm' (x : Int) : max 0 x = max x 0 := by omega
set_option maxRecDepth 100000 in
set_option maxHeartbeats 16000000 in
theorem linesPends_walk (alarm mask : Nat) (ha : alarm < 4294967296) (hm : mask < 4294967296) (waits disk net : Bool) (now : Int) (w : World) :
    Calls Try.prog 3 #[.int .u32 (alarm : Nat), .int .u32 (mask : Nat), .bool waits, .bool disk, .bool net, .int .i64 now] w fun e w' => e = .returned (.bool true) ∧ w.grownBy w' none := by
  go_enter Try.func3, Try.ntmps3
  go_wp2_with fail
  refine (new_any _).mono ?_; rintro e w1 ⟨B, rfl, hB, hT1, hg1⟩
  have H1 := Lib.hid (Wk.start hB hT1 hg1)
  clear hT1 hg1
  go_wp2_with fail
  refine (ls_setAlarm B _ _ alarm _ H1.out.ls).mono ?_; rintro e w2 ⟨rfl, c2, hp⟩
  have H2 := Lib.hid (H1.out.step hp)
  clear hp
  go_wp2_with fail
  refine (ls_setMask B _ _ mask hm _ H2.out.ls).mono ?_; rintro e w3 ⟨rfl, c3, hp⟩
  have H3 := Lib.hid (H2.out.step hp)
  clear hp H1 H2
  go_wp2_with fail
  refine (rsetMask ⟨(alarm : Nat), 0, false, false, false, false, none, 0, 0, 0, none, 0, 0⟩ mask _).mono ?_; rintro e w4 ⟨rfl, hg⟩
  have H4 := Lib.hid ((H3.out.keptNone hg).keptNone (World.grownBy_alloc w4 (.cells Rf.zero.cells 29) none))
  have HN := Lib.hid (heap_alloc_new w4 (.cells Rf.zero.cells 29))
  have hsz := (H3.out.keptNone hg).grown.size
  clear hg H3
  go_wp2_with (with_reducible refine hold_st 29 _ _ rfl ?_)
  apply Lib.hid
  with_reducible refine wpList_store_all rfl 29 _ _ rfl _ ?cs4801 ?hx4801 ?hy4801 _ _ HN.out ?hf4801 _ ?hl4801 Try.size29 ?h14801 ?_
  case hy4801 => exact rfl
  case hx4801 => exact rfl
  case hf4801 => exact rfl
  case hl4801 => exact rfl
  case h14801 => simp [allOne, Value.oneCell']
  intro w5 hb hg
  have H5 := Lib.hid (show LJ w w5 B w4.heap.size c3 ⟨(alarm : Nat), (mask : Int) % 16, false, false, false, false, none, 0, 0, 0, none, 0, 0⟩ ⟨alarm, mask % 16, false, false, [], 0, []⟩ ⟨alarm, mask % 16, false, false, [], 0, []⟩ from by
    have h0 := H4.out.ls.nown HN.out
    exact ⟨H4.out.ls.keeps (Keeps.row (X := fun k => k = w4.heap.size) hg rfl) (fun k hk e => h0 (e ▸ hk)), ⟨rfl, by simp, rfl, rfl, rfl, rfl, .inl ⟨rfl, rfl⟩, rfl, .inl ⟨rfl, rfl⟩⟩, fun k _ h => h.elim (fun e => by cases e) (fun e => by cases e), hb, H4.out.new, fun k h => h.elim (fun e => by cases e) (fun e => by cases e), hsz, grown_new H4.out.grown hg hsz⟩)
  clear hb hg HN H4
  cases waits
  · have H6 := H5
    clear H5
    go_wp2_with fail
    refine (ls_raise B _ _ 2 disk _ H6.out.ls).mono ?_; rintro e w7 ⟨rfl, c7, hp⟩
    have H7 := Lib.hid (H6.out.line hp)
    clear hp
    go_wp2_with fail
    refine (ls_raise B _ _ 3 net _ H7.out.ls).mono ?_; rintro e w8 ⟨rfl, c8, hp⟩
    have H8 := Lib.hid (H7.out.line hp)
    clear hp H7 H6
    go_wp2_with (with_reducible refine hold_ld 29 _ rfl ?_)
    apply Lib.hid
    with_reducible refine wpList_load_blk rfl 29 _ rfl _ ?o4802 ?hx4802 _ _ _ H8.out.blk _ 9 ?hn4802 Try.underlying29 rfl Try.size29 ?_
    case hx4802 => exact rfl
    case hn4802 => exact rfl
    go_wp2_with fail
    refine (rraise_2 ⟨(alarm : Nat), (mask : Int) % 16, false, false, false, false, none, 0, 0, 0, none, 0, 0⟩ disk _).mono ?_; rintro e w9 ⟨rfl, hg⟩
    have HB9 := Lib.hid ((hg.block _ (lt_of_block H8.out.blk) (by simp)).trans H8.out.blk)
    have HG9 := Lib.hid hg
    clear hg
    go_wp2_with (with_reducible refine hold_st 29 _ _ rfl ?_)
    apply Lib.hid
    with_reducible refine wpList_store_all rfl 29 _ _ rfl _ ?cs4803 ?hx4803 ?hy4803 _ _ HB9.out ?hf4803 _ ?hl4803 Try.size29 ?h14803 ?_
    case hy4803 => exact rfl
    case hx4803 => exact rfl
    case hf4803 => exact rfl
    case hl4803 => exact rfl
    case h14803 => simp [allOne, Value.oneCell']
    intro w10 hb hg
    have H10 := Lib.hid (H8.out.ref (rs_raise2 disk (H8.out.rs.keptNone HG9.out)) HG9.out (fun k hk => .inl hk) hg hb)
    clear hb hg HB9 HG9
    go_wp2_with (with_reducible refine hold_ld 29 _ rfl ?_)
    apply Lib.hid
    with_reducible refine wpList_load_blk rfl 29 _ rfl _ ?o4804 ?hx4804 _ _ _ H10.out.blk _ 9 ?hn4804 Try.underlying29 rfl Try.size29 ?_
    case hx4804 => exact rfl
    case hn4804 => exact rfl
    go_wp2_with fail
    refine (rraise_3 ⟨(alarm : Nat), (mask : Int) % 16, false, false, disk, false, none, 0, 0, 0, none, 0, 0⟩ net _).mono ?_; rintro e w11 ⟨rfl, hg⟩
    have HB11 := Lib.hid ((hg.block _ (lt_of_block H10.out.blk) (by simp)).trans H10.out.blk)
    have HG11 := Lib.hid hg
    clear hg
    go_wp2_with (with_reducible refine hold_st 29 _ _ rfl ?_)
    apply Lib.hid
    with_reducible refine wpList_store_all rfl 29 _ _ rfl _ ?cs4805 ?hx4805 ?hy4805 _ _ HB11.out ?hf4805 _ ?hl4805 Try.size29 ?h14805 ?_
    case hy4805 => exact rfl
    case hx4805 => exact rfl
    case hf4805 => exact rfl
    case hl4805 => exact rfl
    case h14805 => simp [allOne, Value.oneCell']
    intro w12 hb hg
    have H12 := Lib.hid (H10.out.ref (rs_raise3 net (H10.out.rs.keptNone HG11.out)) HG11.out (fun k hk => .inl hk) hg hb)
    clear hb hg HB11 HG11
    have HWG := Lib.hid (show WG ⟨alarm, mask % 16, disk, net, [], 0, []⟩ from ⟨ha, Nat.mod_lt _ (by decide), by simp, by simp⟩)
    have H12 := Lib.hid (show LJ w w12 B w4.heap.size c8 ⟨(alarm : Nat), (mask : Int) % 16, false, false, disk, net, none, 0, 0, 0, none, 0, 0⟩ ⟨alarm, mask % 16, disk, net, [], 0, []⟩ ⟨alarm, mask % 16, disk, net, [], 0, []⟩ from H12.out)
    clear H8 H10
    go_wp2_with fail
    refine (pending_ls B _ _ now _ H12.out.ls HWG.out).mono ?_; rintro e w13 ⟨rfl, hg⟩
    have H13 := Lib.hid (H12.out.kn hg)
    have hpo := pendZ_ok (Gh.mask ⟨alarm, mask % 16, disk, net, [], 0, []⟩) (Gh.wantL ⟨alarm, mask % 16, disk, net, [], 0, []⟩ now)
    have hpn := pendZ_n (Gh.mask ⟨alarm, mask % 16, disk, net, [], 0, []⟩) (Gh.wantL ⟨alarm, mask % 16, disk, net, [], 0, []⟩ now)
    rw [hpo, hpn]
    generalize hpz : pendZ (Gh.mask ⟨alarm, mask % 16, disk, net, [], 0, []⟩) (Gh.wantL ⟨alarm, mask % 16, disk, net, [], 0, []⟩ now) = pz at *
    have HPZ := Lib.hid hpz
    clear hg hpo hpn hpz
    go_wp2_with (with_reducible refine hold_ld 29 _ rfl ?_)
    apply Lib.hid
    with_reducible refine wpList_load_blk rfl 29 _ rfl _ ?o4806 ?hx4806 _ _ _ H13.out.blk _ 9 ?hn4806 Try.underlying29 rfl Try.size29 ?_
    case hx4806 => exact rfl
    case hn4806 => exact rfl
    have C4 := rPending_rs ⟨(alarm : Nat), (mask : Int) % 16, false, false, disk, net, none, 0, 0, 0, none, 0, 0⟩ _ now _ H13.out.rs HWG.out
    rw [HPZ.out] at C4
    go_wp2_with fail
    refine C4.mono ?_; rintro e w14 ⟨rfl, hg⟩
    have H14 := Lib.hid (H13.out.kn hg)
    clear hg C4 H13 H12
    have hmx : max 0 pz = max pz 0 := max_comm' pz
    go_wp2
    refine reg_open (none) (n := 38) rfl (by kernel_rfl) ?_
    refine reg_take 0 (some 68) (v := ?_) rfl rfl (by kernel_rfl) (by kernel_rfl) (by kernel_rfl) (fun _ _ _ h => h) (by rfl) ?_ ?_
    rotate_left
    · intro W hW; go_simp; first | done | with_reducible rfl
    try simp only [Act.put, List.setIfInBounds_toArray, List.set_cons_zero, List.set_cons_succ]
    refine reg_take 2 (some 70) (v := ?_) rfl rfl (by kernel_rfl) (by kernel_rfl) (by kernel_rfl) (fun _ _ _ h => h) (by rfl) ?_ ?_
    rotate_left
    · intro W hW; go_simp; first | done | with_reducible rfl
    try simp only [Act.put, List.setIfInBounds_toArray, List.set_cons_zero, List.set_cons_succ]
    refine wpAnyH_ready (rs := [1]) (by kernel_rfl) (by simp) ?_
    refine (AllReadyH.cons (o := { dst := some 69, op := Op.call { callee := Callee.value (Operand.func 19), args := #[Operand.tmp 68], argTypes := #[31] }, type := 3, pos := "near.go:23", after := #[{ on := 0, ground := Ground.data }], guard := none }) rfl (fun K hK => ?_) AllReadyH.nil)
    go_simp
    refine (num_any _ _).mono ?_; rintro e w' ⟨rfl, rfl⟩
    refine reg_same hK ?_
    clear hK K
    try simp only [Act.put, List.setIfInBounds_toArray, List.set_cons_zero, List.set_cons_succ]
    refine wpAnyH_ready (rs := [3]) (by kernel_rfl) (by simp) ?_
    refine (AllReadyH.cons (o := { dst := some 71, op := Op.call { callee := Callee.value (Operand.func 19), args := #[Operand.tmp 70], argTypes := #[31] }, type := 3, pos := "near.go:23", after := #[{ on := 2, ground := Ground.data }, { on := 1, ground := Ground.chain }], guard := none }) rfl (fun K hK => ?_) AllReadyH.nil)
    go_simp
    refine (num_any _ _).mono ?_; rintro e w' ⟨rfl, rfl⟩
    refine reg_same hK ?_
    clear hK K
    try simp only [Act.put, List.setIfInBounds_toArray, List.set_cons_zero, List.set_cons_succ]
    refine reg_take 4 (some 72) (v := ?_) rfl rfl (by kernel_rfl) (by kernel_rfl) (by kernel_rfl) (fun _ _ _ h => h) (by rfl) ?_ ?_
    rotate_left
    · intro W hW; go_simp; first | done | with_reducible rfl
    try simp only [Act.put, List.setIfInBounds_toArray, List.set_cons_zero, List.set_cons_succ]
    refine reg_take 5 (some 73) (v := ?_) rfl rfl (by kernel_rfl) (by kernel_rfl) (by kernel_rfl) (fun _ _ _ h => h) (by rfl) ?_ ?_
    rotate_left
    · intro W hW; go_simp; first | done | with_reducible rfl
    try simp only [Act.put, List.setIfInBounds_toArray, List.set_cons_zero, List.set_cons_succ]
    refine reg_take 6 (some 74) (v := ?_) rfl rfl (by kernel_rfl) (by kernel_rfl) (by kernel_rfl) (fun _ _ _ h => h) (by rfl) ?_ ?_
    rotate_left
    · intro W hW; go_simp; first | done | with_reducible rfl
    try simp only [Act.put, List.setIfInBounds_toArray, List.set_cons_zero, List.set_cons_succ]
    refine reg_take 7 (some 75) (v := ?_) rfl rfl (by kernel_rfl) (by kernel_rfl) (by kernel_rfl) (fun _ _ _ h => h) (by rfl) ?_ ?_
    rotate_left
    · intro W hW; go_simp; first | done | with_reducible rfl
    try simp only [Act.put, List.setIfInBounds_toArray, List.set_cons_zero, List.set_cons_succ]
    refine reg_take 8 (some 76) (v := ?_) rfl rfl (by kernel_rfl) (by kernel_rfl) (by kernel_rfl) (fun _ _ _ h => h) (by rfl) ?_ ?_
    rotate_left
    · intro W hW; go_simp; first | done | with_reducible rfl
    try simp only [Act.put, List.setIfInBounds_toArray, List.set_cons_zero, List.set_cons_succ]
    refine reg_take 10 (some 78) (v := ?_) rfl rfl (by kernel_rfl) (by kernel_rfl) (by kernel_rfl) (fun _ _ _ h => h) (by rfl) ?_ ?_
    rotate_left
    · intro W hW; refine exec_ld29 (x := Operand.tmp 14) ?_ ?_ (((hW).block w4.heap.size (lt_of_block H14.out.blk) (by simp)).trans H14.out.blk) <;> rfl
    try simp only [Act.put, List.setIfInBounds_toArray, List.set_cons_zero, List.set_cons_succ]
    refine reg_take 11 (some 79) (v := ?_) rfl rfl (by kernel_rfl) (by kernel_rfl) (by kernel_rfl) (fun _ _ _ h => h) (by rfl) ?_ ?_
    rotate_left
    · intro W hW; go_simp; first | done | with_reducible rfl
    try simp only [Act.put, List.setIfInBounds_toArray, List.set_cons_zero, List.set_cons_succ]
    refine wpAnyH_ready (rs := [9]) (by kernel_rfl) (by simp) ?_
    refine (AllReadyH.cons (o := { dst := some 77, op := Op.call { callee := Callee.value (Operand.func 20), args := #[Operand.tmp 75, Operand.tmp 76], argTypes := #[23, 2] }, type := 22, pos := "near.go:23", after := #[{ on := 7, ground := Ground.data }, { on := 8, ground := Ground.data }, { on := 6, ground := Ground.chain }, { on := 6, ground := Ground.guard }], guard := some (6, true) }) rfl (fun K hK => ?_) AllReadyH.nil)
    go_simp
    refine (wants_ls B _ _ now _ H14.out.ls.drew HWG.out).mono ?_; rintro e u1 ⟨rfl, h1⟩
    refine reg_next hK h1 ?_
    clear hK K
    try simp only [Act.put, List.setIfInBounds_toArray, List.set_cons_zero, List.set_cons_succ]
    refine wpAnyH_ready (rs := [12]) (by kernel_rfl) (by simp) ?_
    refine (AllReadyH.cons (o := { dst := some 80, op := Op.call { callee := Callee.value (Operand.func 21), args := #[Operand.tmp 78, Operand.tmp 79], argTypes := #[29, 2] }, type := 22, pos := "near.go:23", after := #[{ on := 10, ground := Ground.data }, { on := 11, ground := Ground.data }, { on := 9, ground := Ground.chain }, { on := 6, ground := Ground.guard }], guard := some (6, true) }) rfl (fun K hK => ?_) AllReadyH.nil)
    go_simp
    refine (rWants_rs ⟨(alarm : Nat), (mask : Int) % 16, false, false, disk, net, none, 0, 0, 0, none, 0, 0⟩ _ now _ (H14.out.rs.keptNone (drewl h1)) HWG.out).mono ?_; rintro e u2 ⟨rfl, h2⟩
    refine reg_next hK h2 ?_
    clear hK K
    try simp only [Act.put, List.setIfInBounds_toArray, List.set_cons_zero, List.set_cons_succ]
    refine reg_take 13 (some 81) (v := ?_) rfl rfl (by kernel_rfl) (by kernel_rfl) (by kernel_rfl) (fun _ _ _ h => h) (by rfl) ?_ ?_
    rotate_left
    · intro W hW; go_simp; first | done | with_reducible rfl
    try simp only [Act.put, List.setIfInBounds_toArray, List.set_cons_zero, List.set_cons_succ]
    refine reg_take 14 (some 82) (v := ?_) rfl rfl (by kernel_rfl) (by kernel_rfl) (by kernel_rfl) (fun _ _ _ h => h) (by rfl) ?_ ?_
    rotate_left
    · intro W hW; go_simp; first | done | with_reducible rfl
    try simp only [Act.put, List.setIfInBounds_toArray, List.set_cons_zero, List.set_cons_succ]
    refine reg_take 15 (some 83) (v := ?_) rfl rfl (by kernel_rfl) (by kernel_rfl) (by kernel_rfl) (fun _ _ _ h => h) (by rfl) ?_ ?_
    rotate_left
    · intro W hW; go_simp; first | done | with_reducible rfl
    try simp only [Act.put, List.setIfInBounds_toArray, List.set_cons_zero, List.set_cons_succ]
    refine reg_take 16 (some 84) (v := ?_) rfl rfl (by kernel_rfl) (by kernel_rfl) (by kernel_rfl) (fun _ _ _ h => h) (by rfl) ?_ ?_
    rotate_left
    · intro W hW; go_simp; first | done | with_reducible rfl
    try simp only [Act.put, List.setIfInBounds_toArray, List.set_cons_zero, List.set_cons_succ]
    refine reg_take 18 (some 86) (v := ?_) rfl rfl (by kernel_rfl) (by kernel_rfl) (by kernel_rfl) (fun _ _ _ h => h) (by rfl) ?_ ?_
    rotate_left
    · intro W hW; go_simp; first | done | with_reducible rfl
    try simp only [Act.put, List.setIfInBounds_toArray, List.set_cons_zero, List.set_cons_succ]
    refine reg_take 19 (some 87) (v := ?_) rfl rfl (by kernel_rfl) (by kernel_rfl) (by kernel_rfl) (fun _ _ _ h => h) (by rfl) ?_ ?_
    rotate_left
    · intro W hW; have k := cells_all ((((h1.trans (h2.trans hW))).block w4.heap.size (lt_of_block H14.out.blk) (by simp)).trans H14.out.blk) 1; go_simp; first | done | with_reducible rfl
    try simp only [Act.put, List.setIfInBounds_toArray, List.set_cons_zero, List.set_cons_succ]
    refine wpAnyH_ready (rs := [17]) (by kernel_rfl) (by simp) ?_
    refine (AllReadyH.cons (o := { dst := some 85, op := Op.call { callee := Callee.value (Operand.func 22), args := #[Operand.tmp 84], argTypes := #[23] }, type := 22, pos := "near.go:23", after := #[{ on := 16, ground := Ground.data }, { on := 15, ground := Ground.chain }, { on := 15, ground := Ground.guard }], guard := some (15, true) }) rfl (fun K hK => ?_) AllReadyH.nil)
    go_simp
    refine (mask_ls B _ _ ((mask : Int) % 16) (H14.out.ls.keptNone (drewl (h1.trans h2))) (by simp)).mono ?_; rintro e w' ⟨rfl, rfl⟩
    refine reg_same hK ?_
    clear hK K
    try simp only [Act.put, List.setIfInBounds_toArray, List.set_cons_zero, List.set_cons_succ]
    refine reg_take 20 (some 88) (v := ?_) rfl rfl (by kernel_rfl) (by kernel_rfl) (by kernel_rfl) (fun _ _ _ h => h) (by rfl) ?_ ?_
    rotate_left
    · intro W hW; go_simp; first | done | with_reducible rfl
    try simp only [Act.put, List.setIfInBounds_toArray, List.set_cons_zero, List.set_cons_succ]
    refine reg_take 21 (some 89) (v := ?_) rfl rfl (by kernel_rfl) (by kernel_rfl) (by kernel_rfl) (fun _ _ _ h => h) (by rfl) ?_ ?_
    rotate_left
    · intro W hW; go_simp; first | done | with_reducible rfl
    try simp only [Act.put, List.setIfInBounds_toArray, List.set_cons_zero, List.set_cons_succ]
    refine reg_take 22 (some 90) (v := ?_) rfl rfl (by kernel_rfl) (by kernel_rfl) (by kernel_rfl) (fun _ _ _ h => h) (by rfl) ?_ ?_
    rotate_left
    · intro W hW; go_simp; first | done | with_reducible rfl
    try simp only [Act.put, List.setIfInBounds_toArray, List.set_cons_zero, List.set_cons_succ]
    refine reg_take 23 (some 91) (v := ?_) rfl rfl (by kernel_rfl) (by kernel_rfl) (by kernel_rfl) (fun _ _ _ h => h) (by rfl) ?_ ?_
    rotate_left
    · intro W hW; go_simp; first | done | with_reducible rfl
    try simp only [Act.put, List.setIfInBounds_toArray, List.set_cons_zero, List.set_cons_succ]
    refine reg_take 24 (some 92) (v := ?_) rfl rfl (by kernel_rfl) (by kernel_rfl) (by kernel_rfl) (fun _ _ _ h => h) (by rfl) ?_ ?_
    rotate_left
    · intro W hW; go_simp; first | done | with_reducible rfl
    try simp only [Act.put, List.setIfInBounds_toArray, List.set_cons_zero, List.set_cons_succ]
    refine reg_take 25 (some 93) (v := ?_) rfl rfl (by kernel_rfl) (by kernel_rfl) (by kernel_rfl) (fun _ _ _ h => h) (by rfl) ?_ ?_
    rotate_left
    · intro W hW; go_simp; first | done | with_reducible rfl
    try simp only [Act.put, List.setIfInBounds_toArray, List.set_cons_zero, List.set_cons_succ]
    refine reg_take 26 (some 94) (v := ?_) rfl rfl (by kernel_rfl) (by kernel_rfl) (by kernel_rfl) (fun _ _ _ h => h) (by rfl) ?_ ?_
    rotate_left
    · intro W hW; go_simp; first | done | with_reducible rfl
    try simp only [Act.put, List.setIfInBounds_toArray, List.set_cons_zero, List.set_cons_succ]
    refine reg_take 27 (some 95) (v := ?_) rfl rfl (by kernel_rfl) (by kernel_rfl) (by kernel_rfl) (fun _ _ _ h => h) (by rfl) ?_ ?_
    rotate_left
    · intro W hW; go_simp; first | done | with_reducible rfl
    try simp only [Act.put, List.setIfInBounds_toArray, List.set_cons_zero, List.set_cons_succ]
    refine reg_take 28 (some 96) (v := ?_) rfl rfl (by kernel_rfl) (by kernel_rfl) (by kernel_rfl) (fun _ _ _ h => h) (by rfl) ?_ ?_
    rotate_left
    · intro W hW; go_simp; first | done | with_reducible rfl
    try simp only [Act.put, List.setIfInBounds_toArray, List.set_cons_zero, List.set_cons_succ]
    refine reg_take 29 (some 97) (v := ?_) rfl rfl (by kernel_rfl) (by kernel_rfl) (by kernel_rfl) (fun _ _ _ h => h) (by rfl) ?_ ?_
    rotate_left
    · intro W hW; go_simp; first | done | with_reducible rfl
    try simp only [Act.put, List.setIfInBounds_toArray, List.set_cons_zero, List.set_cons_succ]
    refine reg_take 30 (some 98) (v := ?_) rfl rfl (by kernel_rfl) (by kernel_rfl) (by kernel_rfl) (fun _ _ _ h => h) (by rfl) ?_ ?_
    rotate_left
    · intro W hW; go_simp; first | done | with_reducible rfl
    try simp only [Act.put, List.setIfInBounds_toArray, List.set_cons_zero, List.set_cons_succ]
    refine reg_take 31 (some 99) (v := ?_) rfl rfl (by kernel_rfl) (by kernel_rfl) (by kernel_rfl) (fun _ _ _ h => h) (by rfl) ?_ ?_
    rotate_left
    · intro W hW; go_simp; first | done | with_reducible rfl
    try simp only [Act.put, List.setIfInBounds_toArray, List.set_cons_zero, List.set_cons_succ]
    refine reg_take 32 (some 100) (v := ?_) rfl rfl (by kernel_rfl) (by kernel_rfl) (by kernel_rfl) (fun _ _ _ h => h) (by rfl) ?_ ?_
    rotate_left
    · intro W hW; go_simp; first | done | with_reducible rfl
    try simp only [Act.put, List.setIfInBounds_toArray, List.set_cons_zero, List.set_cons_succ]
    refine reg_take 33 (some 101) (v := ?_) rfl rfl (by kernel_rfl) (by kernel_rfl) (by kernel_rfl) (fun _ _ _ h => h) (by rfl) ?_ ?_
    rotate_left
    · intro W hW; go_simp; first | done | with_reducible rfl
    try simp only [Act.put, List.setIfInBounds_toArray, List.set_cons_zero, List.set_cons_succ]
    refine reg_take 34 (some 102) (v := ?_) rfl rfl (by kernel_rfl) (by kernel_rfl) (by kernel_rfl) (fun _ _ _ h => h) (by rfl) ?_ ?_
    rotate_left
    · intro W hW; go_simp; first | done | with_reducible rfl
    try simp only [Act.put, List.setIfInBounds_toArray, List.set_cons_zero, List.set_cons_succ]
    refine wpAnyH_ready (rs := [35]) (by kernel_rfl) (by simp) ?_
    refine (AllReadyH.cons (o := { dst := some 103, op := Op.call { callee := Callee.value (Operand.func 23), args := #[], argTypes := #[] }, type := 4, pos := "near.go:23", after := #[{ on := 34, ground := Ground.chain }, { on := 34, ground := Ground.guard }], guard := some (34, true) }) rfl (fun K hK => ?_) AllReadyH.nil)
    go_simp
    refine (works_any _).mono ?_; rintro e u4 ⟨rfl, h4⟩
    refine reg_next hK h4 ?_
    clear hK K
    try simp only [Act.put, List.setIfInBounds_toArray, List.set_cons_zero, List.set_cons_succ]
    refine reg_take 36 (some 104) (v := ?_) rfl rfl (by kernel_rfl) (by kernel_rfl) (by kernel_rfl) (fun _ _ _ h => h) (by rfl) ?_ ?_
    rotate_left
    · intro W hW; go_simp; first | done | with_reducible rfl
    try simp only [Act.put, List.setIfInBounds_toArray, List.set_cons_zero, List.set_cons_succ]
    refine reg_take 37 (some 12) (v := ?_) rfl rfl (by kernel_rfl) (by kernel_rfl) (by kernel_rfl) (fun _ _ _ h => h) (by rfl) ?_ ?_
    rotate_left
    · intro W hW; go_simp; first | done | with_reducible rfl
    try simp only [Act.put, List.setIfInBounds_toArray, List.set_cons_zero, List.set_cons_succ]
    refine wpAnyH_done (by kernel_rfl) ?_ _
    have HG := Lib.hid (H14.out.grown.trans (drewl (h1.trans (h2.trans h4))))
    clear h1 h2 h4
    go_wp2
    go_ret
    exact ⟨rfl, HG.out⟩
  · have hga := World.grownBy_alloc w5 (.cells #[.int .u8 1] 5) none
    have hX : Go.Proofs.Ytmdgehpmeikgfaa.Src (w5.alloc (.cells #[.int .u8 1] 5)) (some ⟨w5.heap.size, 0, none⟩) [1] := (Row.new w5 [1] (by decide)).src
    have Ha := Lib.hid (H5.out.kn hga)
    have HX := Lib.hid hX
    have HWG0 := Lib.hid (show WG ⟨alarm, mask % 16, false, false, [], 0, []⟩ from ⟨ha, Nat.mod_lt _ (by decide), by simp, by simp⟩)
    clear hga hX
    go_wp2_with fail
    refine (ls_push_ok B _ _ [1] _ 1 _ Ha.out.ls HWG0.out HX.out (by simp) (by simp)).mono ?_; rintro e wb ⟨rfl, cb, hp⟩
    have Hb := Lib.hid (Ha.out.line hp)
    clear hp HX Ha H5
    go_wp2_with (with_reducible refine hold_ld 29 _ rfl ?_)
    apply Lib.hid
    with_reducible refine wpList_load_blk rfl 29 _ rfl _ ?o4807 ?hx4807 _ _ _ Hb.out.blk _ 9 ?hn4807 Try.underlying29 rfl Try.size29 ?_
    case hx4807 => exact rfl
    case hn4807 => exact rfl
    have hgc := World.grownBy_alloc wb (.cells #[.int .u8 1] 5) none
    have hX : Go.Proofs.Ytmdgehpmeikgfaa.Src (wb.alloc (.cells #[.int .u8 1] 5)) (some ⟨wb.heap.size, 0, none⟩) [1] := (Row.new wb [1] (by decide)).src
    have Hc := Lib.hid (Hb.out.kn hgc)
    have HX := Lib.hid hX
    clear hgc hX
    go_wp2_with fail
    refine (rpush_ok ⟨(alarm : Nat), (mask : Int) % 16, false, false, false, false, none, 0, 0, 0, none, 0, 0⟩ 0 Hc.out.rs.tk (by rw [Hc.out.rs.pn]; simp) [] [1] _ 1 _ Hc.out.rs.p HX.out (by simp) (by rw [Hc.out.rs.pn]; simp)).mono ?_; rintro e wd ⟨pa, pc, rfl, hP, hg, hnew⟩
    have HBd := Lib.hid ((hg.block _ (lt_of_block Hc.out.blk) (by simp)).trans Hc.out.blk)
    have HPd := Lib.hid hP
    have HGd := Lib.hid hg
    have HNd := Lib.hid hnew
    clear hP hg hnew
    go_wp2_with (with_reducible refine hold_st 29 _ _ rfl ?_)
    apply Lib.hid
    with_reducible refine wpList_store_all rfl 29 _ _ rfl _ ?cs4808 ?hx4808 ?hy4808 _ _ HBd.out ?hf4808 _ ?hl4808 Try.size29 ?h14808 ?_
    case hy4808 => exact rfl
    case hx4808 => exact rfl
    case hf4808 => exact rfl
    case hl4808 => exact rfl
    case h14808 => simp [allOne, Value.oneCell']
    intro w6 hb hg
    have H6 := Lib.hid (Hc.out.ref (r' := ⟨(alarm : Nat), (mask : Int) % 16, false, false, false, false, pa, 1, pc, 0, none, 0, 0⟩) (gr' := ⟨alarm, mask % 16, false, false, [1], 0, []⟩) ⟨rfl, by simp, rfl, rfl, rfl, rfl, HPd.out, rfl, .inl ⟨rfl, rfl⟩⟩ HGd.out (fun k hk => hk.elim (fun h => .inr (HNd.out k h)) (fun h => .inl (.inr h))) hg hb)
    clear hb hg HBd HPd HGd HNd Hc Hb
    go_wp2_with fail
    refine (ls_raise B _ _ 2 disk _ H6.out.ls).mono ?_; rintro e w7 ⟨rfl, c7, hp⟩
    have H7 := Lib.hid (H6.out.line hp)
    clear hp
    go_wp2_with fail
    refine (ls_raise B _ _ 3 net _ H7.out.ls).mono ?_; rintro e w8 ⟨rfl, c8, hp⟩
    have H8 := Lib.hid (H7.out.line hp)
    clear hp H7 H6
    go_wp2_with (with_reducible refine hold_ld 29 _ rfl ?_)
    apply Lib.hid
    with_reducible refine wpList_load_blk rfl 29 _ rfl _ ?o4809 ?hx4809 _ _ _ H8.out.blk _ 9 ?hn4809 Try.underlying29 rfl Try.size29 ?_
    case hx4809 => exact rfl
    case hn4809 => exact rfl
    go_wp2_with fail
    refine (rraise_2 ⟨(alarm : Nat), (mask : Int) % 16, false, false, false, false, pa, 1, pc, 0, none, 0, 0⟩ disk _).mono ?_; rintro e w9 ⟨rfl, hg⟩
    have HB9 := Lib.hid ((hg.block _ (lt_of_block H8.out.blk) (by simp)).trans H8.out.blk)
    have HG9 := Lib.hid hg
    clear hg
    go_wp2_with (with_reducible refine hold_st 29 _ _ rfl ?_)
    apply Lib.hid
    with_reducible refine wpList_store_all rfl 29 _ _ rfl _ ?cs4810 ?hx4810 ?hy4810 _ _ HB9.out ?hf4810 _ ?hl4810 Try.size29 ?h14810 ?_
    case hy4810 => exact rfl
    case hx4810 => exact rfl
    case hf4810 => exact rfl
    case hl4810 => exact rfl
    case h14810 => simp [allOne, Value.oneCell']
    intro w10 hb hg
    have H10 := Lib.hid (H8.out.ref (rs_raise2 disk (H8.out.rs.keptNone HG9.out)) HG9.out (fun k hk => .inl hk) hg hb)
    clear hb hg HB9 HG9
    go_wp2_with (with_reducible refine hold_ld 29 _ rfl ?_)
    apply Lib.hid
    with_reducible refine wpList_load_blk rfl 29 _ rfl _ ?o4811 ?hx4811 _ _ _ H10.out.blk _ 9 ?hn4811 Try.underlying29 rfl Try.size29 ?_
    case hx4811 => exact rfl
    case hn4811 => exact rfl
    go_wp2_with fail
    refine (rraise_3 ⟨(alarm : Nat), (mask : Int) % 16, false, false, disk, false, pa, 1, pc, 0, none, 0, 0⟩ net _).mono ?_; rintro e w11 ⟨rfl, hg⟩
    have HB11 := Lib.hid ((hg.block _ (lt_of_block H10.out.blk) (by simp)).trans H10.out.blk)
    have HG11 := Lib.hid hg
    clear hg
    go_wp2_with (with_reducible refine hold_st 29 _ _ rfl ?_)
    apply Lib.hid
    with_reducible refine wpList_store_all rfl 29 _ _ rfl _ ?cs4812 ?hx4812 ?hy4812 _ _ HB11.out ?hf4812 _ ?hl4812 Try.size29 ?h14812 ?_
    case hy4812 => exact rfl
    case hx4812 => exact rfl
    case hf4812 => exact rfl
    case hl4812 => exact rfl
    case h14812 => simp [allOne, Value.oneCell']
    intro w12 hb hg
    have H12 := Lib.hid (H10.out.ref (rs_raise3 net (H10.out.rs.keptNone HG11.out)) HG11.out (fun k hk => .inl hk) hg hb)
    clear hb hg HB11 HG11
    have HWG := Lib.hid (show WG ⟨alarm, mask % 16, disk, net, [1], 0, []⟩ from ⟨ha, Nat.mod_lt _ (by decide), by simp, by simp⟩)
    have H12 := Lib.hid (show LJ w w12 B w4.heap.size c8 ⟨(alarm : Nat), (mask : Int) % 16, false, false, disk, net, pa, 1, pc, 0, none, 0, 0⟩ ⟨alarm, mask % 16, disk, net, [1], 0, []⟩ ⟨alarm, mask % 16, disk, net, [1], 0, []⟩ from H12.out)
    clear H8 H10
    go_wp2_with fail
    refine (pending_ls B _ _ now _ H12.out.ls HWG.out).mono ?_; rintro e w13 ⟨rfl, hg⟩
    have H13 := Lib.hid (H12.out.kn hg)
    have hpo := pendZ_ok (Gh.mask ⟨alarm, mask % 16, disk, net, [1], 0, []⟩) (Gh.wantL ⟨alarm, mask % 16, disk, net, [1], 0, []⟩ now)
    have hpn := pendZ_n (Gh.mask ⟨alarm, mask % 16, disk, net, [1], 0, []⟩) (Gh.wantL ⟨alarm, mask % 16, disk, net, [1], 0, []⟩ now)
    rw [hpo, hpn]
    generalize hpz : pendZ (Gh.mask ⟨alarm, mask % 16, disk, net, [1], 0, []⟩) (Gh.wantL ⟨alarm, mask % 16, disk, net, [1], 0, []⟩ now) = pz at *
    have HPZ := Lib.hid hpz
    clear hg hpo hpn hpz
    go_wp2_with (with_reducible refine hold_ld 29 _ rfl ?_)
    apply Lib.hid
    with_reducible refine wpList_load_blk rfl 29 _ rfl _ ?o4813 ?hx4813 _ _ _ H13.out.blk _ 9 ?hn4813 Try.underlying29 rfl Try.size29 ?_
    case hx4813 => exact rfl
    case hn4813 => exact rfl
    have C4 := rPending_rs ⟨(alarm : Nat), (mask : Int) % 16, false, false, disk, net, pa, 1, pc, 0, none, 0, 0⟩ _ now _ H13.out.rs HWG.out
    rw [HPZ.out] at C4
    go_wp2_with fail
    refine C4.mono ?_; rintro e w14 ⟨rfl, hg⟩
    have H14 := Lib.hid (H13.out.kn hg)
    clear hg C4 H13 H12
    have hmx : max 0 pz = max pz 0 := max_comm' pz
    go_wp2
    refine reg_open (none) (n := 38) rfl (by kernel_rfl) ?_
    refine reg_take 0 (some 68) (v := ?_) rfl rfl (by kernel_rfl) (by kernel_rfl) (by kernel_rfl) (fun _ _ _ h => h) (by rfl) ?_ ?_
    rotate_left
    · intro W hW; go_simp; first | done | with_reducible rfl
    try simp only [Act.put, List.setIfInBounds_toArray, List.set_cons_zero, List.set_cons_succ]
    refine reg_take 2 (some 70) (v := ?_) rfl rfl (by kernel_rfl) (by kernel_rfl) (by kernel_rfl) (fun _ _ _ h => h) (by rfl) ?_ ?_
    rotate_left
    · intro W hW; go_simp; first | done | with_reducible rfl
    try simp only [Act.put, List.setIfInBounds_toArray, List.set_cons_zero, List.set_cons_succ]
    refine wpAnyH_ready (rs := [1]) (by kernel_rfl) (by simp) ?_
    refine (AllReadyH.cons (o := { dst := some 69, op := Op.call { callee := Callee.value (Operand.func 19), args := #[Operand.tmp 68], argTypes := #[31] }, type := 3, pos := "near.go:23", after := #[{ on := 0, ground := Ground.data }], guard := none }) rfl (fun K hK => ?_) AllReadyH.nil)
    go_simp
    refine (num_any _ _).mono ?_; rintro e w' ⟨rfl, rfl⟩
    refine reg_same hK ?_
    clear hK K
    try simp only [Act.put, List.setIfInBounds_toArray, List.set_cons_zero, List.set_cons_succ]
    refine wpAnyH_ready (rs := [3]) (by kernel_rfl) (by simp) ?_
    refine (AllReadyH.cons (o := { dst := some 71, op := Op.call { callee := Callee.value (Operand.func 19), args := #[Operand.tmp 70], argTypes := #[31] }, type := 3, pos := "near.go:23", after := #[{ on := 2, ground := Ground.data }, { on := 1, ground := Ground.chain }], guard := none }) rfl (fun K hK => ?_) AllReadyH.nil)
    go_simp
    refine (num_any _ _).mono ?_; rintro e w' ⟨rfl, rfl⟩
    refine reg_same hK ?_
    clear hK K
    try simp only [Act.put, List.setIfInBounds_toArray, List.set_cons_zero, List.set_cons_succ]
    refine reg_take 4 (some 72) (v := ?_) rfl rfl (by kernel_rfl) (by kernel_rfl) (by kernel_rfl) (fun _ _ _ h => h) (by rfl) ?_ ?_
    rotate_left
    · intro W hW; go_simp; first | done | with_reducible rfl
    try simp only [Act.put, List.setIfInBounds_toArray, List.set_cons_zero, List.set_cons_succ]
    refine reg_take 5 (some 73) (v := ?_) rfl rfl (by kernel_rfl) (by kernel_rfl) (by kernel_rfl) (fun _ _ _ h => h) (by rfl) ?_ ?_
    rotate_left
    · intro W hW; go_simp; first | done | with_reducible rfl
    try simp only [Act.put, List.setIfInBounds_toArray, List.set_cons_zero, List.set_cons_succ]
    refine reg_take 6 (some 74) (v := ?_) rfl rfl (by kernel_rfl) (by kernel_rfl) (by kernel_rfl) (fun _ _ _ h => h) (by rfl) ?_ ?_
    rotate_left
    · intro W hW; go_simp; first | done | with_reducible rfl
    try simp only [Act.put, List.setIfInBounds_toArray, List.set_cons_zero, List.set_cons_succ]
    refine reg_take 7 (some 75) (v := ?_) rfl rfl (by kernel_rfl) (by kernel_rfl) (by kernel_rfl) (fun _ _ _ h => h) (by rfl) ?_ ?_
    rotate_left
    · intro W hW; go_simp; first | done | with_reducible rfl
    try simp only [Act.put, List.setIfInBounds_toArray, List.set_cons_zero, List.set_cons_succ]
    refine reg_take 8 (some 76) (v := ?_) rfl rfl (by kernel_rfl) (by kernel_rfl) (by kernel_rfl) (fun _ _ _ h => h) (by rfl) ?_ ?_
    rotate_left
    · intro W hW; go_simp; first | done | with_reducible rfl
    try simp only [Act.put, List.setIfInBounds_toArray, List.set_cons_zero, List.set_cons_succ]
    refine reg_take 10 (some 78) (v := ?_) rfl rfl (by kernel_rfl) (by kernel_rfl) (by kernel_rfl) (fun _ _ _ h => h) (by rfl) ?_ ?_
    rotate_left
    · intro W hW; refine exec_ld29 (x := Operand.tmp 14) ?_ ?_ (((hW).block w4.heap.size (lt_of_block H14.out.blk) (by simp)).trans H14.out.blk) <;> rfl
    try simp only [Act.put, List.setIfInBounds_toArray, List.set_cons_zero, List.set_cons_succ]
    refine reg_take 11 (some 79) (v := ?_) rfl rfl (by kernel_rfl) (by kernel_rfl) (by kernel_rfl) (fun _ _ _ h => h) (by rfl) ?_ ?_
    rotate_left
    · intro W hW; go_simp; first | done | with_reducible rfl
    try simp only [Act.put, List.setIfInBounds_toArray, List.set_cons_zero, List.set_cons_succ]
    refine wpAnyH_ready (rs := [9]) (by kernel_rfl) (by simp) ?_
    refine (AllReadyH.cons (o := { dst := some 77, op := Op.call { callee := Callee.value (Operand.func 20), args := #[Operand.tmp 75, Operand.tmp 76], argTypes := #[23, 2] }, type := 22, pos := "near.go:23", after := #[{ on := 7, ground := Ground.data }, { on := 8, ground := Ground.data }, { on := 6, ground := Ground.chain }, { on := 6, ground := Ground.guard }], guard := some (6, true) }) rfl (fun K hK => ?_) AllReadyH.nil)
    go_simp
    refine (wants_ls B _ _ now _ H14.out.ls.drew HWG.out).mono ?_; rintro e u1 ⟨rfl, h1⟩
    refine reg_next hK h1 ?_
    clear hK K
    try simp only [Act.put, List.setIfInBounds_toArray, List.set_cons_zero, List.set_cons_succ]
    refine wpAnyH_ready (rs := [12]) (by kernel_rfl) (by simp) ?_
    refine (AllReadyH.cons (o := { dst := some 80, op := Op.call { callee := Callee.value (Operand.func 21), args := #[Operand.tmp 78, Operand.tmp 79], argTypes := #[29, 2] }, type := 22, pos := "near.go:23", after := #[{ on := 10, ground := Ground.data }, { on := 11, ground := Ground.data }, { on := 9, ground := Ground.chain }, { on := 6, ground := Ground.guard }], guard := some (6, true) }) rfl (fun K hK => ?_) AllReadyH.nil)
    go_simp
    refine (rWants_rs ⟨(alarm : Nat), (mask : Int) % 16, false, false, disk, net, pa, 1, pc, 0, none, 0, 0⟩ _ now _ (H14.out.rs.keptNone (drewl h1)) HWG.out).mono ?_; rintro e u2 ⟨rfl, h2⟩
    refine reg_next hK h2 ?_
    clear hK K
    try simp only [Act.put, List.setIfInBounds_toArray, List.set_cons_zero, List.set_cons_succ]
    refine reg_take 13 (some 81) (v := ?_) rfl rfl (by kernel_rfl) (by kernel_rfl) (by kernel_rfl) (fun _ _ _ h => h) (by rfl) ?_ ?_
    rotate_left
    · intro W hW; go_simp; first | done | with_reducible rfl
    try simp only [Act.put, List.setIfInBounds_toArray, List.set_cons_zero, List.set_cons_succ]
    refine reg_take 14 (some 82) (v := ?_) rfl rfl (by kernel_rfl) (by kernel_rfl) (by kernel_rfl) (fun _ _ _ h => h) (by rfl) ?_ ?_
    rotate_left
    · intro W hW; go_simp; first | done | with_reducible rfl
    try simp only [Act.put, List.setIfInBounds_toArray, List.set_cons_zero, List.set_cons_succ]
    refine reg_take 15 (some 83) (v := ?_) rfl rfl (by kernel_rfl) (by kernel_rfl) (by kernel_rfl) (fun _ _ _ h => h) (by rfl) ?_ ?_
    rotate_left
    · intro W hW; go_simp; first | done | with_reducible rfl
    try simp only [Act.put, List.setIfInBounds_toArray, List.set_cons_zero, List.set_cons_succ]
    refine reg_take 16 (some 84) (v := ?_) rfl rfl (by kernel_rfl) (by kernel_rfl) (by kernel_rfl) (fun _ _ _ h => h) (by rfl) ?_ ?_
    rotate_left
    · intro W hW; go_simp; first | done | with_reducible rfl
    try simp only [Act.put, List.setIfInBounds_toArray, List.set_cons_zero, List.set_cons_succ]
    refine reg_take 18 (some 86) (v := ?_) rfl rfl (by kernel_rfl) (by kernel_rfl) (by kernel_rfl) (fun _ _ _ h => h) (by rfl) ?_ ?_
    rotate_left
    · intro W hW; go_simp; first | done | with_reducible rfl
    try simp only [Act.put, List.setIfInBounds_toArray, List.set_cons_zero, List.set_cons_succ]
    refine reg_take 19 (some 87) (v := ?_) rfl rfl (by kernel_rfl) (by kernel_rfl) (by kernel_rfl) (fun _ _ _ h => h) (by rfl) ?_ ?_
    rotate_left
    · intro W hW; have k := cells_all ((((h1.trans (h2.trans hW))).block w4.heap.size (lt_of_block H14.out.blk) (by simp)).trans H14.out.blk) 1; go_simp; first | done | with_reducible rfl
    try simp only [Act.put, List.setIfInBounds_toArray, List.set_cons_zero, List.set_cons_succ]
    refine wpAnyH_ready (rs := [17]) (by kernel_rfl) (by simp) ?_
    refine (AllReadyH.cons (o := { dst := some 85, op := Op.call { callee := Callee.value (Operand.func 22), args := #[Operand.tmp 84], argTypes := #[23] }, type := 22, pos := "near.go:23", after := #[{ on := 16, ground := Ground.data }, { on := 15, ground := Ground.chain }, { on := 15, ground := Ground.guard }], guard := some (15, true) }) rfl (fun K hK => ?_) AllReadyH.nil)
    go_simp
    refine (mask_ls B _ _ ((mask : Int) % 16) (H14.out.ls.keptNone (drewl (h1.trans h2))) (by simp)).mono ?_; rintro e w' ⟨rfl, rfl⟩
    refine reg_same hK ?_
    clear hK K
    try simp only [Act.put, List.setIfInBounds_toArray, List.set_cons_zero, List.set_cons_succ]
    refine reg_take 20 (some 88) (v := ?_) rfl rfl (by kernel_rfl) (by kernel_rfl) (by kernel_rfl) (fun _ _ _ h => h) (by rfl) ?_ ?_
    rotate_left
    · intro W hW; go_simp; first | done | with_reducible rfl
    try simp only [Act.put, List.setIfInBounds_toArray, List.set_cons_zero, List.set_cons_succ]
    refine reg_take 21 (some 89) (v := ?_) rfl rfl (by kernel_rfl) (by kernel_rfl) (by kernel_rfl) (fun _ _ _ h => h) (by rfl) ?_ ?_
    rotate_left
    · intro W hW; go_simp; first | done | with_reducible rfl
    try simp only [Act.put, List.setIfInBounds_toArray, List.set_cons_zero, List.set_cons_succ]
    refine reg_take 22 (some 90) (v := ?_) rfl rfl (by kernel_rfl) (by kernel_rfl) (by kernel_rfl) (fun _ _ _ h => h) (by rfl) ?_ ?_
    rotate_left
    · intro W hW; go_simp; first | done | with_reducible rfl
    try simp only [Act.put, List.setIfInBounds_toArray, List.set_cons_zero, List.set_cons_succ]
    refine reg_take 23 (some 91) (v := ?_) rfl rfl (by kernel_rfl) (by kernel_rfl) (by kernel_rfl) (fun _ _ _ h => h) (by rfl) ?_ ?_
    rotate_left
    · intro W hW; go_simp; first | done | with_reducible rfl
    try simp only [Act.put, List.setIfInBounds_toArray, List.set_cons_zero, List.set_cons_succ]
    refine reg_take 24 (some 92) (v := ?_) rfl rfl (by kernel_rfl) (by kernel_rfl) (by kernel_rfl) (fun _ _ _ h => h) (by rfl) ?_ ?_
    rotate_left
    · intro W hW; go_simp; first | done | with_reducible rfl
    try simp only [Act.put, List.setIfInBounds_toArray, List.set_cons_zero, List.set_cons_succ]
    refine reg_take 25 (some 93) (v := ?_) rfl rfl (by kernel_rfl) (by kernel_rfl) (by kernel_rfl) (fun _ _ _ h => h) (by rfl) ?_ ?_
    rotate_left
    · intro W hW; go_simp; first | done | with_reducible rfl
    try simp only [Act.put, List.setIfInBounds_toArray, List.set_cons_zero, List.set_cons_succ]
    refine reg_take 26 (some 94) (v := ?_) rfl rfl (by kernel_rfl) (by kernel_rfl) (by kernel_rfl) (fun _ _ _ h => h) (by rfl) ?_ ?_
    rotate_left
    · intro W hW; go_simp; first | done | with_reducible rfl
    try simp only [Act.put, List.setIfInBounds_toArray, List.set_cons_zero, List.set_cons_succ]
    refine reg_take 27 (some 95) (v := ?_) rfl rfl (by kernel_rfl) (by kernel_rfl) (by kernel_rfl) (fun _ _ _ h => h) (by rfl) ?_ ?_
    rotate_left
    · intro W hW; go_simp; first | done | with_reducible rfl
    try simp only [Act.put, List.setIfInBounds_toArray, List.set_cons_zero, List.set_cons_succ]
    refine reg_take 28 (some 96) (v := ?_) rfl rfl (by kernel_rfl) (by kernel_rfl) (by kernel_rfl) (fun _ _ _ h => h) (by rfl) ?_ ?_
    rotate_left
    · intro W hW; go_simp; first | done | with_reducible rfl
    try simp only [Act.put, List.setIfInBounds_toArray, List.set_cons_zero, List.set_cons_succ]
    refine reg_take 29 (some 97) (v := ?_) rfl rfl (by kernel_rfl) (by kernel_rfl) (by kernel_rfl) (fun _ _ _ h => h) (by rfl) ?_ ?_
    rotate_left
    · intro W hW; go_simp; first | done | with_reducible rfl
    try simp only [Act.put, List.setIfInBounds_toArray, List.set_cons_zero, List.set_cons_succ]
    refine reg_take 30 (some 98) (v := ?_) rfl rfl (by kernel_rfl) (by kernel_rfl) (by kernel_rfl) (fun _ _ _ h => h) (by rfl) ?_ ?_
    rotate_left
    · intro W hW; go_simp; first | done | with_reducible rfl
    try simp only [Act.put, List.setIfInBounds_toArray, List.set_cons_zero, List.set_cons_succ]
    refine reg_take 31 (some 99) (v := ?_) rfl rfl (by kernel_rfl) (by kernel_rfl) (by kernel_rfl) (fun _ _ _ h => h) (by rfl) ?_ ?_
    rotate_left
    · intro W hW; go_simp; first | done | with_reducible rfl
    try simp only [Act.put, List.setIfInBounds_toArray, List.set_cons_zero, List.set_cons_succ]
    refine reg_take 32 (some 100) (v := ?_) rfl rfl (by kernel_rfl) (by kernel_rfl) (by kernel_rfl) (fun _ _ _ h => h) (by rfl) ?_ ?_
    rotate_left
    · intro W hW; go_simp; first | done | with_reducible rfl
    try simp only [Act.put, List.setIfInBounds_toArray, List.set_cons_zero, List.set_cons_succ]
    refine reg_take 33 (some 101) (v := ?_) rfl rfl (by kernel_rfl) (by kernel_rfl) (by kernel_rfl) (fun _ _ _ h => h) (by rfl) ?_ ?_
    rotate_left
    · intro W hW; go_simp; first | done | with_reducible rfl
    try simp only [Act.put, List.setIfInBounds_toArray, List.set_cons_zero, List.set_cons_succ]
    refine reg_take 34 (some 102) (v := ?_) rfl rfl (by kernel_rfl) (by kernel_rfl) (by kernel_rfl) (fun _ _ _ h => h) (by rfl) ?_ ?_
    rotate_left
    · intro W hW; go_simp; first | done | with_reducible rfl
    try simp only [Act.put, List.setIfInBounds_toArray, List.set_cons_zero, List.set_cons_succ]
    refine wpAnyH_ready (rs := [35]) (by kernel_rfl) (by simp) ?_
    refine (AllReadyH.cons (o := { dst := some 103, op := Op.call { callee := Callee.value (Operand.func 23), args := #[], argTypes := #[] }, type := 4, pos := "near.go:23", after := #[{ on := 34, ground := Ground.chain }, { on := 34, ground := Ground.guard }], guard := some (34, true) }) rfl (fun K hK => ?_) AllReadyH.nil)
    go_simp
    refine (works_any _).mono ?_; rintro e u4 ⟨rfl, h4⟩
    refine reg_next hK h4 ?_
    clear hK K
    try simp only [Act.put, List.setIfInBounds_toArray, List.set_cons_zero, List.set_cons_succ]
    refine reg_take 36 (some 104) (v := ?_) rfl rfl (by kernel_rfl) (by kernel_rfl) (by kernel_rfl) (fun _ _ _ h => h) (by rfl) ?_ ?_
    rotate_left
    · intro W hW; go_simp; first | done | with_reducible rfl
    try simp only [Act.put, List.setIfInBounds_toArray, List.set_cons_zero, List.set_cons_succ]
    refine reg_take 37 (some 12) (v := ?_) rfl rfl (by kernel_rfl) (by kernel_rfl) (by kernel_rfl) (fun _ _ _ h => h) (by rfl) ?_ ?_
    rotate_left
    · intro W hW; go_simp; first | done | with_reducible rfl
    try simp only [Act.put, List.setIfInBounds_toArray, List.set_cons_zero, List.set_cons_succ]
    refine wpAnyH_done (by kernel_rfl) ?_ _
    have HG := Lib.hid (H14.out.grown.trans (drewl (h1.trans (h2.trans h4))))
    clear h1 h2 h4
    go_wp2
    go_ret
    exact ⟨rfl, HG.out⟩

end Go.Proofs.Ytmdgehpmeikgfaa
