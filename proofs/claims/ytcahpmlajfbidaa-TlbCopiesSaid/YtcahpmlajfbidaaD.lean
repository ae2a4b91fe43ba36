import Derived.Test.YtcahpmlajfbidaaC0
namespace Go.Proofs.Ytcahpmlajfbidaa
open Go.RowKit
abbrev Tl.cellsT (T : Tl) : Array Value := #[.bool T.a.th, .int .u32 T.a.page, .int .u32 T.a.frame, .bool T.a.wr, .bool T.b.th, .int .u32 T.b.page, .int .u32 T.b.frame, .bool T.b.wr,
  .bool T.c.th, .int .u32 T.c.page, .int .u32 T.c.frame, .bool T.c.wr, .bool T.d.th, .int .u32 T.d.page, .int .u32 T.d.frame, .bool T.d.wr, .int .i64 T.next, .bool true]
/-- The block of a TLB. -/
def Tb (w : World) (B : Nat) (T : Tl) : Prop := w.heap[B]? = some (.cells T.cellsT 64 (0, 0))
theorem Tb.blk {w : World} {B : Nat} {T : Tl} (h : Tb w B T) : w.heap[B]? = some (.cells T.cellsT 64 (0, 0)) := h
abbrev zerosT : Array Value := #[.bool false, .int .u32 0, .int .u32 0, .bool false, .bool false, .int .u32 0, .int .u32 0, .bool false, .bool false, .int .u32 0, .int .u32 0, .bool false, .bool false, .int .u32 0, .int .u32 0, .bool false, .int .i64 0, .bool false]
theorem Tb.kept {w w' : World} {B : Nat} {T : Tl} {row : Option Nat} (h : Tb w B T) (hg : w.grownBy w' row) (hne : some B ≠ row) : Tb w' B T := (hg.block B (lt_of_block h) hne).trans h
theorem Tb.keptNone {w w' : World} {B : Nat} {T : Tl} (h : Tb w B T) (hg : w.grownBy w' none) : Tb w' B T := h.kept hg (by simp)
theorem Tb.lt {w : World} {B : Nat} {T : Tl} (h : Tb w B T) : B < w.heap.size := lt_of_block h
theorem Tb.next {w : World} {B : Nat} {T : Tl} (h : Tb w B T) : w.cell? ⟨B, 16, none⟩ = some (.int .i64 T.next) := by rw [cells_all h]; rfl
theorem Tb.made {w : World} {B : Nat} {T : Tl} (h : Tb w B T) : w.cell? ⟨B, 17, none⟩ = some (.bool true) := by rw [cells_all h]; rfl
theorem Try.size64 : (Try.prog.info? 64).map (·.size) = some 18 := by kernel_rfl
theorem none_nil (w : World) : Calls Try.prog 28 #[.pointer none] w fun e w' => e = .returned (.bool true) ∧ w = w' := by
  go_enter Try.func28, Try.ntmps28
  go_wp2
  go_ret
  exact ⟨rfl, rfl⟩
theorem none_tb (B : Nat) (T : Tl) (w : World) (h : Tb w B T) : Calls Try.prog 28 #[.pointer (some ⟨B, 0, none⟩)] w fun e w' => e = .returned (.bool false) ∧ w = w' := by
  have hc := h.made
  clear h
  go_enter Try.func28, Try.ntmps28
  go_wp2
  go_ret
  exact ⟨rfl, rfl⟩
theorem on_any (n : Int) (hn : n = 0 ∨ n = 1 ∨ n = 2 ∨ n = 3) (w : World) : Calls Try.prog 29 #[.int .i64 n] w fun e w' => e = .returned (.int .i64 ((n + 1) % 4)) ∧ w = w' := by
  rcases hn with rfl | rfl | rfl | rfl
  all_goals
    go_enter Try.func29, Try.ntmps29
    go_wp2
    go_ret
    exact ⟨rfl, rfl⟩
theorem next_nil (w : World) : Calls Try.prog 25 #[.pointer none] w fun e w' => e = .returned (.int .i64 0) ∧ w = w' := by
  go_enter Try.func25, Try.ntmps25
  go_wp2_with fail
  refine (none_nil _).mono ?_; rintro e w' ⟨rfl, rfl⟩
  go_wp2
  go_ret
  exact ⟨rfl, rfl⟩
theorem next_tb (B : Nat) (T : Tl) (w : World) (h : Tb w B T) : Calls Try.prog 25 #[.pointer (some ⟨B, 0, none⟩)] w fun e w' => e = .returned (.int .i64 T.next) ∧ w = w' := by
  have hc := h.next
  have H := Lib.hid h
  clear h
  go_enter Try.func25, Try.ntmps25
  go_wp2_with fail
  refine (none_tb B T _ H.out).mono ?_; rintro e w' ⟨rfl, rfl⟩
  go_wp2
  go_ret
  exact ⟨rfl, rfl⟩
theorem new_any (w : World) : Calls Try.prog 12 #[] w fun e w' => ∃ B, e = .returned (.pointer (some ⟨B, 0, none⟩)) ∧ w.heap.size ≤ B ∧ Tb w' B .no ∧ w.grownBy w' none := by
  have H := Lib.hid (heap_alloc_new w (.cells Tl.no.cellsT 64))
  go_enter Try.func12, Try.ntmps12
  go_wp2
  go_ret
  exact ⟨w.heap.size, rfl, Nat.le_refl _, H.out, World.grownBy_alloc _ _ _⟩
theorem flush_tb (B : Nat) (T : Tl) (w : World) (h : Tb w B T) : Calls Try.prog 19 #[.pointer (some ⟨B, 0, none⟩)] w fun e w' => e = .returned (.tuple #[]) ∧ Tb w' B .no ∧ w.grownBy w' (some B) := by
  have H := Lib.hid h
  clear h
  go_enter Try.func19, Try.ntmps19
  go_wp2_with fail
  refine (none_tb B T _ H.out).mono ?_; rintro e w' ⟨rfl, rfl⟩
  go_wp2_with (with_reducible refine hold_st 62 _ _ rfl ?_)
  apply Lib.hid
  with_reducible refine wpList_store_blk rfl 62 _ _ rfl _ ?o101 ?cs101 ?hx101 ?hy101 _ _ H.out.blk ?hf101 _ ?hl101 Try.size62 ?h1101 ?_
  case hy101 => exact rfl
  case hx101 => exact rfl
  case hf101 => exact rfl
  case hl101 => exact rfl
  case h1101 => simp [allOne, Value.oneCell']
  intro w2 hb2 hg2
  rw [setMany_eq _ _ _ (by simp)] at hb2
  have HB := Lib.hid (show Tb w2 B .no from hb2)
  have HG := Lib.hid hg2
  clear hb2 hg2
  go_wp2
  go_end0
  exact ⟨rfl, HB.out, HG.out⟩
theorem flush_nil (w : World) : Calls Try.prog 19 #[.pointer none] w fun e w' => e = .returned (.tuple #[]) ∧ w = w' := by
  go_enter Try.func19, Try.ntmps19
  go_wp2_with fail
  refine (none_nil _).mono ?_; rintro e w' ⟨rfl, rfl⟩
  go_wp2
  go_end0
  exact ⟨rfl, rfl⟩
theorem all_nil (w : World) : Calls Try.prog 20 #[.pointer none] w fun e w' => e = .returned (.slice none 0 0) ∧ w = w' := by
  go_enter Try.func20, Try.ntmps20
  go_wp2_with fail
  refine (none_nil _).mono ?_; rintro e w' ⟨rfl, rfl⟩
  go_wp2
  go_ret
  exact ⟨rfl, rfl⟩
theorem all_tb (B : Nat) (T : Tl) (w : World) (h : Tb w B T) : Calls Try.prog 20 #[.pointer (some ⟨B, 0, none⟩)] w fun e w' => ∃ g, e = .returned (.slice (some ⟨g, 0, none⟩) 4 4) ∧ w'.heap[g]? = some (.cells T.cells 62 (0, 0)) ∧ w.grownBy w' none := by
  have H := Lib.hid h
  clear h
  have HN := Lib.hid (heap_alloc_new w (.cells zeros 62))
  have HG0 := Lib.hid (World.grownBy_alloc w (.cells zeros 62) none)
  go_enter Try.func20, Try.ntmps20
  go_wp2_with fail
  refine (none_tb B T _ H.out).mono ?_; rintro e w' ⟨rfl, rfl⟩
  go_wp2_with (with_reducible refine hold_ld 62 _ rfl ?_)
  apply Lib.hid
  with_reducible refine wpList_load_blk rfl 62 _ rfl _ ?o102 ?hx102 _ _ _ H.out.blk _ 17 ?hn102 Try.underlying62 rfl Try.size62 ?_
  case hx102 => exact rfl
  case hn102 => exact rfl
  go_wp2_with (with_reducible refine hold_st 62 _ _ rfl ?_)
  apply Lib.hid
  with_reducible refine wpList_store_all rfl 62 _ _ rfl _ ?cs103 ?hx103 ?hy103 _ _ HN.out ?hf103 _ ?hl103 Try.size62 ?h1103 ?_
  case hy103 => exact rfl
  case hx103 => exact rfl
  case hf103 => exact rfl
  case hl103 => exact rfl
  case h1103 => simp [allOne, Value.oneCell']
  intro w2 hb2 hg2
  have HB := Lib.hid hb2
  have HG := Lib.hid hg2
  clear hb2 hg2
  go_wp2
  go_ret
  exact ⟨_, rfl, HB.out, grown_new HG0.out HG.out (Nat.le_refl _)⟩
theorem copy_nil (w : World) : Calls Try.prog 21 #[.pointer none] w fun e w' => e = .returned (.pointer none) ∧ w = w' := by
  go_enter Try.func21, Try.ntmps21
  go_wp2_with fail
  refine (none_nil _).mono ?_; rintro e w' ⟨rfl, rfl⟩
  go_wp2
  go_ret
  exact ⟨rfl, rfl⟩
theorem copy_tb (B : Nat) (T : Tl) (w : World) (h : Tb w B T) : Calls Try.prog 21 #[.pointer (some ⟨B, 0, none⟩)] w fun e w' => ∃ g, e = .returned (.pointer (some ⟨g, 0, none⟩)) ∧ w.heap.size ≤ g ∧ Tb w' g T ∧ w.grownBy w' none := by
  have H := Lib.hid h
  clear h
  have HN := Lib.hid (heap_alloc_new w (.cells zerosT 64))
  have HG0 := Lib.hid (World.grownBy_alloc w (.cells zerosT 64) none)
  go_enter Try.func21, Try.ntmps21
  go_wp2_with fail
  refine (none_tb B T _ H.out).mono ?_; rintro e w' ⟨rfl, rfl⟩
  go_wp2_with (with_reducible refine hold_ld 64 _ rfl ?_)
  apply Lib.hid
  with_reducible refine wpList_load_blk rfl 64 _ rfl _ ?o104 ?hx104 _ _ _ H.out.blk _ 18 ?hn104 Try.underlying64 rfl Try.size64 ?_
  case hx104 => exact rfl
  case hn104 => exact rfl
  go_wp2_with (with_reducible refine hold_st 64 _ _ rfl ?_)
  apply Lib.hid
  with_reducible refine wpList_store_all rfl 64 _ _ rfl _ ?cs201 ?hx201 ?hy201 _ _ HN.out ?hf201 _ ?hl201 Try.size64 ?h1201 ?_
  case hy201 => exact rfl
  case hx201 => exact rfl
  case hf201 => exact rfl
  case hl201 => exact rfl
  case h1201 => simp [allOne, Value.oneCell']
  intro w2 hb2 hg2
  have HB := Lib.hid hb2
  have HG := Lib.hid hg2
  clear hb2 hg2
  go_wp2
  go_ret
  exact ⟨_, rfl, Nat.le_refl _, HB.out, grown_new HG0.out HG.out (Nat.le_refl _)⟩
end Go.Proofs.Ytcahpmlajfbidaa
