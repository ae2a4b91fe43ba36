import Derived.Test.YtcahpmlajfbidaaH
import Derived.Test.YtcahpmlajfbidaaReg
namespace Go.Proofs.Ytcahpmlajfbidaa
open Go.RowKit
theorem Tb.setNext {w : World} {B : Nat} {T : Tl} (h : Tb w B T) (k : Int) : Tb (w.setCell ⟨B, 16, none⟩ (.int .i64 k)) B { T with next := k } := by
  have := heap_setCell_at (j := 16) (.int .i64 k) h.blk
  rw [List.setIfInBounds_toArray] at this
  exact this
theorem heap_true {w : World} {E : Nat} {a b c d : Value} {t : TypeId} (h : w.heap[E]? = some (.cells #[a, b, c, d] t (0, 0))) (v : Value) : (w.setCell ⟨E, 0, none⟩ v).heap[E]? = some (.cells #[v, b, c, d] t (0, 0)) := by
  have := heap_setCell_at (j := 0) v h
  rw [List.setIfInBounds_toArray] at this
  exact this
theorem grown_new2 {a b c : World} {g : Nat} {row : Option Nat} (h : a.grownBy b row) (k : b.grownBy c (some g)) (hg : a.heap.size ≤ g) : a.grownBy c row :=
  ⟨k.os.trans h.os, k.tape.trans h.tape, k.output.trans h.output, Nat.le_trans h.size k.size, fun i hi hne => (k.block i (Nat.lt_of_lt_of_le hi h.size) (fun e => by cases e; omega)).trans (h.block i hi hne)⟩
theorem drewr {a b : World} {row : Option Nat} (h : a.grownBy b row) : a.grownBy b.drew row := ⟨h.os, h.tape, h.output, h.size, h.block⟩
theorem drew_both {a b : World} {row : Option Nat} (h : a.grownBy b row) : a.drew.grownBy b.drew row := ⟨h.os, h.tape, h.output, h.size, h.block⟩
theorem Tb.drew {w : World} {B : Nat} {T : Tl} (h : Tb w B T) : Tb w.drew B T := h
def Tl.good (T : Tl) : Prop := T.next = 0 ∨ T.next = 1 ∨ T.next = 2 ∨ T.next = 3
set_option maxHeartbeats 8000000 in
theorem fill_tb (B : Nat) (T : Tl) (th : Bool) (page frame : Int) (wr : Bool) (w : World) (h : Tb w B T) (hok : T.good) : Calls Try.prog 17 #[.pointer (some ⟨B, 0, none⟩), .agg #[.bool th, .int .u32 page, .int .u32 frame, .bool wr]] w fun e w' => e = .returned (.int .i64 (T.slot page)) ∧ Tb w' B (T.fill page frame wr) ∧ w.grownBy w' (some B) := by
  have hlt := h.lt
  have hgE := World.grownBy_alloc w (.cells #[.bool th, .int .u32 page, .int .u32 frame, .bool wr] 27) none
  have H := Lib.hid (h.keptNone hgE)
  have hE := heap_alloc_new w (.cells #[.bool th, .int .u32 page, .int .u32 frame, .bool wr] 27)
  have HE := Lib.hid hE
  have HG := Lib.hid hgE
  clear h hE hgE
  go_enter Try.func17, Try.ntmps17
  go_wp2_with fail
  refine (none_tb B T _ H.out).mono ?_; rintro e w' ⟨rfl, rfl⟩
  obtain ⟨c0, c1, c2, c3⟩ := cells4 HE.out
  go_wp2_with fail
  refine (find_any _ T page _ (.inr ⟨B, rfl, H.out⟩)).mono ?_; rintro e w1 ⟨rfl, hg1⟩
  clear c0 c1 c2 c3
  have hE1 := (hg1.block w.heap.size (by simp) (by simp)).trans HE.out
  have hT1 := H.out.keptNone hg1
  have hG1 := HG.out.trans hg1
  have hfz := frozen_all hE1
  have hfB := frozen_all hT1.blk
  have hcE : w1.cell? ⟨w.heap.size, 0, none⟩ = some (.bool th) := (cells4 hE1).1
  have hnx := hT1.next
  have HE1 := Lib.hid hE1
  have HT1 := Lib.hid hT1
  have HG1 := Lib.hid hG1
  have hneB : B ≠ w.heap.size := by omega
  clear hg1 HG H HE hE1 hT1 hG1
  rcases T.find_cases page with hf | hf | hf | hf | hf
  · have e1 : T.at page = 0 := by simp [Tl.at, hf]
    have e2 : T.has page = false := by simp [Tl.has, hf]
    have e3 : T.slot page = T.next := by simp [Tl.slot, hf]
    rw [e1, e2]
    obtain ⟨ta, tb, tc, td, nx⟩ := T
    simp only [Tl.good] at hok
    simp only at e3 hnx
    rcases hok with rfl | rfl | rfl | rfl
    · have hv : Tl.fill ⟨ta, tb, tc, td, 0⟩ page frame wr = (⟨ta, tb, tc, td, 1⟩ : Tl).set 0 ⟨true, page, frame, wr⟩ := by unfold Tl.fill; rw [hf]; rfl
      have hE3 := heap_true (((grown_setCell w1 B 16 (.int .i64 1)).block w.heap.size (lt_of_block HE1.out) (by simp; omega)).trans HE1.out) (.bool true)
      have hT3 := (HT1.out.setNext 1).kept (grown_setCell (w1.setCell ⟨B, 16, none⟩ (.int .i64 1)) w.heap.size 0 (.bool true)) (by simp; omega)
      go_wp2_with fail
      refine (on_any 0 (by omega) _).mono ?_; rintro e w' ⟨rfl, rfl⟩
      go_wp2_with fail
      have HE3 := Lib.hid (show (((w1.setCell ⟨B, 16, none⟩ (.int .i64 1)).setCell ⟨w.heap.size, 0, none⟩ (.bool true)).drew).heap[w.heap.size]? = some (.cells #[.bool true, .int .u32 page, .int .u32 frame, .bool wr] 27 (0, 0)) from hE3)
      have HT3 := Lib.hid (show Tb (((w1.setCell ⟨B, 16, none⟩ (.int .i64 1)).setCell ⟨w.heap.size, 0, none⟩ (.bool true)).drew) B ⟨ta, tb, tc, td, 1⟩ from hT3)
      clear hE3 hT3 hfz hfB hcE hnx
      have f0 := frozen_all HT1.out.blk 0
      have g0 : w1.cell? ⟨B, 0, none⟩ = some _ := (cells_all HT1.out.blk 0).trans rfl
      have f1 := frozen_all HT1.out.blk 1
      have g1 : w1.cell? ⟨B, 1, none⟩ = some _ := (cells_all HT1.out.blk 1).trans rfl
      have f2 := frozen_all HT1.out.blk 2
      have g2 : w1.cell? ⟨B, 2, none⟩ = some _ := (cells_all HT1.out.blk 2).trans rfl
      have f3 := frozen_all HT1.out.blk 3
      have g3 : w1.cell? ⟨B, 3, none⟩ = some _ := (cells_all HT1.out.blk 3).trans rfl
      have HG3 := Lib.hid (drewr (grown_new2 ((grown_none HG1.out (some B)).trans (grown_setCell w1 B 16 (.int .i64 1))) (grown_setCell (w1.setCell ⟨B, 16, none⟩ (.int .i64 1)) w.heap.size 0 (.bool true)) (Nat.le_refl _)))
      refine reg_open (some B) (n := 8) rfl (by kernel_rfl) ?_
      refine reg_take 0 (some 34) (v := ?_) rfl rfl (by kernel_rfl) (by kernel_rfl) (by kernel_rfl) (fun _ _ _ h => h) (by rfl) ?_ ?_
      rotate_left
      · intro W hW; go_simp; first | done | with_reducible rfl
      try simp only [Act.put, List.setIfInBounds_toArray, List.set_cons_zero, List.set_cons_succ]
      refine reg_take 1 (some 35) (v := ?_) rfl rfl (by kernel_rfl) (by kernel_rfl) (by kernel_rfl) (fun _ _ _ h => h) (by rfl) ?_ ?_
      rotate_left
      · intro W hW; go_simp; first | done | with_reducible rfl
      try simp only [Act.put, List.setIfInBounds_toArray, List.set_cons_zero, List.set_cons_succ]
      refine reg_take 2 (some 36) (v := ?_) rfl rfl (by kernel_rfl) (by kernel_rfl) (by kernel_rfl) (fun _ _ _ h => h) (by rfl) ?_ ?_
      rotate_left
      · intro W hW; have cE := cells4 (((hW).block w.heap.size (lt_of_block HE3.out) (by simp; omega)).trans HE3.out); obtain ⟨c0, c1, c2, c3⟩ := cE; go_simp; first | done | with_reducible rfl
      try simp only [Act.put, List.setIfInBounds_toArray, List.set_cons_zero, List.set_cons_succ]
      refine reg_take 3 (some 37) (v := ?_) rfl rfl (by kernel_rfl) (by kernel_rfl) (by kernel_rfl) (fun _ _ _ h => h) (by rfl) ?_ ?_
      rotate_left
      · intro W hW; go_simp; first | done | with_reducible rfl
      try simp only [Act.put, List.setIfInBounds_toArray, List.set_cons_zero, List.set_cons_succ]
      refine reg_take 4 (some 38) (v := ?_) rfl rfl (by kernel_rfl) (by kernel_rfl) (by kernel_rfl) (fun _ _ _ h => h) (by rfl) ?_ ?_
      rotate_left
      · intro W hW; go_simp; first | done | with_reducible rfl
      try simp only [Act.put, List.setIfInBounds_toArray, List.set_cons_zero, List.set_cons_succ]
      refine reg_take 5 (some 39) (v := ?_) rfl rfl (by kernel_rfl) (by kernel_rfl) (by kernel_rfl) (fun _ _ _ h => h) (by rfl) ?_ ?_
      rotate_left
      · intro W hW; go_simp; first | done | with_reducible rfl
      try simp only [Act.put, List.setIfInBounds_toArray, List.set_cons_zero, List.set_cons_succ]
      refine reg_take 6 (some 40) (v := ?_) rfl rfl (by kernel_rfl) (by kernel_rfl) (by kernel_rfl) (fun _ _ _ h => h) (by rfl) ?_ ?_
      rotate_left
      · intro W hW; go_simp; first | done | with_reducible rfl
      try simp only [Act.put, List.setIfInBounds_toArray, List.set_cons_zero, List.set_cons_succ]
      refine wpAnyH_ready (rs := [7]) (by kernel_rfl) (by simp) ?_
      refine (AllReadyH.cons (o := { dst := none, op := Op.store 27 (Operand.tmp 40) (Operand.tmp 36), type := 0, pos := "tlb.go:65", after := #[{ on := 6, ground := Ground.data }, { on := 2, ground := Ground.data }, { on := 0, ground := Ground.phase }, { on := 1, ground := Ground.phase }, { on := 2, ground := Ground.phase }], guard := none }) rfl (fun K hK => ?_) AllReadyH.nil)
      go_simp
      have h2 := drew_both (grown_setCells (g := B) [.bool true, .int .u32 page, .int .u32 frame, .bool wr] 0 ((w1.setCell ⟨B, 16, none⟩ (.int .i64 1)).setCell ⟨w.heap.size, 0, none⟩ (.bool true))); simp only [World.setCells, Nat.reduceAdd] at h2
      refine reg_next hK h2 ?_
      clear hK K
      try simp only [Act.put, List.setIfInBounds_toArray, List.set_cons_zero, List.set_cons_succ]
      refine wpAnyH_done (by kernel_rfl) ?_ _
      have hb2 := heap_setCells [.bool true, .int .u32 page, .int .u32 frame, .bool wr] 0 _ ((w1.setCell ⟨B, 16, none⟩ (.int .i64 1)).setCell ⟨w.heap.size, 0, none⟩ (.bool true)) HT3.out.blk
      simp only [World.setCells, setMany, Nat.reduceAdd, List.set_cons_zero, List.set_cons_succ] at hb2
      have HB := Lib.hid (Tb.drew (T := { (⟨ta, tb, tc, td, 1⟩ : Tl) with a := ⟨true, page, frame, wr⟩ }) hb2)
      have HG9 := Lib.hid (HG3.out.trans h2)
      clear hb2 h2
      go_wp2
      go_ret
      exact ⟨by first | rfl | (rw [e3]; rfl), by first | exact HB.out | (rw [hv]; exact HB.out), HG9.out⟩
    · have hv : Tl.fill ⟨ta, tb, tc, td, 1⟩ page frame wr = (⟨ta, tb, tc, td, 2⟩ : Tl).set 1 ⟨true, page, frame, wr⟩ := by unfold Tl.fill; rw [hf]; rfl
      have hE3 := heap_true (((grown_setCell w1 B 16 (.int .i64 2)).block w.heap.size (lt_of_block HE1.out) (by simp; omega)).trans HE1.out) (.bool true)
      have hT3 := (HT1.out.setNext 2).kept (grown_setCell (w1.setCell ⟨B, 16, none⟩ (.int .i64 2)) w.heap.size 0 (.bool true)) (by simp; omega)
      go_wp2_with fail
      refine (on_any 1 (by omega) _).mono ?_; rintro e w' ⟨rfl, rfl⟩
      go_wp2_with fail
      have HE3 := Lib.hid (show (((w1.setCell ⟨B, 16, none⟩ (.int .i64 2)).setCell ⟨w.heap.size, 0, none⟩ (.bool true)).drew).heap[w.heap.size]? = some (.cells #[.bool true, .int .u32 page, .int .u32 frame, .bool wr] 27 (0, 0)) from hE3)
      have HT3 := Lib.hid (show Tb (((w1.setCell ⟨B, 16, none⟩ (.int .i64 2)).setCell ⟨w.heap.size, 0, none⟩ (.bool true)).drew) B ⟨ta, tb, tc, td, 2⟩ from hT3)
      clear hE3 hT3 hfz hfB hcE hnx
      have f0 := frozen_all HT1.out.blk 4
      have g0 : w1.cell? ⟨B, 4, none⟩ = some _ := (cells_all HT1.out.blk 4).trans rfl
      have f1 := frozen_all HT1.out.blk 5
      have g1 : w1.cell? ⟨B, 5, none⟩ = some _ := (cells_all HT1.out.blk 5).trans rfl
      have f2 := frozen_all HT1.out.blk 6
      have g2 : w1.cell? ⟨B, 6, none⟩ = some _ := (cells_all HT1.out.blk 6).trans rfl
      have f3 := frozen_all HT1.out.blk 7
      have g3 : w1.cell? ⟨B, 7, none⟩ = some _ := (cells_all HT1.out.blk 7).trans rfl
      have HG3 := Lib.hid (drewr (grown_new2 ((grown_none HG1.out (some B)).trans (grown_setCell w1 B 16 (.int .i64 2))) (grown_setCell (w1.setCell ⟨B, 16, none⟩ (.int .i64 2)) w.heap.size 0 (.bool true)) (Nat.le_refl _)))
      refine reg_open (some B) (n := 8) rfl (by kernel_rfl) ?_
      refine reg_take 0 (some 34) (v := ?_) rfl rfl (by kernel_rfl) (by kernel_rfl) (by kernel_rfl) (fun _ _ _ h => h) (by rfl) ?_ ?_
      rotate_left
      · intro W hW; go_simp; first | done | with_reducible rfl
      try simp only [Act.put, List.setIfInBounds_toArray, List.set_cons_zero, List.set_cons_succ]
      refine reg_take 1 (some 35) (v := ?_) rfl rfl (by kernel_rfl) (by kernel_rfl) (by kernel_rfl) (fun _ _ _ h => h) (by rfl) ?_ ?_
      rotate_left
      · intro W hW; go_simp; first | done | with_reducible rfl
      try simp only [Act.put, List.setIfInBounds_toArray, List.set_cons_zero, List.set_cons_succ]
      refine reg_take 2 (some 36) (v := ?_) rfl rfl (by kernel_rfl) (by kernel_rfl) (by kernel_rfl) (fun _ _ _ h => h) (by rfl) ?_ ?_
      rotate_left
      · intro W hW; have cE := cells4 (((hW).block w.heap.size (lt_of_block HE3.out) (by simp; omega)).trans HE3.out); obtain ⟨c0, c1, c2, c3⟩ := cE; go_simp; first | done | with_reducible rfl
      try simp only [Act.put, List.setIfInBounds_toArray, List.set_cons_zero, List.set_cons_succ]
      refine reg_take 3 (some 37) (v := ?_) rfl rfl (by kernel_rfl) (by kernel_rfl) (by kernel_rfl) (fun _ _ _ h => h) (by rfl) ?_ ?_
      rotate_left
      · intro W hW; go_simp; first | done | with_reducible rfl
      try simp only [Act.put, List.setIfInBounds_toArray, List.set_cons_zero, List.set_cons_succ]
      refine reg_take 4 (some 38) (v := ?_) rfl rfl (by kernel_rfl) (by kernel_rfl) (by kernel_rfl) (fun _ _ _ h => h) (by rfl) ?_ ?_
      rotate_left
      · intro W hW; go_simp; first | done | with_reducible rfl
      try simp only [Act.put, List.setIfInBounds_toArray, List.set_cons_zero, List.set_cons_succ]
      refine reg_take 5 (some 39) (v := ?_) rfl rfl (by kernel_rfl) (by kernel_rfl) (by kernel_rfl) (fun _ _ _ h => h) (by rfl) ?_ ?_
      rotate_left
      · intro W hW; go_simp; first | done | with_reducible rfl
      try simp only [Act.put, List.setIfInBounds_toArray, List.set_cons_zero, List.set_cons_succ]
      refine reg_take 6 (some 40) (v := ?_) rfl rfl (by kernel_rfl) (by kernel_rfl) (by kernel_rfl) (fun _ _ _ h => h) (by rfl) ?_ ?_
      rotate_left
      · intro W hW; go_simp; first | done | with_reducible rfl
      try simp only [Act.put, List.setIfInBounds_toArray, List.set_cons_zero, List.set_cons_succ]
      refine wpAnyH_ready (rs := [7]) (by kernel_rfl) (by simp) ?_
      refine (AllReadyH.cons (o := { dst := none, op := Op.store 27 (Operand.tmp 40) (Operand.tmp 36), type := 0, pos := "tlb.go:65", after := #[{ on := 6, ground := Ground.data }, { on := 2, ground := Ground.data }, { on := 0, ground := Ground.phase }, { on := 1, ground := Ground.phase }, { on := 2, ground := Ground.phase }], guard := none }) rfl (fun K hK => ?_) AllReadyH.nil)
      go_simp
      have h2 := drew_both (grown_setCells (g := B) [.bool true, .int .u32 page, .int .u32 frame, .bool wr] 4 ((w1.setCell ⟨B, 16, none⟩ (.int .i64 2)).setCell ⟨w.heap.size, 0, none⟩ (.bool true))); simp only [World.setCells, Nat.reduceAdd] at h2
      refine reg_next hK h2 ?_
      clear hK K
      try simp only [Act.put, List.setIfInBounds_toArray, List.set_cons_zero, List.set_cons_succ]
      refine wpAnyH_done (by kernel_rfl) ?_ _
      have hb2 := heap_setCells [.bool true, .int .u32 page, .int .u32 frame, .bool wr] 4 _ ((w1.setCell ⟨B, 16, none⟩ (.int .i64 2)).setCell ⟨w.heap.size, 0, none⟩ (.bool true)) HT3.out.blk
      simp only [World.setCells, setMany, Nat.reduceAdd, List.set_cons_zero, List.set_cons_succ] at hb2
      have HB := Lib.hid (Tb.drew (T := { (⟨ta, tb, tc, td, 2⟩ : Tl) with b := ⟨true, page, frame, wr⟩ }) hb2)
      have HG9 := Lib.hid (HG3.out.trans h2)
      clear hb2 h2
      go_wp2
      go_ret
      exact ⟨by first | rfl | (rw [e3]; rfl), by first | exact HB.out | (rw [hv]; exact HB.out), HG9.out⟩
    · have hv : Tl.fill ⟨ta, tb, tc, td, 2⟩ page frame wr = (⟨ta, tb, tc, td, 3⟩ : Tl).set 2 ⟨true, page, frame, wr⟩ := by unfold Tl.fill; rw [hf]; rfl
      have hE3 := heap_true (((grown_setCell w1 B 16 (.int .i64 3)).block w.heap.size (lt_of_block HE1.out) (by simp; omega)).trans HE1.out) (.bool true)
      have hT3 := (HT1.out.setNext 3).kept (grown_setCell (w1.setCell ⟨B, 16, none⟩ (.int .i64 3)) w.heap.size 0 (.bool true)) (by simp; omega)
      go_wp2_with fail
      refine (on_any 2 (by omega) _).mono ?_; rintro e w' ⟨rfl, rfl⟩
      go_wp2_with fail
      have HE3 := Lib.hid (show (((w1.setCell ⟨B, 16, none⟩ (.int .i64 3)).setCell ⟨w.heap.size, 0, none⟩ (.bool true)).drew).heap[w.heap.size]? = some (.cells #[.bool true, .int .u32 page, .int .u32 frame, .bool wr] 27 (0, 0)) from hE3)
      have HT3 := Lib.hid (show Tb (((w1.setCell ⟨B, 16, none⟩ (.int .i64 3)).setCell ⟨w.heap.size, 0, none⟩ (.bool true)).drew) B ⟨ta, tb, tc, td, 3⟩ from hT3)
      clear hE3 hT3 hfz hfB hcE hnx
      have f0 := frozen_all HT1.out.blk 8
      have g0 : w1.cell? ⟨B, 8, none⟩ = some _ := (cells_all HT1.out.blk 8).trans rfl
      have f1 := frozen_all HT1.out.blk 9
      have g1 : w1.cell? ⟨B, 9, none⟩ = some _ := (cells_all HT1.out.blk 9).trans rfl
      have f2 := frozen_all HT1.out.blk 10
      have g2 : w1.cell? ⟨B, 10, none⟩ = some _ := (cells_all HT1.out.blk 10).trans rfl
      have f3 := frozen_all HT1.out.blk 11
      have g3 : w1.cell? ⟨B, 11, none⟩ = some _ := (cells_all HT1.out.blk 11).trans rfl
      have HG3 := Lib.hid (drewr (grown_new2 ((grown_none HG1.out (some B)).trans (grown_setCell w1 B 16 (.int .i64 3))) (grown_setCell (w1.setCell ⟨B, 16, none⟩ (.int .i64 3)) w.heap.size 0 (.bool true)) (Nat.le_refl _)))
      refine reg_open (some B) (n := 8) rfl (by kernel_rfl) ?_
      refine reg_take 0 (some 34) (v := ?_) rfl rfl (by kernel_rfl) (by kernel_rfl) (by kernel_rfl) (fun _ _ _ h => h) (by rfl) ?_ ?_
      rotate_left
      · intro W hW; go_simp; first | done | with_reducible rfl
      try simp only [Act.put, List.setIfInBounds_toArray, List.set_cons_zero, List.set_cons_succ]
      refine reg_take 1 (some 35) (v := ?_) rfl rfl (by kernel_rfl) (by kernel_rfl) (by kernel_rfl) (fun _ _ _ h => h) (by rfl) ?_ ?_
      rotate_left
      · intro W hW; go_simp; first | done | with_reducible rfl
      try simp only [Act.put, List.setIfInBounds_toArray, List.set_cons_zero, List.set_cons_succ]
      refine reg_take 2 (some 36) (v := ?_) rfl rfl (by kernel_rfl) (by kernel_rfl) (by kernel_rfl) (fun _ _ _ h => h) (by rfl) ?_ ?_
      rotate_left
      · intro W hW; have cE := cells4 (((hW).block w.heap.size (lt_of_block HE3.out) (by simp; omega)).trans HE3.out); obtain ⟨c0, c1, c2, c3⟩ := cE; go_simp; first | done | with_reducible rfl
      try simp only [Act.put, List.setIfInBounds_toArray, List.set_cons_zero, List.set_cons_succ]
      refine reg_take 3 (some 37) (v := ?_) rfl rfl (by kernel_rfl) (by kernel_rfl) (by kernel_rfl) (fun _ _ _ h => h) (by rfl) ?_ ?_
      rotate_left
      · intro W hW; go_simp; first | done | with_reducible rfl
      try simp only [Act.put, List.setIfInBounds_toArray, List.set_cons_zero, List.set_cons_succ]
      refine reg_take 4 (some 38) (v := ?_) rfl rfl (by kernel_rfl) (by kernel_rfl) (by kernel_rfl) (fun _ _ _ h => h) (by rfl) ?_ ?_
      rotate_left
      · intro W hW; go_simp; first | done | with_reducible rfl
      try simp only [Act.put, List.setIfInBounds_toArray, List.set_cons_zero, List.set_cons_succ]
      refine reg_take 5 (some 39) (v := ?_) rfl rfl (by kernel_rfl) (by kernel_rfl) (by kernel_rfl) (fun _ _ _ h => h) (by rfl) ?_ ?_
      rotate_left
      · intro W hW; go_simp; first | done | with_reducible rfl
      try simp only [Act.put, List.setIfInBounds_toArray, List.set_cons_zero, List.set_cons_succ]
      refine reg_take 6 (some 40) (v := ?_) rfl rfl (by kernel_rfl) (by kernel_rfl) (by kernel_rfl) (fun _ _ _ h => h) (by rfl) ?_ ?_
      rotate_left
      · intro W hW; go_simp; first | done | with_reducible rfl
      try simp only [Act.put, List.setIfInBounds_toArray, List.set_cons_zero, List.set_cons_succ]
      refine wpAnyH_ready (rs := [7]) (by kernel_rfl) (by simp) ?_
      refine (AllReadyH.cons (o := { dst := none, op := Op.store 27 (Operand.tmp 40) (Operand.tmp 36), type := 0, pos := "tlb.go:65", after := #[{ on := 6, ground := Ground.data }, { on := 2, ground := Ground.data }, { on := 0, ground := Ground.phase }, { on := 1, ground := Ground.phase }, { on := 2, ground := Ground.phase }], guard := none }) rfl (fun K hK => ?_) AllReadyH.nil)
      go_simp
      have h2 := drew_both (grown_setCells (g := B) [.bool true, .int .u32 page, .int .u32 frame, .bool wr] 8 ((w1.setCell ⟨B, 16, none⟩ (.int .i64 3)).setCell ⟨w.heap.size, 0, none⟩ (.bool true))); simp only [World.setCells, Nat.reduceAdd] at h2
      refine reg_next hK h2 ?_
      clear hK K
      try simp only [Act.put, List.setIfInBounds_toArray, List.set_cons_zero, List.set_cons_succ]
      refine wpAnyH_done (by kernel_rfl) ?_ _
      have hb2 := heap_setCells [.bool true, .int .u32 page, .int .u32 frame, .bool wr] 8 _ ((w1.setCell ⟨B, 16, none⟩ (.int .i64 3)).setCell ⟨w.heap.size, 0, none⟩ (.bool true)) HT3.out.blk
      simp only [World.setCells, setMany, Nat.reduceAdd, List.set_cons_zero, List.set_cons_succ] at hb2
      have HB := Lib.hid (Tb.drew (T := { (⟨ta, tb, tc, td, 3⟩ : Tl) with c := ⟨true, page, frame, wr⟩ }) hb2)
      have HG9 := Lib.hid (HG3.out.trans h2)
      clear hb2 h2
      go_wp2
      go_ret
      exact ⟨by first | rfl | (rw [e3]; rfl), by first | exact HB.out | (rw [hv]; exact HB.out), HG9.out⟩
    · have hv : Tl.fill ⟨ta, tb, tc, td, 3⟩ page frame wr = (⟨ta, tb, tc, td, 0⟩ : Tl).set 3 ⟨true, page, frame, wr⟩ := by unfold Tl.fill; rw [hf]; rfl
      have hE3 := heap_true (((grown_setCell w1 B 16 (.int .i64 0)).block w.heap.size (lt_of_block HE1.out) (by simp; omega)).trans HE1.out) (.bool true)
      have hT3 := (HT1.out.setNext 0).kept (grown_setCell (w1.setCell ⟨B, 16, none⟩ (.int .i64 0)) w.heap.size 0 (.bool true)) (by simp; omega)
      go_wp2_with fail
      refine (on_any 3 (by omega) _).mono ?_; rintro e w' ⟨rfl, rfl⟩
      go_wp2_with fail
      have HE3 := Lib.hid (show (((w1.setCell ⟨B, 16, none⟩ (.int .i64 0)).setCell ⟨w.heap.size, 0, none⟩ (.bool true)).drew).heap[w.heap.size]? = some (.cells #[.bool true, .int .u32 page, .int .u32 frame, .bool wr] 27 (0, 0)) from hE3)
      have HT3 := Lib.hid (show Tb (((w1.setCell ⟨B, 16, none⟩ (.int .i64 0)).setCell ⟨w.heap.size, 0, none⟩ (.bool true)).drew) B ⟨ta, tb, tc, td, 0⟩ from hT3)
      clear hE3 hT3 hfz hfB hcE hnx
      have f0 := frozen_all HT1.out.blk 12
      have g0 : w1.cell? ⟨B, 12, none⟩ = some _ := (cells_all HT1.out.blk 12).trans rfl
      have f1 := frozen_all HT1.out.blk 13
      have g1 : w1.cell? ⟨B, 13, none⟩ = some _ := (cells_all HT1.out.blk 13).trans rfl
      have f2 := frozen_all HT1.out.blk 14
      have g2 : w1.cell? ⟨B, 14, none⟩ = some _ := (cells_all HT1.out.blk 14).trans rfl
      have f3 := frozen_all HT1.out.blk 15
      have g3 : w1.cell? ⟨B, 15, none⟩ = some _ := (cells_all HT1.out.blk 15).trans rfl
      have HG3 := Lib.hid (drewr (grown_new2 ((grown_none HG1.out (some B)).trans (grown_setCell w1 B 16 (.int .i64 0))) (grown_setCell (w1.setCell ⟨B, 16, none⟩ (.int .i64 0)) w.heap.size 0 (.bool true)) (Nat.le_refl _)))
      refine reg_open (some B) (n := 8) rfl (by kernel_rfl) ?_
      refine reg_take 0 (some 34) (v := ?_) rfl rfl (by kernel_rfl) (by kernel_rfl) (by kernel_rfl) (fun _ _ _ h => h) (by rfl) ?_ ?_
      rotate_left
      · intro W hW; go_simp; first | done | with_reducible rfl
      try simp only [Act.put, List.setIfInBounds_toArray, List.set_cons_zero, List.set_cons_succ]
      refine reg_take 1 (some 35) (v := ?_) rfl rfl (by kernel_rfl) (by kernel_rfl) (by kernel_rfl) (fun _ _ _ h => h) (by rfl) ?_ ?_
      rotate_left
      · intro W hW; go_simp; first | done | with_reducible rfl
      try simp only [Act.put, List.setIfInBounds_toArray, List.set_cons_zero, List.set_cons_succ]
      refine reg_take 2 (some 36) (v := ?_) rfl rfl (by kernel_rfl) (by kernel_rfl) (by kernel_rfl) (fun _ _ _ h => h) (by rfl) ?_ ?_
      rotate_left
      · intro W hW; have cE := cells4 (((hW).block w.heap.size (lt_of_block HE3.out) (by simp; omega)).trans HE3.out); obtain ⟨c0, c1, c2, c3⟩ := cE; go_simp; first | done | with_reducible rfl
      try simp only [Act.put, List.setIfInBounds_toArray, List.set_cons_zero, List.set_cons_succ]
      refine reg_take 3 (some 37) (v := ?_) rfl rfl (by kernel_rfl) (by kernel_rfl) (by kernel_rfl) (fun _ _ _ h => h) (by rfl) ?_ ?_
      rotate_left
      · intro W hW; go_simp; first | done | with_reducible rfl
      try simp only [Act.put, List.setIfInBounds_toArray, List.set_cons_zero, List.set_cons_succ]
      refine reg_take 4 (some 38) (v := ?_) rfl rfl (by kernel_rfl) (by kernel_rfl) (by kernel_rfl) (fun _ _ _ h => h) (by rfl) ?_ ?_
      rotate_left
      · intro W hW; go_simp; first | done | with_reducible rfl
      try simp only [Act.put, List.setIfInBounds_toArray, List.set_cons_zero, List.set_cons_succ]
      refine reg_take 5 (some 39) (v := ?_) rfl rfl (by kernel_rfl) (by kernel_rfl) (by kernel_rfl) (fun _ _ _ h => h) (by rfl) ?_ ?_
      rotate_left
      · intro W hW; go_simp; first | done | with_reducible rfl
      try simp only [Act.put, List.setIfInBounds_toArray, List.set_cons_zero, List.set_cons_succ]
      refine reg_take 6 (some 40) (v := ?_) rfl rfl (by kernel_rfl) (by kernel_rfl) (by kernel_rfl) (fun _ _ _ h => h) (by rfl) ?_ ?_
      rotate_left
      · intro W hW; go_simp; first | done | with_reducible rfl
      try simp only [Act.put, List.setIfInBounds_toArray, List.set_cons_zero, List.set_cons_succ]
      refine wpAnyH_ready (rs := [7]) (by kernel_rfl) (by simp) ?_
      refine (AllReadyH.cons (o := { dst := none, op := Op.store 27 (Operand.tmp 40) (Operand.tmp 36), type := 0, pos := "tlb.go:65", after := #[{ on := 6, ground := Ground.data }, { on := 2, ground := Ground.data }, { on := 0, ground := Ground.phase }, { on := 1, ground := Ground.phase }, { on := 2, ground := Ground.phase }], guard := none }) rfl (fun K hK => ?_) AllReadyH.nil)
      go_simp
      have h2 := drew_both (grown_setCells (g := B) [.bool true, .int .u32 page, .int .u32 frame, .bool wr] 12 ((w1.setCell ⟨B, 16, none⟩ (.int .i64 0)).setCell ⟨w.heap.size, 0, none⟩ (.bool true))); simp only [World.setCells, Nat.reduceAdd] at h2
      refine reg_next hK h2 ?_
      clear hK K
      try simp only [Act.put, List.setIfInBounds_toArray, List.set_cons_zero, List.set_cons_succ]
      refine wpAnyH_done (by kernel_rfl) ?_ _
      have hb2 := heap_setCells [.bool true, .int .u32 page, .int .u32 frame, .bool wr] 12 _ ((w1.setCell ⟨B, 16, none⟩ (.int .i64 0)).setCell ⟨w.heap.size, 0, none⟩ (.bool true)) HT3.out.blk
      simp only [World.setCells, setMany, Nat.reduceAdd, List.set_cons_zero, List.set_cons_succ] at hb2
      have HB := Lib.hid (Tb.drew (T := { (⟨ta, tb, tc, td, 0⟩ : Tl) with d := ⟨true, page, frame, wr⟩ }) hb2)
      have HG9 := Lib.hid (HG3.out.trans h2)
      clear hb2 h2
      go_wp2
      go_ret
      exact ⟨by first | rfl | (rw [e3]; rfl), by first | exact HB.out | (rw [hv]; exact HB.out), HG9.out⟩
  · have e1 : T.at page = 0 := by simp [Tl.at, hf]
    have e2 : T.has page = true := by simp [Tl.has, hf]
    have e3 : T.slot page = 0 := by simp [Tl.slot, hf]
    have hv : T.fill page frame wr = { T with a := ⟨true, page, frame, wr⟩ } := by unfold Tl.fill; rw [hf]; rfl
    rw [e1, e2]
    have hE3 := heap_true HE1.out (.bool true)
    have hT3 := HT1.out.kept (grown_setCell w1 w.heap.size 0 (.bool true)) (by simp; omega)
    have HV := Lib.hid hv
    have HS := Lib.hid e3
    clear hv e3
    · go_wp2_with fail
      have HE3 := Lib.hid (show ((w1.setCell ⟨w.heap.size, 0, none⟩ (.bool true)).drew).heap[w.heap.size]? = some (.cells #[.bool true, .int .u32 page, .int .u32 frame, .bool wr] 27 (0, 0)) from hE3)
      have HT3 := Lib.hid (show Tb ((w1.setCell ⟨w.heap.size, 0, none⟩ (.bool true)).drew) B T from hT3)
      clear hE3 hT3 hfz hfB hcE hnx
      have f0 := frozen_all HT1.out.blk 0
      have g0 : w1.cell? ⟨B, 0, none⟩ = some _ := (cells_all HT1.out.blk 0).trans rfl
      have f1 := frozen_all HT1.out.blk 1
      have g1 : w1.cell? ⟨B, 1, none⟩ = some _ := (cells_all HT1.out.blk 1).trans rfl
      have f2 := frozen_all HT1.out.blk 2
      have g2 : w1.cell? ⟨B, 2, none⟩ = some _ := (cells_all HT1.out.blk 2).trans rfl
      have f3 := frozen_all HT1.out.blk 3
      have g3 : w1.cell? ⟨B, 3, none⟩ = some _ := (cells_all HT1.out.blk 3).trans rfl
      have HG3 := Lib.hid (drewr (grown_new2 (grown_none HG1.out (some B)) (grown_setCell w1 w.heap.size 0 (.bool true)) (Nat.le_refl _)))
      refine reg_open (some B) (n := 8) rfl (by kernel_rfl) ?_
      refine reg_take 0 (some 34) (v := ?_) rfl rfl (by kernel_rfl) (by kernel_rfl) (by kernel_rfl) (fun _ _ _ h => h) (by rfl) ?_ ?_
      rotate_left
      · intro W hW; go_simp; first | done | with_reducible rfl
      try simp only [Act.put, List.setIfInBounds_toArray, List.set_cons_zero, List.set_cons_succ]
      refine reg_take 1 (some 35) (v := ?_) rfl rfl (by kernel_rfl) (by kernel_rfl) (by kernel_rfl) (fun _ _ _ h => h) (by rfl) ?_ ?_
      rotate_left
      · intro W hW; go_simp; first | done | with_reducible rfl
      try simp only [Act.put, List.setIfInBounds_toArray, List.set_cons_zero, List.set_cons_succ]
      refine reg_take 2 (some 36) (v := ?_) rfl rfl (by kernel_rfl) (by kernel_rfl) (by kernel_rfl) (fun _ _ _ h => h) (by rfl) ?_ ?_
      rotate_left
      · intro W hW; have cE := cells4 (((hW).block w.heap.size (lt_of_block HE3.out) (by simp; omega)).trans HE3.out); obtain ⟨c0, c1, c2, c3⟩ := cE; go_simp; first | done | with_reducible rfl
      try simp only [Act.put, List.setIfInBounds_toArray, List.set_cons_zero, List.set_cons_succ]
      refine reg_take 3 (some 37) (v := ?_) rfl rfl (by kernel_rfl) (by kernel_rfl) (by kernel_rfl) (fun _ _ _ h => h) (by rfl) ?_ ?_
      rotate_left
      · intro W hW; go_simp; first | done | with_reducible rfl
      try simp only [Act.put, List.setIfInBounds_toArray, List.set_cons_zero, List.set_cons_succ]
      refine reg_take 4 (some 38) (v := ?_) rfl rfl (by kernel_rfl) (by kernel_rfl) (by kernel_rfl) (fun _ _ _ h => h) (by rfl) ?_ ?_
      rotate_left
      · intro W hW; go_simp; first | done | with_reducible rfl
      try simp only [Act.put, List.setIfInBounds_toArray, List.set_cons_zero, List.set_cons_succ]
      refine reg_take 5 (some 39) (v := ?_) rfl rfl (by kernel_rfl) (by kernel_rfl) (by kernel_rfl) (fun _ _ _ h => h) (by rfl) ?_ ?_
      rotate_left
      · intro W hW; go_simp; first | done | with_reducible rfl
      try simp only [Act.put, List.setIfInBounds_toArray, List.set_cons_zero, List.set_cons_succ]
      refine reg_take 6 (some 40) (v := ?_) rfl rfl (by kernel_rfl) (by kernel_rfl) (by kernel_rfl) (fun _ _ _ h => h) (by rfl) ?_ ?_
      rotate_left
      · intro W hW; go_simp; first | done | with_reducible rfl
      try simp only [Act.put, List.setIfInBounds_toArray, List.set_cons_zero, List.set_cons_succ]
      refine wpAnyH_ready (rs := [7]) (by kernel_rfl) (by simp) ?_
      refine (AllReadyH.cons (o := { dst := none, op := Op.store 27 (Operand.tmp 40) (Operand.tmp 36), type := 0, pos := "tlb.go:65", after := #[{ on := 6, ground := Ground.data }, { on := 2, ground := Ground.data }, { on := 0, ground := Ground.phase }, { on := 1, ground := Ground.phase }, { on := 2, ground := Ground.phase }], guard := none }) rfl (fun K hK => ?_) AllReadyH.nil)
      go_simp
      have h2 := drew_both (grown_setCells (g := B) [.bool true, .int .u32 page, .int .u32 frame, .bool wr] 0 (w1.setCell ⟨w.heap.size, 0, none⟩ (.bool true))); simp only [World.setCells, Nat.reduceAdd] at h2
      refine reg_next hK h2 ?_
      clear hK K
      try simp only [Act.put, List.setIfInBounds_toArray, List.set_cons_zero, List.set_cons_succ]
      refine wpAnyH_done (by kernel_rfl) ?_ _
      have hb2 := heap_setCells [.bool true, .int .u32 page, .int .u32 frame, .bool wr] 0 _ (w1.setCell ⟨w.heap.size, 0, none⟩ (.bool true)) HT3.out.blk
      simp only [World.setCells, setMany, Nat.reduceAdd, List.set_cons_zero, List.set_cons_succ] at hb2
      have HB := Lib.hid (Tb.drew (T := { T with a := ⟨true, page, frame, wr⟩ }) hb2)
      have HG9 := Lib.hid (HG3.out.trans h2)
      clear hb2 h2
      go_wp2
      go_ret
      exact ⟨by rw [HS.out]; rfl, by rw [HV.out]; exact HB.out, HG9.out⟩
  · have e1 : T.at page = 1 := by simp [Tl.at, hf]
    have e2 : T.has page = true := by simp [Tl.has, hf]
    have e3 : T.slot page = 1 := by simp [Tl.slot, hf]
    have hv : T.fill page frame wr = { T with b := ⟨true, page, frame, wr⟩ } := by unfold Tl.fill; rw [hf]; rfl
    rw [e1, e2]
    have hE3 := heap_true HE1.out (.bool true)
    have hT3 := HT1.out.kept (grown_setCell w1 w.heap.size 0 (.bool true)) (by simp; omega)
    have HV := Lib.hid hv
    have HS := Lib.hid e3
    clear hv e3
    · go_wp2_with fail
      have HE3 := Lib.hid (show ((w1.setCell ⟨w.heap.size, 0, none⟩ (.bool true)).drew).heap[w.heap.size]? = some (.cells #[.bool true, .int .u32 page, .int .u32 frame, .bool wr] 27 (0, 0)) from hE3)
      have HT3 := Lib.hid (show Tb ((w1.setCell ⟨w.heap.size, 0, none⟩ (.bool true)).drew) B T from hT3)
      clear hE3 hT3 hfz hfB hcE hnx
      have f0 := frozen_all HT1.out.blk 4
      have g0 : w1.cell? ⟨B, 4, none⟩ = some _ := (cells_all HT1.out.blk 4).trans rfl
      have f1 := frozen_all HT1.out.blk 5
      have g1 : w1.cell? ⟨B, 5, none⟩ = some _ := (cells_all HT1.out.blk 5).trans rfl
      have f2 := frozen_all HT1.out.blk 6
      have g2 : w1.cell? ⟨B, 6, none⟩ = some _ := (cells_all HT1.out.blk 6).trans rfl
      have f3 := frozen_all HT1.out.blk 7
      have g3 : w1.cell? ⟨B, 7, none⟩ = some _ := (cells_all HT1.out.blk 7).trans rfl
      have HG3 := Lib.hid (drewr (grown_new2 (grown_none HG1.out (some B)) (grown_setCell w1 w.heap.size 0 (.bool true)) (Nat.le_refl _)))
      refine reg_open (some B) (n := 8) rfl (by kernel_rfl) ?_
      refine reg_take 0 (some 34) (v := ?_) rfl rfl (by kernel_rfl) (by kernel_rfl) (by kernel_rfl) (fun _ _ _ h => h) (by rfl) ?_ ?_
      rotate_left
      · intro W hW; go_simp; first | done | with_reducible rfl
      try simp only [Act.put, List.setIfInBounds_toArray, List.set_cons_zero, List.set_cons_succ]
      refine reg_take 1 (some 35) (v := ?_) rfl rfl (by kernel_rfl) (by kernel_rfl) (by kernel_rfl) (fun _ _ _ h => h) (by rfl) ?_ ?_
      rotate_left
      · intro W hW; go_simp; first | done | with_reducible rfl
      try simp only [Act.put, List.setIfInBounds_toArray, List.set_cons_zero, List.set_cons_succ]
      refine reg_take 2 (some 36) (v := ?_) rfl rfl (by kernel_rfl) (by kernel_rfl) (by kernel_rfl) (fun _ _ _ h => h) (by rfl) ?_ ?_
      rotate_left
      · intro W hW; have cE := cells4 (((hW).block w.heap.size (lt_of_block HE3.out) (by simp; omega)).trans HE3.out); obtain ⟨c0, c1, c2, c3⟩ := cE; go_simp; first | done | with_reducible rfl
      try simp only [Act.put, List.setIfInBounds_toArray, List.set_cons_zero, List.set_cons_succ]
      refine reg_take 3 (some 37) (v := ?_) rfl rfl (by kernel_rfl) (by kernel_rfl) (by kernel_rfl) (fun _ _ _ h => h) (by rfl) ?_ ?_
      rotate_left
      · intro W hW; go_simp; first | done | with_reducible rfl
      try simp only [Act.put, List.setIfInBounds_toArray, List.set_cons_zero, List.set_cons_succ]
      refine reg_take 4 (some 38) (v := ?_) rfl rfl (by kernel_rfl) (by kernel_rfl) (by kernel_rfl) (fun _ _ _ h => h) (by rfl) ?_ ?_
      rotate_left
      · intro W hW; go_simp; first | done | with_reducible rfl
      try simp only [Act.put, List.setIfInBounds_toArray, List.set_cons_zero, List.set_cons_succ]
      refine reg_take 5 (some 39) (v := ?_) rfl rfl (by kernel_rfl) (by kernel_rfl) (by kernel_rfl) (fun _ _ _ h => h) (by rfl) ?_ ?_
      rotate_left
      · intro W hW; go_simp; first | done | with_reducible rfl
      try simp only [Act.put, List.setIfInBounds_toArray, List.set_cons_zero, List.set_cons_succ]
      refine reg_take 6 (some 40) (v := ?_) rfl rfl (by kernel_rfl) (by kernel_rfl) (by kernel_rfl) (fun _ _ _ h => h) (by rfl) ?_ ?_
      rotate_left
      · intro W hW; go_simp; first | done | with_reducible rfl
      try simp only [Act.put, List.setIfInBounds_toArray, List.set_cons_zero, List.set_cons_succ]
      refine wpAnyH_ready (rs := [7]) (by kernel_rfl) (by simp) ?_
      refine (AllReadyH.cons (o := { dst := none, op := Op.store 27 (Operand.tmp 40) (Operand.tmp 36), type := 0, pos := "tlb.go:65", after := #[{ on := 6, ground := Ground.data }, { on := 2, ground := Ground.data }, { on := 0, ground := Ground.phase }, { on := 1, ground := Ground.phase }, { on := 2, ground := Ground.phase }], guard := none }) rfl (fun K hK => ?_) AllReadyH.nil)
      go_simp
      have h2 := drew_both (grown_setCells (g := B) [.bool true, .int .u32 page, .int .u32 frame, .bool wr] 4 (w1.setCell ⟨w.heap.size, 0, none⟩ (.bool true))); simp only [World.setCells, Nat.reduceAdd] at h2
      refine reg_next hK h2 ?_
      clear hK K
      try simp only [Act.put, List.setIfInBounds_toArray, List.set_cons_zero, List.set_cons_succ]
      refine wpAnyH_done (by kernel_rfl) ?_ _
      have hb2 := heap_setCells [.bool true, .int .u32 page, .int .u32 frame, .bool wr] 4 _ (w1.setCell ⟨w.heap.size, 0, none⟩ (.bool true)) HT3.out.blk
      simp only [World.setCells, setMany, Nat.reduceAdd, List.set_cons_zero, List.set_cons_succ] at hb2
      have HB := Lib.hid (Tb.drew (T := { T with b := ⟨true, page, frame, wr⟩ }) hb2)
      have HG9 := Lib.hid (HG3.out.trans h2)
      clear hb2 h2
      go_wp2
      go_ret
      exact ⟨by rw [HS.out]; rfl, by rw [HV.out]; exact HB.out, HG9.out⟩
  · have e1 : T.at page = 2 := by simp [Tl.at, hf]
    have e2 : T.has page = true := by simp [Tl.has, hf]
    have e3 : T.slot page = 2 := by simp [Tl.slot, hf]
    have hv : T.fill page frame wr = { T with c := ⟨true, page, frame, wr⟩ } := by unfold Tl.fill; rw [hf]; rfl
    rw [e1, e2]
    have hE3 := heap_true HE1.out (.bool true)
    have hT3 := HT1.out.kept (grown_setCell w1 w.heap.size 0 (.bool true)) (by simp; omega)
    have HV := Lib.hid hv
    have HS := Lib.hid e3
    clear hv e3
    · go_wp2_with fail
      have HE3 := Lib.hid (show ((w1.setCell ⟨w.heap.size, 0, none⟩ (.bool true)).drew).heap[w.heap.size]? = some (.cells #[.bool true, .int .u32 page, .int .u32 frame, .bool wr] 27 (0, 0)) from hE3)
      have HT3 := Lib.hid (show Tb ((w1.setCell ⟨w.heap.size, 0, none⟩ (.bool true)).drew) B T from hT3)
      clear hE3 hT3 hfz hfB hcE hnx
      have f0 := frozen_all HT1.out.blk 8
      have g0 : w1.cell? ⟨B, 8, none⟩ = some _ := (cells_all HT1.out.blk 8).trans rfl
      have f1 := frozen_all HT1.out.blk 9
      have g1 : w1.cell? ⟨B, 9, none⟩ = some _ := (cells_all HT1.out.blk 9).trans rfl
      have f2 := frozen_all HT1.out.blk 10
      have g2 : w1.cell? ⟨B, 10, none⟩ = some _ := (cells_all HT1.out.blk 10).trans rfl
      have f3 := frozen_all HT1.out.blk 11
      have g3 : w1.cell? ⟨B, 11, none⟩ = some _ := (cells_all HT1.out.blk 11).trans rfl
      have HG3 := Lib.hid (drewr (grown_new2 (grown_none HG1.out (some B)) (grown_setCell w1 w.heap.size 0 (.bool true)) (Nat.le_refl _)))
      refine reg_open (some B) (n := 8) rfl (by kernel_rfl) ?_
      refine reg_take 0 (some 34) (v := ?_) rfl rfl (by kernel_rfl) (by kernel_rfl) (by kernel_rfl) (fun _ _ _ h => h) (by rfl) ?_ ?_
      rotate_left
      · intro W hW; go_simp; first | done | with_reducible rfl
      try simp only [Act.put, List.setIfInBounds_toArray, List.set_cons_zero, List.set_cons_succ]
      refine reg_take 1 (some 35) (v := ?_) rfl rfl (by kernel_rfl) (by kernel_rfl) (by kernel_rfl) (fun _ _ _ h => h) (by rfl) ?_ ?_
      rotate_left
      · intro W hW; go_simp; first | done | with_reducible rfl
      try simp only [Act.put, List.setIfInBounds_toArray, List.set_cons_zero, List.set_cons_succ]
      refine reg_take 2 (some 36) (v := ?_) rfl rfl (by kernel_rfl) (by kernel_rfl) (by kernel_rfl) (fun _ _ _ h => h) (by rfl) ?_ ?_
      rotate_left
      · intro W hW; have cE := cells4 (((hW).block w.heap.size (lt_of_block HE3.out) (by simp; omega)).trans HE3.out); obtain ⟨c0, c1, c2, c3⟩ := cE; go_simp; first | done | with_reducible rfl
      try simp only [Act.put, List.setIfInBounds_toArray, List.set_cons_zero, List.set_cons_succ]
      refine reg_take 3 (some 37) (v := ?_) rfl rfl (by kernel_rfl) (by kernel_rfl) (by kernel_rfl) (fun _ _ _ h => h) (by rfl) ?_ ?_
      rotate_left
      · intro W hW; go_simp; first | done | with_reducible rfl
      try simp only [Act.put, List.setIfInBounds_toArray, List.set_cons_zero, List.set_cons_succ]
      refine reg_take 4 (some 38) (v := ?_) rfl rfl (by kernel_rfl) (by kernel_rfl) (by kernel_rfl) (fun _ _ _ h => h) (by rfl) ?_ ?_
      rotate_left
      · intro W hW; go_simp; first | done | with_reducible rfl
      try simp only [Act.put, List.setIfInBounds_toArray, List.set_cons_zero, List.set_cons_succ]
      refine reg_take 5 (some 39) (v := ?_) rfl rfl (by kernel_rfl) (by kernel_rfl) (by kernel_rfl) (fun _ _ _ h => h) (by rfl) ?_ ?_
      rotate_left
      · intro W hW; go_simp; first | done | with_reducible rfl
      try simp only [Act.put, List.setIfInBounds_toArray, List.set_cons_zero, List.set_cons_succ]
      refine reg_take 6 (some 40) (v := ?_) rfl rfl (by kernel_rfl) (by kernel_rfl) (by kernel_rfl) (fun _ _ _ h => h) (by rfl) ?_ ?_
      rotate_left
      · intro W hW; go_simp; first | done | with_reducible rfl
      try simp only [Act.put, List.setIfInBounds_toArray, List.set_cons_zero, List.set_cons_succ]
      refine wpAnyH_ready (rs := [7]) (by kernel_rfl) (by simp) ?_
      refine (AllReadyH.cons (o := { dst := none, op := Op.store 27 (Operand.tmp 40) (Operand.tmp 36), type := 0, pos := "tlb.go:65", after := #[{ on := 6, ground := Ground.data }, { on := 2, ground := Ground.data }, { on := 0, ground := Ground.phase }, { on := 1, ground := Ground.phase }, { on := 2, ground := Ground.phase }], guard := none }) rfl (fun K hK => ?_) AllReadyH.nil)
      go_simp
      have h2 := drew_both (grown_setCells (g := B) [.bool true, .int .u32 page, .int .u32 frame, .bool wr] 8 (w1.setCell ⟨w.heap.size, 0, none⟩ (.bool true))); simp only [World.setCells, Nat.reduceAdd] at h2
      refine reg_next hK h2 ?_
      clear hK K
      try simp only [Act.put, List.setIfInBounds_toArray, List.set_cons_zero, List.set_cons_succ]
      refine wpAnyH_done (by kernel_rfl) ?_ _
      have hb2 := heap_setCells [.bool true, .int .u32 page, .int .u32 frame, .bool wr] 8 _ (w1.setCell ⟨w.heap.size, 0, none⟩ (.bool true)) HT3.out.blk
      simp only [World.setCells, setMany, Nat.reduceAdd, List.set_cons_zero, List.set_cons_succ] at hb2
      have HB := Lib.hid (Tb.drew (T := { T with c := ⟨true, page, frame, wr⟩ }) hb2)
      have HG9 := Lib.hid (HG3.out.trans h2)
      clear hb2 h2
      go_wp2
      go_ret
      exact ⟨by rw [HS.out]; rfl, by rw [HV.out]; exact HB.out, HG9.out⟩
  · have e1 : T.at page = 3 := by simp [Tl.at, hf]
    have e2 : T.has page = true := by simp [Tl.has, hf]
    have e3 : T.slot page = 3 := by simp [Tl.slot, hf]
    have hv : T.fill page frame wr = { T with d := ⟨true, page, frame, wr⟩ } := by unfold Tl.fill; rw [hf]; rfl
    rw [e1, e2]
    have hE3 := heap_true HE1.out (.bool true)
    have hT3 := HT1.out.kept (grown_setCell w1 w.heap.size 0 (.bool true)) (by simp; omega)
    have HV := Lib.hid hv
    have HS := Lib.hid e3
    clear hv e3
    · go_wp2_with fail
      have HE3 := Lib.hid (show ((w1.setCell ⟨w.heap.size, 0, none⟩ (.bool true)).drew).heap[w.heap.size]? = some (.cells #[.bool true, .int .u32 page, .int .u32 frame, .bool wr] 27 (0, 0)) from hE3)
      have HT3 := Lib.hid (show Tb ((w1.setCell ⟨w.heap.size, 0, none⟩ (.bool true)).drew) B T from hT3)
      clear hE3 hT3 hfz hfB hcE hnx
      have f0 := frozen_all HT1.out.blk 12
      have g0 : w1.cell? ⟨B, 12, none⟩ = some _ := (cells_all HT1.out.blk 12).trans rfl
      have f1 := frozen_all HT1.out.blk 13
      have g1 : w1.cell? ⟨B, 13, none⟩ = some _ := (cells_all HT1.out.blk 13).trans rfl
      have f2 := frozen_all HT1.out.blk 14
      have g2 : w1.cell? ⟨B, 14, none⟩ = some _ := (cells_all HT1.out.blk 14).trans rfl
      have f3 := frozen_all HT1.out.blk 15
      have g3 : w1.cell? ⟨B, 15, none⟩ = some _ := (cells_all HT1.out.blk 15).trans rfl
      have HG3 := Lib.hid (drewr (grown_new2 (grown_none HG1.out (some B)) (grown_setCell w1 w.heap.size 0 (.bool true)) (Nat.le_refl _)))
      refine reg_open (some B) (n := 8) rfl (by kernel_rfl) ?_
      refine reg_take 0 (some 34) (v := ?_) rfl rfl (by kernel_rfl) (by kernel_rfl) (by kernel_rfl) (fun _ _ _ h => h) (by rfl) ?_ ?_
      rotate_left
      · intro W hW; go_simp; first | done | with_reducible rfl
      try simp only [Act.put, List.setIfInBounds_toArray, List.set_cons_zero, List.set_cons_succ]
      refine reg_take 1 (some 35) (v := ?_) rfl rfl (by kernel_rfl) (by kernel_rfl) (by kernel_rfl) (fun _ _ _ h => h) (by rfl) ?_ ?_
      rotate_left
      · intro W hW; go_simp; first | done | with_reducible rfl
      try simp only [Act.put, List.setIfInBounds_toArray, List.set_cons_zero, List.set_cons_succ]
      refine reg_take 2 (some 36) (v := ?_) rfl rfl (by kernel_rfl) (by kernel_rfl) (by kernel_rfl) (fun _ _ _ h => h) (by rfl) ?_ ?_
      rotate_left
      · intro W hW; have cE := cells4 (((hW).block w.heap.size (lt_of_block HE3.out) (by simp; omega)).trans HE3.out); obtain ⟨c0, c1, c2, c3⟩ := cE; go_simp; first | done | with_reducible rfl
      try simp only [Act.put, List.setIfInBounds_toArray, List.set_cons_zero, List.set_cons_succ]
      refine reg_take 3 (some 37) (v := ?_) rfl rfl (by kernel_rfl) (by kernel_rfl) (by kernel_rfl) (fun _ _ _ h => h) (by rfl) ?_ ?_
      rotate_left
      · intro W hW; go_simp; first | done | with_reducible rfl
      try simp only [Act.put, List.setIfInBounds_toArray, List.set_cons_zero, List.set_cons_succ]
      refine reg_take 4 (some 38) (v := ?_) rfl rfl (by kernel_rfl) (by kernel_rfl) (by kernel_rfl) (fun _ _ _ h => h) (by rfl) ?_ ?_
      rotate_left
      · intro W hW; go_simp; first | done | with_reducible rfl
      try simp only [Act.put, List.setIfInBounds_toArray, List.set_cons_zero, List.set_cons_succ]
      refine reg_take 5 (some 39) (v := ?_) rfl rfl (by kernel_rfl) (by kernel_rfl) (by kernel_rfl) (fun _ _ _ h => h) (by rfl) ?_ ?_
      rotate_left
      · intro W hW; go_simp; first | done | with_reducible rfl
      try simp only [Act.put, List.setIfInBounds_toArray, List.set_cons_zero, List.set_cons_succ]
      refine reg_take 6 (some 40) (v := ?_) rfl rfl (by kernel_rfl) (by kernel_rfl) (by kernel_rfl) (fun _ _ _ h => h) (by rfl) ?_ ?_
      rotate_left
      · intro W hW; go_simp; first | done | with_reducible rfl
      try simp only [Act.put, List.setIfInBounds_toArray, List.set_cons_zero, List.set_cons_succ]
      refine wpAnyH_ready (rs := [7]) (by kernel_rfl) (by simp) ?_
      refine (AllReadyH.cons (o := { dst := none, op := Op.store 27 (Operand.tmp 40) (Operand.tmp 36), type := 0, pos := "tlb.go:65", after := #[{ on := 6, ground := Ground.data }, { on := 2, ground := Ground.data }, { on := 0, ground := Ground.phase }, { on := 1, ground := Ground.phase }, { on := 2, ground := Ground.phase }], guard := none }) rfl (fun K hK => ?_) AllReadyH.nil)
      go_simp
      have h2 := drew_both (grown_setCells (g := B) [.bool true, .int .u32 page, .int .u32 frame, .bool wr] 12 (w1.setCell ⟨w.heap.size, 0, none⟩ (.bool true))); simp only [World.setCells, Nat.reduceAdd] at h2
      refine reg_next hK h2 ?_
      clear hK K
      try simp only [Act.put, List.setIfInBounds_toArray, List.set_cons_zero, List.set_cons_succ]
      refine wpAnyH_done (by kernel_rfl) ?_ _
      have hb2 := heap_setCells [.bool true, .int .u32 page, .int .u32 frame, .bool wr] 12 _ (w1.setCell ⟨w.heap.size, 0, none⟩ (.bool true)) HT3.out.blk
      simp only [World.setCells, setMany, Nat.reduceAdd, List.set_cons_zero, List.set_cons_succ] at hb2
      have HB := Lib.hid (Tb.drew (T := { T with d := ⟨true, page, frame, wr⟩ }) hb2)
      have HG9 := Lib.hid (HG3.out.trans h2)
      clear hb2 h2
      go_wp2
      go_ret
      exact ⟨by rw [HS.out]; rfl, by rw [HV.out]; exact HB.out, HG9.out⟩
end Go.Proofs.Ytcahpmlajfbidaa
