import Derived.Test.YtmdgehpmeikgfaaProg
import Derived.Test.YtmdgehpmeikgfaaMem
import Derived.Deep.DeepFit
import Derived.Deep.MidRow
import Derived.BigQuiet
import Derived.Deep.QuietTactic
import Derived.Lib.Hide
import Derived.Handy
import Derived.Laws.BitsAllLaws
import Derived.Test.YtmdgehpmeikgfaaBlk
import Derived.Test.YtmdgehpmeikgfaaReg
namespace Go.Proofs.Ytmdgehpmeikgfaa
open Go.RowKit
/-- The cells of lines, but for the last: it is made. -/
structure Lc where
  alarm : Int
  mask : Int
  u0 : Bool
  u1 : Bool
  u2 : Bool
  u3 : Bool
  qv : Value
  first : Int
  ov : Value
abbrev Lc.cells (c : Lc) : Array Value := #[.int .u32 c.alarm, .int .u32 c.mask, .bool c.u0, .bool c.u1, .bool c.u2, .bool c.u3, c.qv, .int .i64 c.first, c.ov, .bool true]
/-- The block of lines. -/
def Lk (w : World) (B : Nat) (c : Lc) : Prop := w.heap[B]? = some (.cells c.cells 71 (0, 0))
theorem Lk.blk {w : World} {B : Nat} {c : Lc} (h : Lk w B c) : w.heap[B]? = some (.cells c.cells 71 (0, 0)) := h
theorem Lk.kept {w w' : World} {B : Nat} {c : Lc} {row : Option Nat} (h : Lk w B c) (hg : w.grownBy w' row) (hne : some B ≠ row) : Lk w' B c := (hg.block B (lt_of_block h) hne).trans h
theorem Lk.keptNone {w w' : World} {B : Nat} {c : Lc} (h : Lk w B c) (hg : w.grownBy w' none) : Lk w' B c := h.kept hg (by simp)
theorem Lk.lt {w : World} {B : Nat} {c : Lc} (h : Lk w B c) : B < w.heap.size := lt_of_block h
theorem Lk.drew {w : World} {B : Nat} {c : Lc} (h : Lk w B c) : Lk w.drew B c := h
theorem Lk.cell {w : World} {B : Nat} {c : Lc} (h : Lk w B c) (j : Nat) : w.cell? ⟨B, j, none⟩ = c.cells[j]? := cells_all h j
theorem Lk.free {w : World} {B : Nat} {c : Lc} (h : Lk w B c) (j : Nat) : w.frozen? ⟨B, j, none⟩ = false := frozen_all h j
theorem Lk.set {w : World} {B : Nat} {c c' : Lc} (j : Nat) (v : Value) (h : Lk w B c) (e : c'.cells = c.cells.setIfInBounds j v) : Lk (w.setCell ⟨B, j, none⟩ v) B c' := by
  have := heap_setCell_at (j := j) v h.blk
  rw [← e] at this
  exact this
theorem Lk.set_grown {w : World} {B : Nat} (j : Nat) (v : Value) : w.grownBy (w.setCell ⟨B, j, none⟩ v) (some B) :=
  ⟨rfl, rfl, rfl, by simp [World.setCell], fun k _ hk => Below.heap_setCell _ _ _ _ (fun e => hk (by rw [e]))⟩
def Lc.new : Lc := ⟨0, 0, false, false, false, false, .slice none 0 0, 0, .slice none 0 0⟩
theorem none_nil (w : World) : Calls Try.prog 39 #[.pointer none] w fun e w' => e = .returned (.bool true) ∧ w = w' := by
  go_enter Try.func39, Try.ntmps39
  go_wp2
  go_ret
  exact ⟨rfl, rfl⟩
theorem none_lk (B : Nat) (c : Lc) (w : World) (h : Lk w B c) : Calls Try.prog 39 #[.pointer (some ⟨B, 0, none⟩)] w fun e w' => e = .returned (.bool false) ∧ w = w' := by
  have hc : w.cell? ⟨B, 9, none⟩ = some (.bool true) := h.cell 9
  clear h
  go_enter Try.func39, Try.ntmps39
  go_wp2
  go_ret
  exact ⟨rfl, rfl⟩
theorem new_any (w : World) : Calls Try.prog 9 #[] w fun e w' => ∃ B, e = .returned (.pointer (some ⟨B, 0, none⟩)) ∧ w.heap.size ≤ B ∧ Lk w' B .new ∧ w.grownBy w' none := by
  have H := Lib.hid (heap_alloc_new w (.cells Lc.new.cells 71))
  go_enter Try.func9, Try.ntmps9
  go_wp2
  go_ret
  exact ⟨w.heap.size, rfl, Nat.le_refl _, H.out, World.grownBy_alloc _ _ _⟩
theorem setAlarm_lk (B : Nat) (c : Lc) (a : Int) (w : World) (h : Lk w B c) : Calls Try.prog 10 #[.pointer (some ⟨B, 0, none⟩), .int .u32 a] w fun e w' => e = .returned (.tuple #[]) ∧ Lk w' B { c with alarm := a } ∧ w.grownBy w' (some B) := by
  have H := Lib.hid h
  have H2 := Lib.hid (h.set (c' := { c with alarm := a }) 0 (.int .u32 a) rfl)
  have c0 : w.cell? ⟨B, 0, none⟩ = some (.int .u32 c.alarm) := h.cell 0
  have f0 := h.free 0
  clear h
  go_enter Try.func10, Try.ntmps10
  go_wp2_with fail
  refine (none_lk B c _ H.out).mono ?_; rintro e w' ⟨rfl, rfl⟩
  go_wp2
  go_end0
  exact ⟨rfl, H2.out, Lk.set_grown _ _⟩
theorem alarm_lk (B : Nat) (c : Lc) (w : World) (h : Lk w B c) : Calls Try.prog 37 #[.pointer (some ⟨B, 0, none⟩)] w fun e w' => e = .returned (.int .u32 c.alarm) ∧ w = w' := by
  have H := Lib.hid h
  have c0 : w.cell? ⟨B, 0, none⟩ = some (.int .u32 c.alarm) := h.cell 0
  clear h
  go_enter Try.func37, Try.ntmps37
  go_wp2_with fail
  refine (none_lk B c _ H.out).mono ?_; rintro e w' ⟨rfl, rfl⟩
  go_wp2
  go_ret
  exact ⟨rfl, rfl⟩
theorem mask_lk (B : Nat) (c : Lc) (w : World) (h : Lk w B c) : Calls Try.prog 22 #[.pointer (some ⟨B, 0, none⟩)] w fun e w' => e = .returned (.int .u32 c.mask) ∧ w = w' := by
  have H := Lib.hid h
  have c0 : w.cell? ⟨B, 1, none⟩ = some (.int .u32 c.mask) := h.cell 1
  clear h
  go_enter Try.func22, Try.ntmps22
  go_wp2_with fail
  refine (none_lk B c _ H.out).mono ?_; rintro e w' ⟨rfl, rfl⟩
  go_wp2
  go_ret
  exact ⟨rfl, rfl⟩
theorem and15 (m : Nat) (hm : m < 4294967296) : bits .and .u32 (m : Int) 15 = ((m % 16 : Nat) : Int) := by
  have h := u32_and_nat m 15 hm (by omega)
  have e : m &&& 15 = m % 16 := Nat.and_two_pow_sub_one_eq_mod m 4
  rw [e] at h
  exact h
theorem setMask_lk (B : Nat) (c : Lc) (m : Nat) (hm : m < 4294967296) (w : World) (h : Lk w B c) : Calls Try.prog 11 #[.pointer (some ⟨B, 0, none⟩), .int .u32 m] w fun e w' => e = .returned (.tuple #[]) ∧ Lk w' B { c with mask := (m % 16 : Nat) } ∧ w.grownBy w' (some B) := by
  have H := Lib.hid h
  have c0 : w.cell? ⟨B, 1, none⟩ = some (.int .u32 c.mask) := h.cell 1
  have f0 := h.free 1
  clear h
  go_enter Try.func11, Try.ntmps11
  go_wp2_with fail
  refine (none_lk B c _ H.out).mono ?_; rintro e w' ⟨rfl, rfl⟩
  have H2 := Lib.hid (show Lk (w.setCell ⟨B, 1, none⟩ (.int .u32 (bits .and .u32 (m : Int) 15))) B { c with mask := (m % 16 : Nat) } from H.out.set 1 _ (by rw [and15 m hm]; rfl))
  go_wp2
  go_end0
  exact ⟨rfl, H2.out, Lk.set_grown _ _⟩
theorem raise_bad (B : Nat) (c : Lc) (line : Int) (up : Bool) (hl : line ≠ 2) (hl3 : line ≠ 3) (w : World) (h : Lk w B c) : Calls Try.prog 15 #[.pointer (some ⟨B, 0, none⟩), .int .i64 line, .bool up] w fun e w' => e = .returned (.int .i64 2) ∧ w = w' := by
  have H := Lib.hid h
  have e2 : (line != 2) = true := by simp [hl]
  have e3 : (line != 3) = true := by simp [hl3]
  clear h
  go_enter Try.func15, Try.ntmps15
  go_wp2_with fail
  refine (none_lk B c _ H.out).mono ?_; rintro e w' ⟨rfl, rfl⟩
  go_wp2
  go_ret
  exact ⟨rfl, rfl⟩
theorem raise_2 (B : Nat) (c : Lc) (up : Bool) (w : World) (h : Lk w B c) : Calls Try.prog 15 #[.pointer (some ⟨B, 0, none⟩), .int .i64 2, .bool up] w fun e w' => e = .returned (.int .i64 0) ∧ Lk w' B { c with u2 := up } ∧ w.grownBy w' (some B) := by
  have H := Lib.hid h
  have H2 := Lib.hid (h.set (c' := { c with u2 := up }) 4 (.bool up) rfl)
  have c0 : w.cell? ⟨B, 4, none⟩ = some (.bool c.u2) := h.cell 4
  have f0 := h.free 4
  clear h
  go_enter Try.func15, Try.ntmps15
  go_wp2_with fail
  refine (none_lk B c _ H.out).mono ?_; rintro e w' ⟨rfl, rfl⟩
  go_wp2
  go_ret
  exact ⟨rfl, H2.out, Lk.set_grown _ _⟩
theorem raise_3 (B : Nat) (c : Lc) (up : Bool) (w : World) (h : Lk w B c) : Calls Try.prog 15 #[.pointer (some ⟨B, 0, none⟩), .int .i64 3, .bool up] w fun e w' => e = .returned (.int .i64 0) ∧ Lk w' B { c with u3 := up } ∧ w.grownBy w' (some B) := by
  have H := Lib.hid h
  have H2 := Lib.hid (h.set (c' := { c with u3 := up }) 5 (.bool up) rfl)
  have c0 : w.cell? ⟨B, 5, none⟩ = some (.bool c.u3) := h.cell 5
  have f0 := h.free 5
  clear h
  go_enter Try.func15, Try.ntmps15
  go_wp2_with fail
  refine (none_lk B c _ H.out).mono ?_; rintro e w' ⟨rfl, rfl⟩
  go_wp2
  go_ret
  exact ⟨rfl, H2.out, Lk.set_grown _ _⟩
def Lc.raised (c : Lc) (line : Int) : Bool := if line = 2 then c.u2 else if line = 3 then c.u3 else false
theorem raised_lk (B : Nat) (c : Lc) (line : Int) (w : World) (h : Lk w B c) : Calls Try.prog 32 #[.pointer (some ⟨B, 0, none⟩), .int .i64 line] w fun e w' => e = .returned (.bool (c.raised line)) ∧ w = w' := by
  have H := Lib.hid h
  have c2 : w.cell? ⟨B, 4, none⟩ = some (.bool c.u2) := h.cell 4
  have c3 : w.cell? ⟨B, 5, none⟩ = some (.bool c.u3) := h.cell 5
  clear h
  by_cases h2 : line = 2
  · subst h2
    go_enter Try.func32, Try.ntmps32
    go_wp2_with fail
    refine (none_lk B c _ H.out).mono ?_; rintro e w' ⟨rfl, rfl⟩
    go_wp2
    go_ret
    exact ⟨rfl, rfl⟩
  by_cases h3 : line = 3
  · subst h3
    go_enter Try.func32, Try.ntmps32
    go_wp2_with fail
    refine (none_lk B c _ H.out).mono ?_; rintro e w' ⟨rfl, rfl⟩
    go_wp2
    go_ret
    exact ⟨rfl, rfl⟩
  have e : c.raised line = false := by simp [Lc.raised, h2, h3]
  rw [e]
  go_enter Try.func32, Try.ntmps32
  go_wp2_with fail
  refine (none_lk B c _ H.out).mono ?_; rintro e w' ⟨rfl, rfl⟩
  go_wp2
  go_ret
  exact ⟨rfl, rfl⟩
end Go.Proofs.Ytmdgehpmeikgfaa
