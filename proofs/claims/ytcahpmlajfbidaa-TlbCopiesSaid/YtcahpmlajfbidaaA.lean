import Derived.Test.YtcahpmlajfbidaaProg
import Derived.Test.YtcahpmlajfbidaaMem
import Derived.Deep.DeepFit
import Derived.Deep.MidRow
import Derived.BigQuiet
import Derived.Deep.QuietTactic
import Derived.Lib.Hide
import Derived.Handy
namespace Go.Proofs.Ytcahpmlajfbidaa
open Go.RowKit
/-- An entry. -/
structure Ent where
  th : Bool
  page : Int
  frame : Int
  wr : Bool
deriving DecidableEq
def Ent.no : Ent := ⟨false, 0, 0, false⟩
/-- Slots, and the next one. -/
structure Tl where
  a : Ent
  b : Ent
  c : Ent
  d : Ent
  next : Int
deriving DecidableEq
def Tl.no : Tl := ⟨.no, .no, .no, .no, 0⟩
abbrev Ent.val (e : Ent) : Value := .agg #[.bool e.th, .int .u32 e.page, .int .u32 e.frame, .bool e.wr]
abbrev Tl.cells (T : Tl) : Array Value := #[.bool T.a.th, .int .u32 T.a.page, .int .u32 T.a.frame, .bool T.a.wr, .bool T.b.th, .int .u32 T.b.page, .int .u32 T.b.frame, .bool T.b.wr,
  .bool T.c.th, .int .u32 T.c.page, .int .u32 T.c.frame, .bool T.c.wr, .bool T.d.th, .int .u32 T.d.page, .int .u32 T.d.frame, .bool T.d.wr, .int .i64 T.next]
abbrev Tl.val (T : Tl) : Value := .agg T.cells
def Tl.ok (T : Tl) : Prop := T.next = 0 ∨ T.next = 1 ∨ T.next = 2 ∨ T.next = 3
def Ent.hit (e : Ent) (p : Int) : Bool := e.th && e.page == p
def Tl.find (T : Tl) (p : Int) : Int := if T.a.hit p then 0 else if T.b.hit p then 1 else if T.c.hit p then 2 else if T.d.hit p then 3 else -1
def Tl.set (T : Tl) (i : Int) (e : Ent) : Tl := if i = 0 then { T with a := e } else if i = 1 then { T with b := e } else if i = 2 then { T with c := e } else if i = 3 then { T with d := e } else T
def Tl.slot (T : Tl) (p : Int) : Int := if T.find p < 0 then T.next else T.find p
def Tl.fill (T : Tl) (p f : Int) (w : Bool) : Tl := if T.find p < 0 then ({ T with next := (T.next + 1) % 4 }).set T.next ⟨true, p, f, w⟩ else T.set (T.find p) ⟨true, p, f, w⟩
def Tl.drop (T : Tl) (p : Int) : Tl := if T.find p < 0 then T else T.set (T.find p) .no
theorem Tl.find_cases (T : Tl) (p : Int) : T.find p = -1 ∨ T.find p = 0 ∨ T.find p = 1 ∨ T.find p = 2 ∨ T.find p = 3 := by
  unfold Tl.find; repeat' split
  all_goals simp
theorem hit_th {e : Ent} {p : Int} (h : e.th = false) : e.hit p = false := by simp [Ent.hit, h]
theorem hit_pg {e : Ent} {p : Int} (h : ¬ e.page = p) : e.hit p = false := by simp [Ent.hit, h]
theorem hit_yes {e : Ent} {p : Int} (h : e.th = true) (h2 : e.page = p) : e.hit p = true := by simp [Ent.hit, h, h2]

set_option maxHeartbeats 2000000 in
theorem ref_find (T : Tl) (p : Int) (w : World) : Calls Try.prog 15 #[T.val, .int .u32 p] w fun e w' => e = .returned (.int .i64 (T.find p)) ∧ w.grownBy w' none := by
  have HG := Lib.hid (World.grownBy_alloc w (.cells T.cells 30) none)
  go_enter Try.func15, Try.ntmps15
  go_wp2
  go_loopw [5] (fun i wr => ∃ k : Nat, k ≤ 4 ∧ i = .int .i64 k ∧ wr = w.alloc (.cells T.cells 30) ∧ (0 < k → T.a.hit p = false) ∧ (1 < k → T.b.hit p = false) ∧ (2 < k → T.c.hit p = false) ∧ (3 < k → T.d.hit p = false)) (fun i _ => 4 - (intOf i).toNat)
  case atStart => exact ⟨0, by omega, rfl, rfl, by omega, by omega, by omega, by omega⟩
  case round =>
    obtain ⟨k, hk, rfl, rfl, h0, h1, h2, h3⟩ := hrel
    obtain rfl | rfl | rfl | rfl | rfl : k = 0 ∨ k = 1 ∨ k = 2 ∨ k = 3 ∨ k = 4 := by omega
    · by_cases ht : T.a.th = true
      · by_cases hp : T.a.page = p
        · go_wp2
          go_ret
          exact ⟨by unfold Tl.find; rw [hit_yes ht hp]; rfl, HG.out⟩
        · have hpb : (T.a.page == p) = false := by simpa using hp
          go_wp2
          go_roundw
          case rel => exact ⟨1, by omega, rfl, by first | rfl | trivial, fun _ => hit_pg hp, by omega, by omega, by omega⟩
          case measure => simp [intOf]
      · have ht : T.a.th = false := by simpa using ht
        go_wp2
        go_roundw
        case rel => exact ⟨1, by omega, rfl, by first | rfl | trivial, fun _ => hit_th ht, by omega, by omega, by omega⟩
        case measure => simp [intOf]
    · by_cases ht : T.b.th = true
      · by_cases hp : T.b.page = p
        · go_wp2
          go_ret
          exact ⟨by unfold Tl.find; rw [h0 (by omega), hit_yes ht hp]; rfl, HG.out⟩
        · have hpb : (T.b.page == p) = false := by simpa using hp
          go_wp2
          go_roundw
          case rel => exact ⟨2, by omega, rfl, by first | rfl | trivial, fun _ => h0 (by omega), fun _ => hit_pg hp, by omega, by omega⟩
          case measure => simp [intOf]
      · have ht : T.b.th = false := by simpa using ht
        go_wp2
        go_roundw
        case rel => exact ⟨2, by omega, rfl, by first | rfl | trivial, fun _ => h0 (by omega), fun _ => hit_th ht, by omega, by omega⟩
        case measure => simp [intOf]
    · by_cases ht : T.c.th = true
      · by_cases hp : T.c.page = p
        · go_wp2
          go_ret
          exact ⟨by unfold Tl.find; rw [h0 (by omega), h1 (by omega), hit_yes ht hp]; rfl, HG.out⟩
        · have hpb : (T.c.page == p) = false := by simpa using hp
          go_wp2
          go_roundw
          case rel => exact ⟨3, by omega, rfl, by first | rfl | trivial, fun _ => h0 (by omega), fun _ => h1 (by omega), fun _ => hit_pg hp, by omega⟩
          case measure => simp [intOf]
      · have ht : T.c.th = false := by simpa using ht
        go_wp2
        go_roundw
        case rel => exact ⟨3, by omega, rfl, by first | rfl | trivial, fun _ => h0 (by omega), fun _ => h1 (by omega), fun _ => hit_th ht, by omega⟩
        case measure => simp [intOf]
    · by_cases ht : T.d.th = true
      · by_cases hp : T.d.page = p
        · go_wp2
          go_ret
          exact ⟨by unfold Tl.find; rw [h0 (by omega), h1 (by omega), h2 (by omega), hit_yes ht hp]; rfl, HG.out⟩
        · have hpb : (T.d.page == p) = false := by simpa using hp
          go_wp2
          go_roundw
          case rel => exact ⟨4, by omega, rfl, by first | rfl | trivial, fun _ => h0 (by omega), fun _ => h1 (by omega), fun _ => h2 (by omega), fun _ => hit_pg hp⟩
          case measure => simp [intOf]
      · have ht : T.d.th = false := by simpa using ht
        go_wp2
        go_roundw
        case rel => exact ⟨4, by omega, rfl, by first | rfl | trivial, fun _ => h0 (by omega), fun _ => h1 (by omega), fun _ => h2 (by omega), fun _ => hit_th ht⟩
        case measure => simp [intOf]
    · go_wp2
      go_ret
      exact ⟨by unfold Tl.find; rw [h0 (by omega), h1 (by omega), h2 (by omega), h3 (by omega)]; rfl, HG.out⟩
end Go.Proofs.Ytcahpmlajfbidaa
