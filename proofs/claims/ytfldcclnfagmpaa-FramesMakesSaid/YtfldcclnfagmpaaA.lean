import Derived.Test.YtfldcclnfagmpaaPaged
import Derived.Maps.OwnSet
import Derived.Lib.EndianBits
namespace Go.Proofs.Ytfldcclnfagmpaa
open Go.RowKit

/-- Block B is a Frames whose bytes are the row g: l. -/
def Fr (w : World) (B g : Nat) (l : List UInt8) : Prop :=
  ∃ cap, w.heap[B]? = some (.cells #[.slice (some ⟨g, 0, none⟩) l.length cap] 55 (0, 0)) ∧ Row w g l cap

theorem Fr.kept {w w' : World} {B g : Nat} {l : List UInt8} {row : Option Nat} (h : Fr w B g l) (hg : w.grownBy w' row) (h1 : some B ≠ row) (h2 : some g ≠ row) : Fr w' B g l := by
  obtain ⟨cap, hb, hr⟩ := h
  exact ⟨cap, (hg.block B (lt_of_block hb) h1).trans hb, hr.kept hg h2⟩
theorem Fr.keptNone {w w' : World} {B g : Nat} {l : List UInt8} (h : Fr w B g l) (hg : w.grownBy w' none) : Fr w' B g l := h.kept hg (by simp) (by simp)
theorem Fr.ltB {w : World} {B g : Nat} {l : List UInt8} (h : Fr w B g l) : B < w.heap.size := by
  obtain ⟨cap, hb, hr⟩ := h; exact lt_of_block hb
theorem Fr.ltg {w : World} {B g : Nat} {l : List UInt8} (h : Fr w B g l) : g < w.heap.size := by
  obtain ⟨cap, hb, hr⟩ := h; exact hr.lt
theorem Fr.ne {w : World} {B g : Nat} {l : List UInt8} (h : Fr w B g l) : B ≠ g := by
  obtain ⟨cap, hb, _, _, cur, hc, _⟩ := h
  intro e; subst e; rw [hb] at hc; simp at hc

theorem num_any (n : Int) (w : World) : Calls Try.prog 15 #[.int .i64 n] w fun e w' => e = .returned (.int .i64 n) ∧ w = w' := by
  go_enter Try.func15, Try.ntmps15
  go_wp2
  go_ret
  exact ⟨rfl, rfl⟩

theorem none_nil (w : World) : Calls Try.prog 30 #[.pointer none] w fun e w' => e = .returned (.bool true) ∧ w = w' := by
  go_enter Try.func30, Try.ntmps30
  go_wp2
  go_ret
  exact ⟨rfl, rfl⟩

theorem nil22 : ∀ (w : World) (a : Option Addr) (n c n' c' : Nat), (binOp .eql 22 (.slice a n c) (.slice none n' c')).run Try.prog w = .ok (.bool a.isNone) w := fun w a n c n' c' => Lib.run_eql_slice_nil w _ _ a n c n' c' Try.underlying22

theorem none_no (w : World) (B g n cap : Nat) (hc : w.cell? ⟨B, 0, none⟩ = some (.slice (some ⟨g, 0, none⟩) n cap)) : Calls Try.prog 30 #[.pointer (some ⟨B, 0, none⟩)] w fun e w' => e = .returned (.bool false) ∧ w = w' := by
  have qT := nil22
  go_enter Try.func30, Try.ntmps30
  go_wp2
  go_ret
  exact ⟨rfl, rfl⟩

theorem new_bad (p : Int) (w : World) (h : p < 1 ∨ 32 < p) : Calls Try.prog 17 #[.int .i64 p] w fun e w' => e = .returned (.tuple #[.pointer none, .int .i64 2]) ∧ w = w' := by
  rcases h with h | h
  · go_enter Try.func17, Try.ntmps17
    go_wp2
    go_ret2
    exact ⟨rfl, rfl⟩
  · have h' : ¬ p < 1 := by omega
    go_enter Try.func17, Try.ntmps17
    go_wp2
    go_ret2
    exact ⟨rfl, rfl⟩

theorem new_good (p : Int) (w : World) (h : 1 ≤ p) (h2 : p ≤ 32) : Calls Try.prog 17 #[.int .i64 p] w fun e w' => ∃ B g, e = .returned (.tuple #[.pointer (some ⟨B, 0, none⟩), .int .i64 0]) ∧ w.heap.size ≤ B ∧ w.heap.size ≤ g ∧ Fr w' B g (List.replicate (p.toNat * 64) 0) ∧ w.grownBy w' none := by
  obtain ⟨p, rfl⟩ := Int.eq_ofNat_of_zero_le (by omega : 0 ≤ p)
  rw [Int.toNat_natCast]
  have hmk := mk_bytes w (p * 64) ((p : Int) * 64) (by omega) (by omega)
  go_enter Try.func17, Try.ntmps17
  go_wp2
  go_ret2
  refine ⟨w.heap.size + 1, w.heap.size, rfl, by omega, by omega, ⟨p * 64, ?_, ?_⟩, (World.grownBy_alloc _ _ _).trans (World.grownBy_alloc _ _ _)⟩
  · have := heap_alloc_new (w.alloc (Obj.cells (bsV (List.replicate (p * 64) 0)).toArray 5)) (Obj.cells #[Value.slice (some { block := w.heap.size, off := 0 }) (p * 64) (p * 64)] 55)
    simpa using this
  · have := Row.new w (List.replicate (p * 64) 0) (by simp [maxLen]; omega)
    simpa using this.kept (World.grownBy_alloc _ (Obj.cells #[Value.slice (some { block := w.heap.size, off := 0 }) (p * 64) (p * 64)] 55) none) (by simp)

theorem clone_any (b o n cap : Nat) (l : List UInt8) (hn : n = l.length) (w : World) (hs : Src w (some ⟨b, o, none⟩) l) (hlen : l.length ≤ 140737488355328) (hne : l ≠ []) :
    Calls Try.prog 31 #[.slice (some ⟨b, o, none⟩) n cap] w fun e w' => ∃ g c, e = .returned (.slice (some ⟨g, 0, none⟩) l.length c) ∧ w.heap.size ≤ g ∧ Row w' g l c ∧ w.grownBy w' none := by
  subst hn
  have qT := nil22
  have hs1 : Src (w.alloc (.cells #[] 5)) (some ⟨b, o, none⟩) l := hs.keptNone (World.grownBy_alloc _ _ _)
  have ho1 := OwnB.empty w w.heap.size (Nat.le_refl _)
  go_enter Try.func31, Try.ntmps31
  go_wp2_with (at_builtin; refine wpList_bapp rfl _ _ rfl w.heap.size _ [] l rfl ho1 _ _ _ rfl rfl (by simp) hs1 (by simpa using hlen) (by simp) ?_)
  intro v' w' h1 h2 h3
  obtain ⟨g, c, rfl, hg, hr⟩ := h1.row hne
  go_wp2
  go_ret
  exact ⟨g, c, rfl, hg, by simpa using hr, grown_new (World.grownBy_alloc _ _ _) h2 (Nat.le_refl _)⟩

theorem bytes_any (B g : Nat) (l : List UInt8) (w : World) (h : Fr w B g l) (hlen : l.length ≤ 140737488355328) (hne : l ≠ []) :
    Calls Try.prog 20 #[.pointer (some ⟨B, 0, none⟩)] w fun e w' => ∃ g' c, e = .returned (.slice (some ⟨g', 0, none⟩) l.length c) ∧ w.heap.size ≤ g' ∧ Row w' g' l c ∧ w.grownBy w' none := by
  obtain ⟨cap, hb, hr⟩ := h
  have hc := cell_of_one hb
  have hs := hr.src
  go_enter Try.func20, Try.ntmps20
  go_wp2_with (first | (go_at_call 30; refine (none_no _ _ _ _ _ hc).mono ?_; rintro e w' ⟨rfl, rfl⟩) | (go_at_call 31; refine (clone_any _ _ _ _ l rfl _ hs hlen hne).mono ?_; rintro e w' ⟨g', c, rfl, hg', hr', hgr⟩))
  go_ret
  exact ⟨g', c, rfl, hg', hr', hgr⟩

theorem bytes_nil (w : World) : Calls Try.prog 20 #[.pointer none] w fun e w' => e = .returned (.slice none 0 0) ∧ w = w' := by
  go_enter Try.func20, Try.ntmps20
  go_wp2_with (go_at_call 30; refine (none_nil _).mono ?_; rintro e w' ⟨rfl, rfl⟩)
  go_ret
  exact ⟨rfl, rfl⟩

theorem size_any (B g : Nat) (l : List UInt8) (w : World) (h : Fr w B g l) :
    Calls Try.prog 21 #[.pointer (some ⟨B, 0, none⟩)] w fun e w' => e = .returned (.int .i64 l.length) ∧ w = w' := by
  obtain ⟨cap, hb, hr⟩ := h
  have hc := cell_of_one hb
  go_enter Try.func21, Try.ntmps21
  go_wp2_with (go_at_call 30; refine (none_no _ _ _ _ _ hc).mono ?_; rintro e w' ⟨rfl, rfl⟩)
  go_ret
  exact ⟨rfl, rfl⟩

theorem size_nil (w : World) : Calls Try.prog 21 #[.pointer none] w fun e w' => e = .returned (.int .i64 0) ∧ w = w' := by
  go_enter Try.func21, Try.ntmps21
  go_wp2_with (go_at_call 30; refine (none_nil _).mono ?_; rintro e w' ⟨rfl, rfl⟩)
  go_ret
  exact ⟨rfl, rfl⟩

theorem copy_any (B g : Nat) (l : List UInt8) (w : World) (h : Fr w B g l) (hlen : l.length ≤ 140737488355328) (hne : l ≠ []) :
    Calls Try.prog 25 #[.pointer (some ⟨B, 0, none⟩)] w fun e w' => ∃ B' g', e = .returned (.pointer (some ⟨B', 0, none⟩)) ∧ w.heap.size ≤ B' ∧ w.heap.size ≤ g' ∧ Fr w' B' g' l ∧ w.grownBy w' none := by
  obtain ⟨cap, hb, hr⟩ := h
  have hc := cell_of_one hb
  go_enter Try.func25, Try.ntmps25
  go_wp2_with (first | (go_at_call 30; refine (none_no _ _ _ _ _ hc).mono ?_; rintro e w' ⟨rfl, rfl⟩) | (go_at_call 20; refine (bytes_any B g l _ ⟨cap, hb, hr⟩ hlen hne).mono ?_; rintro e w' ⟨g', c, rfl, hg', hr', hgr⟩))
  go_ret
  refine ⟨w'.heap.size, g', rfl, hgr.size, hg', ⟨c, heap_alloc_new _ _, hr'.kept (World.grownBy_alloc _ _ none) (by simp)⟩, hgr.trans (World.grownBy_alloc _ _ _)⟩

theorem copy_nil (w : World) : Calls Try.prog 25 #[.pointer none] w fun e w' => e = .returned (.pointer none) ∧ w = w' := by
  go_enter Try.func25, Try.ntmps25
  go_wp2_with (go_at_call 30; refine (none_nil _).mono ?_; rintro e w' ⟨rfl, rfl⟩)
  go_ret
  exact ⟨rfl, rfl⟩

theorem equal_any (a a' : Addr) (n c n' c' : Nat) (l l' : List UInt8) (hn : n = l.length) (hn' : n' = l'.length) (w : World) (hs : Src w (some a) l) (hs' : Src w (some a') l') :
    Calls Try.prog 34 #[.slice (some a) n c, .slice (some a') n' c'] w fun e w' => e = .returned (.bool (l == l')) ∧ w = w' := by
  subst hn hn'
  have k1 := conv_src (cap := c) hs
  have k2 := conv_src (cap := c') hs'
  go_enter Try.func34, Try.ntmps34
  go_wp2
  go_ret
  refine ⟨?_, rfl⟩
  simp

set_option maxHeartbeats 1000000 in
theorem same_any (B g B' g' : Nat) (l l' : List UInt8) (w : World) (h : Fr w B g l) (h' : Fr w B' g' l') :
    Calls Try.prog 26 #[.pointer (some ⟨B, 0, none⟩), .pointer (some ⟨B', 0, none⟩)] w fun e w' => e = .returned (.bool (l == l')) ∧ ∃ n, w' = w.drewN n := by
  obtain ⟨cap, hb, hr⟩ := h
  obtain ⟨cap', hb', hr'⟩ := h'
  have hc := cell_of_one hb
  have hc' := cell_of_one hb'
  go_enter Try.func26, Try.ntmps26
  go_wp2_with fail
  refine (none_no _ _ _ _ _ hc).mono ?_; rintro e w' ⟨rfl, rfl⟩
  go_wp2_with fail
  refine (none_no _ _ _ _ _ hc').mono ?_; rintro e w' ⟨rfl, rfl⟩
  go_wp2_with fail
  go_quiet ((go_at_call 34; exact Calls.quiet_of_same (((equal_any _ _ _ _ _ _ l l' rfl rfl _ (hr.src.drewN _) (hr'.src.drewN _)).mono fun _ _ ⟨h1, h2⟩ => ⟨h1, h2.symm⟩))))
  go_wp2
  go_ret
  exact ⟨rfl, _, rfl⟩

theorem same_nn (w : World) : Calls Try.prog 26 #[.pointer none, .pointer none] w fun e w' => e = .returned (.bool true) ∧ w = w' := by
  go_enter Try.func26, Try.ntmps26
  go_wp2_with (go_at_call 30; refine (none_nil _).mono ?_; rintro e w' ⟨rfl, rfl⟩)
  go_ret
  exact ⟨rfl, rfl⟩
theorem same_nf (B g : Nat) (l : List UInt8) (w : World) (h : Fr w B g l) : Calls Try.prog 26 #[.pointer none, .pointer (some ⟨B, 0, none⟩)] w fun e w' => e = .returned (.bool false) ∧ w = w' := by
  obtain ⟨cap, hb, hr⟩ := h
  have hc := cell_of_one hb
  go_enter Try.func26, Try.ntmps26
  go_wp2_with fail
  refine (none_nil _).mono ?_; rintro e w' ⟨rfl, rfl⟩
  go_wp2_with fail
  refine (none_nil _).mono ?_; rintro e w' ⟨rfl, rfl⟩
  go_wp2_with fail
  refine (none_no _ _ _ _ _ hc).mono ?_; rintro e w' ⟨rfl, rfl⟩
  go_wp2_with fail
  go_ret
  exact ⟨rfl, rfl⟩
theorem same_fn (B g : Nat) (l : List UInt8) (w : World) (h : Fr w B g l) : Calls Try.prog 26 #[.pointer (some ⟨B, 0, none⟩), .pointer none] w fun e w' => e = .returned (.bool false) ∧ w = w' := by
  obtain ⟨cap, hb, hr⟩ := h
  have hc := cell_of_one hb
  go_enter Try.func26, Try.ntmps26
  go_wp2_with fail
  refine (none_no _ _ _ _ _ hc).mono ?_; rintro e w' ⟨rfl, rfl⟩
  go_wp2_with fail
  refine (none_nil _).mono ?_; rintro e w' ⟨rfl, rfl⟩
  go_wp2_with fail
  refine (none_no _ _ _ _ _ hc).mono ?_; rintro e w' ⟨rfl, rfl⟩
  go_wp2_with fail
  go_ret
  exact ⟨rfl, rfl⟩

end Go.Proofs.Ytfldcclnfagmpaa
