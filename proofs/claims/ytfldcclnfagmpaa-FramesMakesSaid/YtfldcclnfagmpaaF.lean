import Derived.Test.YtfldcclnfagmpaaE
namespace Go.Proofs.Ytfldcclnfagmpaa
open Go.RowKit

theorem enter28 (args : Array Value) (w : World) : (callFunc 28 args).run Try.prog w = .ok (.enter 28 args) w := by kernel_rfl
theorem enter29 (args : Array Value) (w : World) : (callFunc 29 args).run Try.prog w = .ok (.enter 29 args) w := by kernel_rfl
theorem enter33 (args : Array Value) (w : World) : (callFunc 33 args).run Try.prog w = .ok (.enter 33 args) w := by kernel_rfl
theorem mkFunc : ∀ (fn : Fn) (first cap : Array Value) (w : World), (Instr.makeFunc fn first cap).run Try.prog w = .ok (.func fn first cap) w := fun _ _ _ _ => rfl

/-- What is wrong with an access to so many bytes (they are whole pages). -/
def refusedS (n addr : Nat) (width : Int) : Int :=
  if width ≠ 1 ∧ width ≠ 4 then 2 else if (addr : Int) % width ≠ 0 then 150 else if n ≤ addr then 4 else 0
def readS (l : List UInt8) (addr : Nat) (width : Int) : Nat :=
  if refusedS l.length addr width = 0 then leVal ((l.drop addr).take width.toNat) else 0
def writeS (l : List UInt8) (addr : Nat) (width : Int) (v : Nat) : List UInt8 :=
  if refusedS l.length addr width = 0 then wrL l addr width.toNat v else l

/-- The shapes of an access. -/
theorem refused_cases (n addr : Nat) (width : Int) (hn : n % 64 = 0) :
    (refusedS n addr width = 2 ∧ width ≠ 1 ∧ width ≠ 4) ∨ (refusedS n addr width = 150 ∧ (width = 1 ∨ width = 4) ∧ (addr : Int) % width ≠ 0) ∨
    (∃ k : Nat, width = k ∧ (k = 1 ∨ k = 4) ∧ addr % k = 0 ∧ ((refusedS n addr width = 4 ∧ n < addr + k) ∨ (refusedS n addr width = 0 ∧ addr + k ≤ n))) := by
  unfold refusedS
  by_cases h1 : width ≠ 1 ∧ width ≠ 4
  · rw [if_pos h1]; exact .inl ⟨rfl, h1⟩
  · rw [if_neg h1]
    by_cases h2 : (addr : Int) % width ≠ 0
    · rw [if_pos h2]; exact .inr (.inl ⟨rfl, by omega, h2⟩)
    · rw [if_neg h2]
      refine .inr (.inr ?_)
      have h3 : width = 1 ∨ width = 4 := by omega
      rcases h3 with rfl | rfl
      · refine ⟨1, rfl, .inl rfl, by omega, ?_⟩
        by_cases h4 : n ≤ addr
        · rw [if_pos h4]; exact .inl ⟨rfl, by omega⟩
        · rw [if_neg h4]; exact .inr ⟨rfl, by omega⟩
      · refine ⟨4, rfl, .inr rfl, by omega, ?_⟩
        by_cases h4 : n ≤ addr
        · rw [if_pos h4]; exact .inl ⟨rfl, by omega⟩
        · rw [if_neg h4]; exact .inr ⟨rfl, by omega⟩

set_option maxHeartbeats 1000000 in
theorem read_any (B g addr : Nat) (width : Int) (l : List UInt8) (w : World) (h : Fr w B g l) (hl : l.length % 64 = 0) (hl2 : l.length ≤ 2048) (ha : addr < 4294967296) (hw : (Lit.int .i64 width).wf = true) :
    Calls Try.prog 13 #[.pointer (some ⟨B, 0, none⟩), .int .u32 addr, .int .i64 width] w fun e w' => e = .returned (.tuple #[.int .u32 (readS l addr width), .int .i64 (refusedS l.length addr width)]) ∧ w.grownBy w' none := by
  have hmf := mkFunc
  have hg0 := World.grownBy_alloc w (.cells #[.int .u32 0] 23) none
  have hF0 := h.keptNone hg0
  have hv0 : (w.alloc (.cells #[.int .u32 0] 23)).heap[w.heap.size]? = some (.cells #[.int .u32 0] 23 (0, 0)) := heap_alloc_new _ _
  have hgne : g ≠ w.heap.size := by have := h.ltg; omega
  have hcov : ∀ (w1 : World), (w.alloc (.cells #[.int .u32 0] 23)).grownBy w1 none → w1.cell? ⟨w.heap.size, 0, none⟩ = some (.int .u32 0) := fun w1 h1 => cell_of_one ((h1.block _ (lt_of_block hv0) (by simp)).trans hv0)
  rcases refused_cases l.length addr width hl with ⟨hr, h1, h2⟩ | ⟨hr, h1, h2⟩ | ⟨k, rfl, hk, hak, ⟨hr, hf⟩ | ⟨hr, hf⟩⟩
  · have hrs : readS l addr width = 0 := by unfold readS; rw [if_neg (by omega)]
    rw [hrs, hr]
    clear hr hrs
    have H0 := Lib.hid hg0
    have H1 := Lib.hid hv0
    clear hg0 hv0
    go_enter Try.func13, Try.ntmps13
    go_wp2_with fail
    refine (access_arg B g l addr width _ _ hF0 hw ⟨h1, h2⟩).mono ?_; rintro e w1 ⟨rfl, hg1⟩
    have hc1 := hcov w1 hg1
    go_wp2
    go_ret2
    exact ⟨rfl, H0.out.trans hg1⟩
  · have hrs : readS l addr width = 0 := by unfold readS; rw [if_neg (by omega)]
    rw [hrs, hr]
    clear hr hrs
    have H0 := Lib.hid hg0
    have H1 := Lib.hid hv0
    clear hg0 hv0
    go_enter Try.func13, Try.ntmps13
    go_wp2_with fail
    refine (access_align B g addr width l _ _ hF0 ha h1 h2).mono ?_; rintro e w1 ⟨rfl, hg1⟩
    have hc1 := hcov w1 hg1
    go_wp2
    go_ret2
    exact ⟨rfl, H0.out.trans hg1⟩
  · have hrs : readS l addr k = 0 := by unfold readS; rw [if_neg (by omega)]
    rw [hrs, hr]
    clear hr hrs
    have H0 := Lib.hid hg0
    have H1 := Lib.hid hv0
    have HA := access_go B g addr k l (.func (.func 28) #[] #[.pointer (some ⟨w.heap.size, 0, none⟩)]) _ hF0 ha hk hak (fun e w' => e = .returned (.int .i64 4) ∧ (w.alloc (.cells #[.int .u32 0] 23)).grownBy w' none)
      (fun w2 h2 => (part_range B g addr k l _ w2 (hF0.keptNone h2) ha (by omega) (by omega) (by omega)).mono fun e w' ⟨he, hw'⟩ => ⟨4, he, he, hw' ▸ h2⟩)
    have HA := Lib.hid HA
    rename_i HA0
    clear hg0 hv0 HA0 hk hak
    go_enter Try.func13, Try.ntmps13
    go_wp2_with fail
    refine HA.out.mono ?_; rintro e w1 ⟨rfl, hg1⟩
    have hc1 := hcov w1 hg1
    go_wp2
    go_ret2
    exact ⟨rfl, H0.out.trans hg1⟩
  · have hlen : ((l.drop addr).take k).length = k := by simp; omega
    have hne : (l.drop addr).take k ≠ [] := fun e => by rw [e] at hlen; simp at hlen; omega
    have hrs : readS l addr k = leVal ((l.drop addr).take k) := by unfold readS; rw [if_pos hr, Int.toNat_natCast]
    rw [hrs, hr]
    clear hr hrs
    obtain ⟨vv, hvv⟩ : ∃ vv, vv = leVal ((l.drop addr).take k) := ⟨_, rfl⟩
    rw [← hvv]
    have HA := access_go B g addr k l (.func (.func 28) #[] #[.pointer (some ⟨w.heap.size, 0, none⟩)]) _ hF0 ha hk hak (fun e w' => e = .returned (.int .i64 0) ∧ w'.heap[w.heap.size]? = some (.cells #[.int .u32 vv] 23 (0, 0)) ∧ w.grownBy w' none)
      (fun w2 h2 => by
        have hF2 := hF0.keptNone h2
        have hr2 : ∃ cap, Row w2 g l cap := by obtain ⟨cap, _, hr2⟩ := hF2; exact ⟨cap, hr2⟩
        obtain ⟨cap, hr2⟩ := hr2
        have hs2 : Src w2 (some ⟨g, addr, none⟩) ((l.drop addr).take k) := .inr ⟨g, addr, rfl, fun j hj => by rw [hr2.cell (addr + j) (by simp at hj; omega)]; simp⟩
        have h1 := read1 g addr k w.heap.size _ w2 hlen.symm (by omega) hs2 hne ((h2.block _ (lt_of_block hv0) (by simp)).trans hv0) hgne
        refine (part_ok B g addr k l 28 #[.pointer (some ⟨w.heap.size, 0, none⟩)] w2 hF2 (by omega) hl2 (by omega) (fun w' => w'.heap[w.heap.size]? = some (.cells #[.int .u32 vv] 23 (0, 0)) ∧ w.grownBy w' none) enter28 (h1.mono fun e w' ⟨he, hc, hg⟩ => ⟨he, by rw [hvv]; exact hc, grown_new (hg0.trans h2) hg (Nat.le_refl _)⟩)).mono fun e w' ⟨he, hR⟩ => ⟨0, he, he, hR⟩)
    have HA := Lib.hid HA
    rename_i HA0
    have hvv := Lib.hid hvv
    rename_i hvv0
    clear hg0 hv0 HA0 hk hak hvv0 hlen hne
    go_enter Try.func13, Try.ntmps13
    go_wp2_with fail
    refine HA.out.mono ?_; rintro e w1 ⟨rfl, hcb, hg1⟩
    have hc1 := cell_of_one hcb
    go_wp2
    go_ret2
    exact ⟨rfl, hg1⟩

set_option maxHeartbeats 1000000 in
theorem write_any (B g addr v : Nat) (width : Int) (l : List UInt8) (w : World) (h : Fr w B g l) (hl : l.length % 64 = 0) (hl2 : l.length ≤ 2048) (ha : addr < 4294967296) (hw : (Lit.int .i64 width).wf = true) :
    Calls Try.prog 18 #[.pointer (some ⟨B, 0, none⟩), .int .u32 addr, .int .i64 width, .int .u32 v] w fun e w' => e = .returned (.int .i64 (refusedS l.length addr width)) ∧ Fr w' B g (writeS l addr width v) ∧ w.grownBy w' (some g) := by
  have hmf := mkFunc
  have hg0 := World.grownBy_alloc w (.cells #[.int .u32 v] 23) none
  have hF0 := h.keptNone hg0
  have hv0 : (w.alloc (.cells #[.int .u32 v] 23)).heap[w.heap.size]? = some (.cells #[.int .u32 v] 23 (0, 0)) := heap_alloc_new _ _
  have hgne : g ≠ w.heap.size := by have := h.ltg; omega
  rcases refused_cases l.length addr width hl with ⟨hr, h1, h2⟩ | ⟨hr, h1, h2⟩ | ⟨k, rfl, hk, hak, ⟨hr, hf⟩ | ⟨hr, hf⟩⟩
  · have hrs : writeS l addr width v = l := by unfold writeS; rw [if_neg (by omega)]
    rw [hrs, hr]
    clear hr hrs
    have H0 := Lib.hid hg0
    clear hg0 hv0
    go_enter Try.func18, Try.ntmps18
    go_wp2_with fail
    refine (access_arg B g l addr width _ _ hF0 hw ⟨h1, h2⟩).mono ?_; rintro e w1 ⟨rfl, hg1⟩
    go_wp2
    go_ret
    exact ⟨rfl, hF0.keptNone hg1, grown_none (H0.out.trans hg1) _⟩
  · have hrs : writeS l addr width v = l := by unfold writeS; rw [if_neg (by omega)]
    rw [hrs, hr]
    clear hr hrs
    have H0 := Lib.hid hg0
    clear hg0 hv0
    go_enter Try.func18, Try.ntmps18
    go_wp2_with fail
    refine (access_align B g addr width l _ _ hF0 ha h1 h2).mono ?_; rintro e w1 ⟨rfl, hg1⟩
    go_wp2
    go_ret
    exact ⟨rfl, hF0.keptNone hg1, grown_none (H0.out.trans hg1) _⟩
  · have hrs : writeS l addr k v = l := by unfold writeS; rw [if_neg (by omega)]
    rw [hrs, hr]
    clear hr hrs
    have H0 := Lib.hid hg0
    have HA := access_go B g addr k l (.func (.func 29) #[] #[.pointer (some ⟨w.heap.size, 0, none⟩)]) _ hF0 ha hk hak (fun e w' => e = .returned (.int .i64 4) ∧ (w.alloc (.cells #[.int .u32 v] 23)).grownBy w' none)
      (fun w2 h2 => (part_range B g addr k l _ w2 (hF0.keptNone h2) ha (by omega) (by omega) (by omega)).mono fun e w' ⟨he, hw'⟩ => ⟨4, he, he, hw' ▸ h2⟩)
    have HA := Lib.hid HA
    rename_i HA0
    clear hg0 hv0 HA0 hk hak
    go_enter Try.func18, Try.ntmps18
    go_wp2_with fail
    refine HA.out.mono ?_; rintro e w1 ⟨rfl, hg1⟩
    go_wp2
    go_ret
    exact ⟨rfl, hF0.keptNone hg1, grown_none (H0.out.trans hg1) _⟩
  · have hrs : writeS l addr k v = wrL l addr k v := by unfold writeS; rw [if_pos hr, Int.toNat_natCast]
    rw [hrs, hr]
    clear hr hrs
    have HA := access_go B g addr k l (.func (.func 29) #[] #[.pointer (some ⟨w.heap.size, 0, none⟩)]) _ hF0 ha hk hak (fun e w' => e = .returned (.int .i64 0) ∧ Fr w' B g (wrL l addr k v) ∧ w.grownBy w' (some g))
      (fun w2 h2 => by
        have hF2 := hF0.keptNone h2
        have hne2 := hF2.ne
        have hF2' := hF2
        obtain ⟨cap, hb2, hr2⟩ := hF2
        have h1 := write1 g addr k w.heap.size cap v l w2 (by omega) hr2 (by omega) ((h2.block _ (lt_of_block hv0) (by simp)).trans hv0) hgne
        refine (part_ok B g addr k l 29 #[.pointer (some ⟨w.heap.size, 0, none⟩)] w2 hF2' (by omega) hl2 (by omega) (fun w' => Fr w' B g (wrL l addr k v) ∧ w.grownBy w' (some g)) enter29 (h1.mono fun e w' ⟨he, hrow, hg⟩ => ⟨he, ⟨cap, ?_, hrow⟩, (grown_none (hg0.trans h2) _).trans hg⟩)).mono fun e w' ⟨he, hR⟩ => ⟨0, he, he, hR⟩
        rw [wrL_length]
        exact (hg.block B (lt_of_block hb2) (by simpa using hne2)).trans hb2)
    have HA := Lib.hid HA
    rename_i HA0
    clear hg0 hv0 HA0 hk hak
    go_enter Try.func18, Try.ntmps18
    go_wp2_with fail
    refine HA.out.mono ?_; rintro e w1 ⟨rfl, hcb, hg1⟩
    go_wp2
    go_ret
    exact ⟨rfl, hcb, hg1⟩
end Go.Proofs.Ytfldcclnfagmpaa
