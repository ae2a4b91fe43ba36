import Derived.Test.YtfldcclnfagmpaaWorks
import Derived.Test.YtfldcclnfagmpaaOpen
namespace Go.Proofs.Ytfldcclnfagmpaa
open Go.RowKit

theorem pagedL_length (l : List UInt8) (pages : Int) : (pagedL l pages).length = pageN pages := by simp [pagedL]
theorem pageN_facts (pages : Int) : 64 ≤ pageN pages ∧ pageN pages ≤ 2048 ∧ pageN pages % 64 = 0 := by unfold pageN; omega

set_option maxHeartbeats 1000000 in
/-- WHATEVER IS READ OF SUCH AN ARGUMENT, the law comes to true. -/
theorem framesReads_walk (a : Option Addr) (n cap : Nat) (l : List UInt8) (pages width : Int) (addr v : Nat) (w : World) (hn : n = l.length) (hs : Src w a l) (hm : n ≤ 9223372036854775807) (ha : addr < 4294967296) (hw : (Lit.int .i64 width).wf = true) :
    Calls Try.prog 3 #[.slice a n cap, .int .i64 pages, .agg #[.int .u32 addr, .int .i64 width, .int .u32 v]] w fun e w' => e = .returned (.bool true) ∧ w.grownBy w' none := by
  subst hn
  have hg0 := World.grownBy_alloc w (.cells #[.int .u32 addr, .int .i64 width, .int .u32 v] 25) none
  by_cases hbig : 3000 < l.length
  · have hb' : (3000 : Int) < l.length := by omega
    have H0 := Lib.hid hg0
    clear hg0
    go_enter Try.func3, Try.ntmps3
    go_wp2_with (go_at_call 10; refine (works_any _).mono ?_; rintro e w1 ⟨rfl, hg1⟩)
    go_ret
    exact ⟨rfl, H0.out.trans hg1⟩
  · obtain ⟨hp1, hp2, hp3⟩ := pageN_facts pages
    have hpl := pagedL_length l pages
    obtain ⟨was, hwas⟩ : ∃ was, was = pagedL l pages := ⟨_, rfl⟩
    obtain ⟨N, hN⟩ : ∃ N, N = pageN pages := ⟨_, rfl⟩
    have C1 := paged_any a cap l pages _ (hs.keptNone hg0) (by omega)
    rw [← hwas, ← hN] at C1
    rw [← hN] at hp1 hp2 hp3
    rw [← hN, ← hwas] at hpl
    have H0 := Lib.hid hg0
    have HPL := Lib.hid hpl
    have HA := Lib.hid (heap_alloc_new w (.cells #[.int .u32 addr, .int .i64 width, .int .u32 v] 25))
    clear hg0 hN hwas hpl
    have hb' : ¬ (3000 : Int) < l.length := by omega
    go_enter Try.func3, Try.ntmps3
    go_wp2_with fail
    refine C1.mono ?_; rintro e w1 ⟨gw, rfl, hgw, hrow, hg1⟩
    clear C1
    have HX := Lib.hid (hg1.block w.heap.size (by simp) (by simp))
    have C2 := of_good gw 0 N N was HPL.out.symm w1 hrow.src (by rw [HPL.out]; exact hp1) (by rw [HPL.out]; exact hp2) (by rw [HPL.out]; exact hp3)
    go_wp2_with fail
    refine C2.mono ?_; rintro e w2 ⟨B, g, rfl, hB, hg, hF, hg2⟩
    clear C2
    have hx : w2.heap[w.heap.size]? = some (.cells #[.int .u32 addr, .int .i64 width, .int .u32 v] 25 (0, 0)) := (hg2.block _ (by have := hg1.size; simp at this; omega) (by simp)).trans (HX.out.trans HA.out)
    have hx0 : w2.cell? ⟨w.heap.size, 0, none⟩ = some (.int .u32 addr) := by simp [World.cell?, hx]
    have hx1 : w2.cell? ⟨w.heap.size, 1, none⟩ = some (.int .i64 width) := by simp [World.cell?, hx]
    have C3 := read_any B g addr width was w2 hF (by rw [HPL.out]; exact hp3) (by rw [HPL.out]; exact hp2) ha hw
    rw [HPL.out] at C3
    go_wp2_with fail
    refine C3.mono ?_; rintro e w3 ⟨rfl, hg3⟩
    clear C3
    have hx3 : w3.heap[w.heap.size]? = some (.cells #[.int .u32 addr, .int .i64 width, .int .u32 v] 25 (0, 0)) := (hg3.block _ (lt_of_block hx) (by simp)).trans hx
    have hx0 : w3.cell? ⟨w.heap.size, 0, none⟩ = some (.int .u32 addr) := by simp [World.cell?, hx3]
    have hx1 : w3.cell? ⟨w.heap.size, 1, none⟩ = some (.int .i64 width) := by simp [World.cell?, hx3]
    go_wp2_with fail
    refine (ref_refused _ N N addr width _ hp2 ha hw).mono ?_; rintro e w' ⟨rfl, rfl⟩
    have hgr : w.grownBy w3 none := H0.out.trans (hg1.trans (hg2.trans hg3))
    by_cases hno : refusedS N addr width = 0
    · obtain ⟨k, rfl, hk, _, hfit⟩ : ∃ k : Nat, width = k ∧ (k = 1 ∨ k = 4) ∧ addr % k = 0 ∧ addr + k ≤ N := by
        rcases refused_cases N addr width hp3 with ⟨hr, _⟩ | ⟨hr, _⟩ | ⟨k, h1, h2, h3, ⟨hr, _⟩ | ⟨hr, h4⟩⟩
        · omega
        · omega
        · omega
        · exact ⟨k, h1, h2, h3, h4⟩
      have hrs : readS was addr k = leVal ((was.drop addr).take k) := by unfold readS; rw [HPL.out, if_pos hno, Int.toNat_natCast]
      have C4 := ref_read gw 0 N N addr k was w3 (hrow.src.keptNone (hg2.trans hg3)) HPL.out.symm (by rw [HPL.out]; exact hp2) (by rw [HPL.out]; exact hfit) (by omega) (by omega)
      rw [← hrs] at C4
      rw [hno]
      clear hrs hno hk
      obtain ⟨rv, hrv⟩ : ∃ rv, rv = readS was addr k := ⟨_, rfl⟩
      rw [← hrv] at C4 ⊢
      clear hrv
      go_wp2_with fail
      refine (num_any _ _).mono ?_; rintro e w' ⟨rfl, rfl⟩
      go_wp2_with fail
      refine (num_any _ _).mono ?_; rintro e w' ⟨rfl, rfl⟩
      go_wp2_with fail
      refine C4.mono ?_; rintro e w' ⟨rfl, rfl⟩
      clear C4
      go_wp2_with fail
      refine (works_any _).mono ?_; rintro e w4 ⟨rfl, hg4⟩
      go_wp2_with fail
      go_ret
      exact ⟨rfl, hgr.trans hg4⟩
    · have hrs : readS was addr width = 0 := by unfold readS; rw [HPL.out, if_neg hno]
      rw [hrs]
      have hq : (refusedS N addr width != 0) = true := by simpa using hno
      have hno := Lib.hid hno
      obtain ⟨no, hno'⟩ : ∃ no, no = refusedS N addr width := ⟨_, rfl⟩
      rw [← hno'] at hq ⊢
      clear hno' hrs
      go_wp2_with fail
      refine (num_any _ _).mono ?_; rintro e w' ⟨rfl, rfl⟩
      go_wp2_with fail
      refine (num_any _ _).mono ?_; rintro e w' ⟨rfl, rfl⟩
      go_wp2_with fail
      refine (works_any _).mono ?_; rintro e w4 ⟨rfl, hg4⟩
      go_wp2_with fail
      go_ret
      exact ⟨rfl, hgr.trans hg4⟩
theorem framesReads_walk' (a : Option Addr) (n cap : Nat) (l : List UInt8) (pages width x y : Int) (w : World) (hn : n = l.length) (hs : Src w a l) (hm : n ≤ 9223372036854775807) (hx : (Lit.int .u32 x).wf = true) (hw : (Lit.int .i64 width).wf = true) (hy : (Lit.int .u32 y).wf = true) :
    Calls Try.prog 3 #[.slice a n cap, .int .i64 pages, .agg #[.int .u32 x, .int .i64 width, .int .u32 y]] w fun e w' => e = .returned (.bool true) ∧ w.grownBy w' none := by
  obtain ⟨addr, rfl, ha⟩ := wf_u32 hx
  obtain ⟨v, rfl, _⟩ := wf_u32 hy
  exact framesReads_walk a n cap l pages width addr v w hn hs hm ha hw

end Go.Proofs.Ytfldcclnfagmpaa
