import Derived.Test.YtcahpmlajfbidaaI
namespace Go.Proofs.Ytcahpmlajfbidaa
open Go.RowKit
theorem results_c30t {fn : Func} {p t : Tmp} (h : fn.results = #[.cell p 30, .tmp t]) (tmps : Array Value) (w : World) (g : Nat) (cs : Array Value) (hs : cs.size = 17)
    (hp : tmps.getD p undef = .pointer (some ⟨g, 0, none⟩)) (hg : w.heap[g]? = some (.cells cs 30 (0, 0))) : (results fn tmps).run Try.prog w = .ok (.tuple #[.agg cs, tmps.getD t undef]) w := by
  have hp' : tmps[p]?.getD undef = .pointer (some ⟨g, 0, none⟩) := by simpa using hp
  have hl := run_loadVar_row (P := Try.prog) w g 30 30 cs (0, 0) _ hg Try.underlying30 rfl (by rw [hs]; exact Try.size30)
  simp [results, h, hp', asAddr, hl]
theorem next30 {w : World} {g : Nat} {T : Tl} {t : TypeId} (h : w.heap[g]? = some (.cells T.cells t (0, 0))) (k : Int) : (w.setCell ⟨g, 16, none⟩ (.int .i64 k)).heap[g]? = some (.cells (Tl.cells { T with next := k }) t (0, 0)) := by
  have := heap_setCell_at (j := 16) (.int .i64 k) h
  rw [List.setIfInBounds_toArray] at this
  exact this
set_option maxHeartbeats 8000000 in
theorem ref_fill (T : Tl) (page frame : Int) (wr : Bool) (w : World) (hok : T.good) : Calls Try.prog 16 #[T.val, .int .u32 page, .int .u32 frame, .bool wr] w fun e w' => e = .returned (.tuple #[(T.fill page frame wr).val, .int .i64 (T.slot page)]) ∧ w.grownBy w' none := by
  obtain ⟨hgn, hb1, hb2⟩ := two_new w (.cells T.cells 30) (.cells zeros 30)
  have HB1 := Lib.hid hb1
  have HB2 := Lib.hid hb2
  have HG := Lib.hid hgn
  clear hgn hb1 hb2
  go_enter Try.func16, Try.ntmps16
  go_wp2_with (with_reducible refine hold_ld 30 _ rfl ?_)
  apply Lib.hid
  with_reducible refine wpList_load_blk rfl 30 _ rfl _ ?o901 ?hx901 _ _ _ HB1.out _ 17 ?hn901 Try.underlying30 rfl Try.size30 ?_
  case hx901 => exact rfl
  case hn901 => exact rfl
  go_wp2_with fail
  refine (ref_find T page _).mono ?_; rintro e w1 ⟨rfl, hg1⟩
  have hsz := hg1.size
  simp at hsz
  have B1 := Lib.hid ((hg1.block w.heap.size (by simp; omega) (by simp)).trans HB1.out)
  have B2 := Lib.hid ((hg1.block (w.heap.size + 1) (by simp) (by simp)).trans HB2.out)
  have HH := Lib.hid (HG.out.trans hg1)
  clear hg1 HB1 HB2 HG
  rcases T.find_cases page with hf | hf | hf | hf | hf
  · have e3 : T.slot page = T.next := by simp [Tl.slot, hf]
    rw [hf]
    obtain ⟨ta, tb, tc, td, nx⟩ := T
    simp only [Tl.good] at hok
    simp only at e3
    rcases hok with rfl | rfl | rfl | rfl
    · have hv : Tl.fill ⟨ta, tb, tc, td, 0⟩ page frame wr = { (⟨ta, tb, tc, td, 1⟩ : Tl) with a := ⟨true, page, frame, wr⟩ } := by unfold Tl.fill; rw [hf]; rfl
      have HV := Lib.hid hv
      have HS := Lib.hid e3
      clear hv e3
      have hc16 : w1.cell? ⟨w.heap.size, 16, none⟩ = some (.int .i64 0) := by rw [cells_all B1.out]; rfl
      have hfz := frozen_all B1.out 16
      have hgs := grown_setCell w1 w.heap.size 16 (.int .i64 1)
      have B2 := Lib.hid ((hgs.block _ (lt_of_block B2.out) (by simp)).trans B2.out)
      have B1 := Lib.hid (next30 B1.out 1)
      have HH := Lib.hid (grown_new HH.out hgs (Nat.le_refl _))
      clear hgs
      go_wp2_with (with_reducible refine hold_st 27 _ _ rfl ?_)
      apply Lib.hid
      with_reducible refine wpList_store_blk rfl 27 _ _ rfl _ ?o902 ?cs902 ?hx902 ?hy902 _ _ B1.out ?hf902 _ ?hl902 Try.size27 ?h1902 ?_
      case hy902 => exact rfl
      case hx902 => exact rfl
      case hf902 => exact rfl
      case hl902 => exact rfl
      case h1902 => simp [allOne, Value.oneCell']
      intro w2 hb2 hg2
      have B2 := Lib.hid ((hg2.block _ (lt_of_block B2.out) (by simp)).trans B2.out)
      have hb2 : w2.heap[w.heap.size]? = some (.cells (Tl.cells { (⟨ta, tb, tc, td, 1⟩ : Tl) with a := ⟨true, page, frame, wr⟩ }) 30 (0, 0)) := hb2
      have B1 := Lib.hid hb2
      have HH := Lib.hid (grown_new HH.out hg2 (Nat.le_refl _))
      clear hb2 hg2
      go_wp2_with (with_reducible refine hold_ld 30 _ rfl ?_)
      apply Lib.hid
      with_reducible refine wpList_load_blk rfl 30 _ rfl _ ?o903 ?hx903 _ _ _ B1.out _ 17 ?hn903 Try.underlying30 rfl Try.size30 ?_
      case hx903 => exact rfl
      case hn903 => exact rfl
      go_wp2_with (with_reducible refine hold_st 30 _ _ rfl ?_)
      apply Lib.hid
      with_reducible refine wpList_store_all rfl 30 _ _ rfl _ ?cs904 ?hx904 ?hy904 _ _ B2.out ?hf904 _ ?hl904 Try.size30 ?h1904 ?_
      case hy904 => exact rfl
      case hx904 => exact rfl
      case hf904 => exact rfl
      case hl904 => exact rfl
      case h1904 => simp [allOne, Value.oneCell']
      intro w3 hb3 hg3
      have RB := Lib.hid hb3
      have GG := Lib.hid hg3
      clear hb3 hg3
      go_wp2
      refine bodyPost_ret (results_c30t rfl _ _ _ _ (by rfl) (by rfl) RB.out) (by rfl) ?_
      exact ⟨by rw [HV.out, HS.out]; rfl, grown_new HH.out GG.out (by omega)⟩
    · have hv : Tl.fill ⟨ta, tb, tc, td, 1⟩ page frame wr = { (⟨ta, tb, tc, td, 2⟩ : Tl) with b := ⟨true, page, frame, wr⟩ } := by unfold Tl.fill; rw [hf]; rfl
      have HV := Lib.hid hv
      have HS := Lib.hid e3
      clear hv e3
      have hc16 : w1.cell? ⟨w.heap.size, 16, none⟩ = some (.int .i64 1) := by rw [cells_all B1.out]; rfl
      have hfz := frozen_all B1.out 16
      have hgs := grown_setCell w1 w.heap.size 16 (.int .i64 2)
      have B2 := Lib.hid ((hgs.block _ (lt_of_block B2.out) (by simp)).trans B2.out)
      have B1 := Lib.hid (next30 B1.out 2)
      have HH := Lib.hid (grown_new HH.out hgs (Nat.le_refl _))
      clear hgs
      go_wp2_with (with_reducible refine hold_st 27 _ _ rfl ?_)
      apply Lib.hid
      with_reducible refine wpList_store_blk rfl 27 _ _ rfl _ ?o905 ?cs905 ?hx905 ?hy905 _ _ B1.out ?hf905 _ ?hl905 Try.size27 ?h1905 ?_
      case hy905 => exact rfl
      case hx905 => exact rfl
      case hf905 => exact rfl
      case hl905 => exact rfl
      case h1905 => simp [allOne, Value.oneCell']
      intro w2 hb2 hg2
      have B2 := Lib.hid ((hg2.block _ (lt_of_block B2.out) (by simp)).trans B2.out)
      have hb2 : w2.heap[w.heap.size]? = some (.cells (Tl.cells { (⟨ta, tb, tc, td, 2⟩ : Tl) with b := ⟨true, page, frame, wr⟩ }) 30 (0, 0)) := hb2
      have B1 := Lib.hid hb2
      have HH := Lib.hid (grown_new HH.out hg2 (Nat.le_refl _))
      clear hb2 hg2
      go_wp2_with (with_reducible refine hold_ld 30 _ rfl ?_)
      apply Lib.hid
      with_reducible refine wpList_load_blk rfl 30 _ rfl _ ?o906 ?hx906 _ _ _ B1.out _ 17 ?hn906 Try.underlying30 rfl Try.size30 ?_
      case hx906 => exact rfl
      case hn906 => exact rfl
      go_wp2_with (with_reducible refine hold_st 30 _ _ rfl ?_)
      apply Lib.hid
      with_reducible refine wpList_store_all rfl 30 _ _ rfl _ ?cs907 ?hx907 ?hy907 _ _ B2.out ?hf907 _ ?hl907 Try.size30 ?h1907 ?_
      case hy907 => exact rfl
      case hx907 => exact rfl
      case hf907 => exact rfl
      case hl907 => exact rfl
      case h1907 => simp [allOne, Value.oneCell']
      intro w3 hb3 hg3
      have RB := Lib.hid hb3
      have GG := Lib.hid hg3
      clear hb3 hg3
      go_wp2
      refine bodyPost_ret (results_c30t rfl _ _ _ _ (by rfl) (by rfl) RB.out) (by rfl) ?_
      exact ⟨by rw [HV.out, HS.out]; rfl, grown_new HH.out GG.out (by omega)⟩
    · have hv : Tl.fill ⟨ta, tb, tc, td, 2⟩ page frame wr = { (⟨ta, tb, tc, td, 3⟩ : Tl) with c := ⟨true, page, frame, wr⟩ } := by unfold Tl.fill; rw [hf]; rfl
      have HV := Lib.hid hv
      have HS := Lib.hid e3
      clear hv e3
      have hc16 : w1.cell? ⟨w.heap.size, 16, none⟩ = some (.int .i64 2) := by rw [cells_all B1.out]; rfl
      have hfz := frozen_all B1.out 16
      have hgs := grown_setCell w1 w.heap.size 16 (.int .i64 3)
      have B2 := Lib.hid ((hgs.block _ (lt_of_block B2.out) (by simp)).trans B2.out)
      have B1 := Lib.hid (next30 B1.out 3)
      have HH := Lib.hid (grown_new HH.out hgs (Nat.le_refl _))
      clear hgs
      go_wp2_with (with_reducible refine hold_st 27 _ _ rfl ?_)
      apply Lib.hid
      with_reducible refine wpList_store_blk rfl 27 _ _ rfl _ ?o908 ?cs908 ?hx908 ?hy908 _ _ B1.out ?hf908 _ ?hl908 Try.size27 ?h1908 ?_
      case hy908 => exact rfl
      case hx908 => exact rfl
      case hf908 => exact rfl
      case hl908 => exact rfl
      case h1908 => simp [allOne, Value.oneCell']
      intro w2 hb2 hg2
      have B2 := Lib.hid ((hg2.block _ (lt_of_block B2.out) (by simp)).trans B2.out)
      have hb2 : w2.heap[w.heap.size]? = some (.cells (Tl.cells { (⟨ta, tb, tc, td, 3⟩ : Tl) with c := ⟨true, page, frame, wr⟩ }) 30 (0, 0)) := hb2
      have B1 := Lib.hid hb2
      have HH := Lib.hid (grown_new HH.out hg2 (Nat.le_refl _))
      clear hb2 hg2
      go_wp2_with (with_reducible refine hold_ld 30 _ rfl ?_)
      apply Lib.hid
      with_reducible refine wpList_load_blk rfl 30 _ rfl _ ?o909 ?hx909 _ _ _ B1.out _ 17 ?hn909 Try.underlying30 rfl Try.size30 ?_
      case hx909 => exact rfl
      case hn909 => exact rfl
      go_wp2_with (with_reducible refine hold_st 30 _ _ rfl ?_)
      apply Lib.hid
      with_reducible refine wpList_store_all rfl 30 _ _ rfl _ ?cs910 ?hx910 ?hy910 _ _ B2.out ?hf910 _ ?hl910 Try.size30 ?h1910 ?_
      case hy910 => exact rfl
      case hx910 => exact rfl
      case hf910 => exact rfl
      case hl910 => exact rfl
      case h1910 => simp [allOne, Value.oneCell']
      intro w3 hb3 hg3
      have RB := Lib.hid hb3
      have GG := Lib.hid hg3
      clear hb3 hg3
      go_wp2
      refine bodyPost_ret (results_c30t rfl _ _ _ _ (by rfl) (by rfl) RB.out) (by rfl) ?_
      exact ⟨by rw [HV.out, HS.out]; rfl, grown_new HH.out GG.out (by omega)⟩
    · have hv : Tl.fill ⟨ta, tb, tc, td, 3⟩ page frame wr = { (⟨ta, tb, tc, td, 0⟩ : Tl) with d := ⟨true, page, frame, wr⟩ } := by unfold Tl.fill; rw [hf]; rfl
      have HV := Lib.hid hv
      have HS := Lib.hid e3
      clear hv e3
      have hc16 : w1.cell? ⟨w.heap.size, 16, none⟩ = some (.int .i64 3) := by rw [cells_all B1.out]; rfl
      have hfz := frozen_all B1.out 16
      have hgs := grown_setCell w1 w.heap.size 16 (.int .i64 0)
      have B2 := Lib.hid ((hgs.block _ (lt_of_block B2.out) (by simp)).trans B2.out)
      have B1 := Lib.hid (next30 B1.out 0)
      have HH := Lib.hid (grown_new HH.out hgs (Nat.le_refl _))
      clear hgs
      go_wp2_with (with_reducible refine hold_st 27 _ _ rfl ?_)
      apply Lib.hid
      with_reducible refine wpList_store_blk rfl 27 _ _ rfl _ ?o911 ?cs911 ?hx911 ?hy911 _ _ B1.out ?hf911 _ ?hl911 Try.size27 ?h1911 ?_
      case hy911 => exact rfl
      case hx911 => exact rfl
      case hf911 => exact rfl
      case hl911 => exact rfl
      case h1911 => simp [allOne, Value.oneCell']
      intro w2 hb2 hg2
      have B2 := Lib.hid ((hg2.block _ (lt_of_block B2.out) (by simp)).trans B2.out)
      have hb2 : w2.heap[w.heap.size]? = some (.cells (Tl.cells { (⟨ta, tb, tc, td, 0⟩ : Tl) with d := ⟨true, page, frame, wr⟩ }) 30 (0, 0)) := hb2
      have B1 := Lib.hid hb2
      have HH := Lib.hid (grown_new HH.out hg2 (Nat.le_refl _))
      clear hb2 hg2
      go_wp2_with (with_reducible refine hold_ld 30 _ rfl ?_)
      apply Lib.hid
      with_reducible refine wpList_load_blk rfl 30 _ rfl _ ?o912 ?hx912 _ _ _ B1.out _ 17 ?hn912 Try.underlying30 rfl Try.size30 ?_
      case hx912 => exact rfl
      case hn912 => exact rfl
      go_wp2_with (with_reducible refine hold_st 30 _ _ rfl ?_)
      apply Lib.hid
      with_reducible refine wpList_store_all rfl 30 _ _ rfl _ ?cs913 ?hx913 ?hy913 _ _ B2.out ?hf913 _ ?hl913 Try.size30 ?h1913 ?_
      case hy913 => exact rfl
      case hx913 => exact rfl
      case hf913 => exact rfl
      case hl913 => exact rfl
      case h1913 => simp [allOne, Value.oneCell']
      intro w3 hb3 hg3
      have RB := Lib.hid hb3
      have GG := Lib.hid hg3
      clear hb3 hg3
      go_wp2
      refine bodyPost_ret (results_c30t rfl _ _ _ _ (by rfl) (by rfl) RB.out) (by rfl) ?_
      exact ⟨by rw [HV.out, HS.out]; rfl, grown_new HH.out GG.out (by omega)⟩
  · have hv : T.fill page frame wr = { T with a := ⟨true, page, frame, wr⟩ } := by unfold Tl.fill; rw [hf]; rfl
    have e3 : T.slot page = 0 := by simp [Tl.slot, hf]
    have HV := Lib.hid hv
    have HS := Lib.hid e3
    clear hv e3
    rw [hf]
    go_wp2_with (with_reducible refine hold_st 27 _ _ rfl ?_)
    apply Lib.hid
    with_reducible refine wpList_store_blk rfl 27 _ _ rfl _ ?o914 ?cs914 ?hx914 ?hy914 _ _ B1.out ?hf914 _ ?hl914 Try.size27 ?h1914 ?_
    case hy914 => exact rfl
    case hx914 => exact rfl
    case hf914 => exact rfl
    case hl914 => exact rfl
    case h1914 => simp [allOne, Value.oneCell']
    intro w2 hb2 hg2
    have B2 := Lib.hid ((hg2.block _ (lt_of_block B2.out) (by simp)).trans B2.out)
    have hb2 : w2.heap[w.heap.size]? = some (.cells (Tl.cells { T with a := ⟨true, page, frame, wr⟩ }) 30 (0, 0)) := hb2
    have B1 := Lib.hid hb2
    have HH := Lib.hid (grown_new HH.out hg2 (Nat.le_refl _))
    clear hb2 hg2
    go_wp2_with (with_reducible refine hold_ld 30 _ rfl ?_)
    apply Lib.hid
    with_reducible refine wpList_load_blk rfl 30 _ rfl _ ?o915 ?hx915 _ _ _ B1.out _ 17 ?hn915 Try.underlying30 rfl Try.size30 ?_
    case hx915 => exact rfl
    case hn915 => exact rfl
    go_wp2_with (with_reducible refine hold_st 30 _ _ rfl ?_)
    apply Lib.hid
    with_reducible refine wpList_store_all rfl 30 _ _ rfl _ ?cs916 ?hx916 ?hy916 _ _ B2.out ?hf916 _ ?hl916 Try.size30 ?h1916 ?_
    case hy916 => exact rfl
    case hx916 => exact rfl
    case hf916 => exact rfl
    case hl916 => exact rfl
    case h1916 => simp [allOne, Value.oneCell']
    intro w3 hb3 hg3
    have RB := Lib.hid hb3
    have GG := Lib.hid hg3
    clear hb3 hg3
    go_wp2
    refine bodyPost_ret (results_c30t rfl _ _ _ _ (by rfl) (by rfl) RB.out) (by rfl) ?_
    exact ⟨by rw [HV.out, HS.out]; rfl, grown_new HH.out GG.out (by omega)⟩
  · have hv : T.fill page frame wr = { T with b := ⟨true, page, frame, wr⟩ } := by unfold Tl.fill; rw [hf]; rfl
    have e3 : T.slot page = 1 := by simp [Tl.slot, hf]
    have HV := Lib.hid hv
    have HS := Lib.hid e3
    clear hv e3
    rw [hf]
    go_wp2_with (with_reducible refine hold_st 27 _ _ rfl ?_)
    apply Lib.hid
    with_reducible refine wpList_store_blk rfl 27 _ _ rfl _ ?o917 ?cs917 ?hx917 ?hy917 _ _ B1.out ?hf917 _ ?hl917 Try.size27 ?h1917 ?_
    case hy917 => exact rfl
    case hx917 => exact rfl
    case hf917 => exact rfl
    case hl917 => exact rfl
    case h1917 => simp [allOne, Value.oneCell']
    intro w2 hb2 hg2
    have B2 := Lib.hid ((hg2.block _ (lt_of_block B2.out) (by simp)).trans B2.out)
    have hb2 : w2.heap[w.heap.size]? = some (.cells (Tl.cells { T with b := ⟨true, page, frame, wr⟩ }) 30 (0, 0)) := hb2
    have B1 := Lib.hid hb2
    have HH := Lib.hid (grown_new HH.out hg2 (Nat.le_refl _))
    clear hb2 hg2
    go_wp2_with (with_reducible refine hold_ld 30 _ rfl ?_)
    apply Lib.hid
    with_reducible refine wpList_load_blk rfl 30 _ rfl _ ?o918 ?hx918 _ _ _ B1.out _ 17 ?hn918 Try.underlying30 rfl Try.size30 ?_
    case hx918 => exact rfl
    case hn918 => exact rfl
    go_wp2_with (with_reducible refine hold_st 30 _ _ rfl ?_)
    apply Lib.hid
    with_reducible refine wpList_store_all rfl 30 _ _ rfl _ ?cs919 ?hx919 ?hy919 _ _ B2.out ?hf919 _ ?hl919 Try.size30 ?h1919 ?_
    case hy919 => exact rfl
    case hx919 => exact rfl
    case hf919 => exact rfl
    case hl919 => exact rfl
    case h1919 => simp [allOne, Value.oneCell']
    intro w3 hb3 hg3
    have RB := Lib.hid hb3
    have GG := Lib.hid hg3
    clear hb3 hg3
    go_wp2
    refine bodyPost_ret (results_c30t rfl _ _ _ _ (by rfl) (by rfl) RB.out) (by rfl) ?_
    exact ⟨by rw [HV.out, HS.out]; rfl, grown_new HH.out GG.out (by omega)⟩
  · have hv : T.fill page frame wr = { T with c := ⟨true, page, frame, wr⟩ } := by unfold Tl.fill; rw [hf]; rfl
    have e3 : T.slot page = 2 := by simp [Tl.slot, hf]
    have HV := Lib.hid hv
    have HS := Lib.hid e3
    clear hv e3
    rw [hf]
    go_wp2_with (with_reducible refine hold_st 27 _ _ rfl ?_)
    apply Lib.hid
    with_reducible refine wpList_store_blk rfl 27 _ _ rfl _ ?o920 ?cs920 ?hx920 ?hy920 _ _ B1.out ?hf920 _ ?hl920 Try.size27 ?h1920 ?_
    case hy920 => exact rfl
    case hx920 => exact rfl
    case hf920 => exact rfl
    case hl920 => exact rfl
    case h1920 => simp [allOne, Value.oneCell']
    intro w2 hb2 hg2
    have B2 := Lib.hid ((hg2.block _ (lt_of_block B2.out) (by simp)).trans B2.out)
    have hb2 : w2.heap[w.heap.size]? = some (.cells (Tl.cells { T with c := ⟨true, page, frame, wr⟩ }) 30 (0, 0)) := hb2
    have B1 := Lib.hid hb2
    have HH := Lib.hid (grown_new HH.out hg2 (Nat.le_refl _))
    clear hb2 hg2
    go_wp2_with (with_reducible refine hold_ld 30 _ rfl ?_)
    apply Lib.hid
    with_reducible refine wpList_load_blk rfl 30 _ rfl _ ?o921 ?hx921 _ _ _ B1.out _ 17 ?hn921 Try.underlying30 rfl Try.size30 ?_
    case hx921 => exact rfl
    case hn921 => exact rfl
    go_wp2_with (with_reducible refine hold_st 30 _ _ rfl ?_)
    apply Lib.hid
    with_reducible refine wpList_store_all rfl 30 _ _ rfl _ ?cs922 ?hx922 ?hy922 _ _ B2.out ?hf922 _ ?hl922 Try.size30 ?h1922 ?_
    case hy922 => exact rfl
    case hx922 => exact rfl
    case hf922 => exact rfl
    case hl922 => exact rfl
    case h1922 => simp [allOne, Value.oneCell']
    intro w3 hb3 hg3
    have RB := Lib.hid hb3
    have GG := Lib.hid hg3
    clear hb3 hg3
    go_wp2
    refine bodyPost_ret (results_c30t rfl _ _ _ _ (by rfl) (by rfl) RB.out) (by rfl) ?_
    exact ⟨by rw [HV.out, HS.out]; rfl, grown_new HH.out GG.out (by omega)⟩
  · have hv : T.fill page frame wr = { T with d := ⟨true, page, frame, wr⟩ } := by unfold Tl.fill; rw [hf]; rfl
    have e3 : T.slot page = 3 := by simp [Tl.slot, hf]
    have HV := Lib.hid hv
    have HS := Lib.hid e3
    clear hv e3
    rw [hf]
    go_wp2_with (with_reducible refine hold_st 27 _ _ rfl ?_)
    apply Lib.hid
    with_reducible refine wpList_store_blk rfl 27 _ _ rfl _ ?o923 ?cs923 ?hx923 ?hy923 _ _ B1.out ?hf923 _ ?hl923 Try.size27 ?h1923 ?_
    case hy923 => exact rfl
    case hx923 => exact rfl
    case hf923 => exact rfl
    case hl923 => exact rfl
    case h1923 => simp [allOne, Value.oneCell']
    intro w2 hb2 hg2
    have B2 := Lib.hid ((hg2.block _ (lt_of_block B2.out) (by simp)).trans B2.out)
    have hb2 : w2.heap[w.heap.size]? = some (.cells (Tl.cells { T with d := ⟨true, page, frame, wr⟩ }) 30 (0, 0)) := hb2
    have B1 := Lib.hid hb2
    have HH := Lib.hid (grown_new HH.out hg2 (Nat.le_refl _))
    clear hb2 hg2
    go_wp2_with (with_reducible refine hold_ld 30 _ rfl ?_)
    apply Lib.hid
    with_reducible refine wpList_load_blk rfl 30 _ rfl _ ?o924 ?hx924 _ _ _ B1.out _ 17 ?hn924 Try.underlying30 rfl Try.size30 ?_
    case hx924 => exact rfl
    case hn924 => exact rfl
    go_wp2_with (with_reducible refine hold_st 30 _ _ rfl ?_)
    apply Lib.hid
    with_reducible refine wpList_store_all rfl 30 _ _ rfl _ ?cs925 ?hx925 ?hy925 _ _ B2.out ?hf925 _ ?hl925 Try.size30 ?h1925 ?_
    case hy925 => exact rfl
    case hx925 => exact rfl
    case hf925 => exact rfl
    case hl925 => exact rfl
    case h1925 => simp [allOne, Value.oneCell']
    intro w3 hb3 hg3
    have RB := Lib.hid hb3
    have GG := Lib.hid hg3
    clear hb3 hg3
    go_wp2
    refine bodyPost_ret (results_c30t rfl _ _ _ _ (by rfl) (by rfl) RB.out) (by rfl) ?_
    exact ⟨by rw [HV.out, HS.out]; rfl, grown_new HH.out GG.out (by omega)⟩
end Go.Proofs.Ytcahpmlajfbidaa
