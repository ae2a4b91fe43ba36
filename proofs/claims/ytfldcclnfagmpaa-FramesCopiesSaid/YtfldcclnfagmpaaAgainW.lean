import Derived.Test.YtfldcclnfagmpaaAgainP
namespace Go.Proofs.Ytfldcclnfagmpaa
open Go.RowKit

theorem drewNr {a b : World} {row : Option Nat} (h : a.grownBy b row) (n : Nat) : a.grownBy (b.drewN n) row := by
  exact ⟨h.os, h.tape, h.output, h.size, h.block⟩

set_option maxRecDepth 100000 in
set_option maxHeartbeats 4000000 in
theorem framesAgain_walk (a : Option Addr) (n cap : Nat) (l : List UInt8) (pages width : Int) (addr v other : Nat) (w : World) (hn : n = l.length) (hs : Src w a l) (hm : n ≤ 9223372036854775807) (ha : addr < 4294967296) (hv : v < 4294967296) (hw : (Lit.int .i64 width).wf = true) (ho : other < 4294967296) :
    Calls Try.prog 8 #[.slice a n cap, .int .i64 pages, .agg #[.int .u32 addr, .int .i64 width, .int .u32 v], .int .u32 other] w fun e w' => e = .returned (.bool true) ∧ w.grownBy w' none := by
  subst hn
  have hg0 := World.grownBy_alloc w (.cells #[.int .u32 addr, .int .i64 width, .int .u32 v] 25) none
  by_cases hbig : 3000 < l.length
  · have hb' : (3000 : Int) < l.length := by omega
    have H0 := Lib.hid hg0
    clear hg0
    go_enter Try.func8, Try.ntmps8
    go_wp2_with (go_at_call 10; refine (works_any _).mono ?_; rintro e w1 ⟨rfl, hg1⟩)
    go_ret
    exact ⟨rfl, H0.out.trans hg1⟩
  obtain ⟨hp1, hp2, hp3⟩ := pageN_facts pages
  have C1 := paged_any a cap l pages _ (hs.keptNone hg0) (by omega)
  rw [← pagedL_length l pages] at C1 hp1 hp2 hp3
  obtain ⟨was, hwas⟩ : ∃ was, was = pagedL l pages := ⟨_, rfl⟩
  rw [← hwas] at C1 hp1 hp2 hp3
  have H0 := Lib.hid hg0
  have HA := Lib.hid (heap_alloc_new w (.cells #[.int .u32 addr, .int .i64 width, .int .u32 v] 25))
  have hne : was ≠ [] := fun e => by subst e; simp at hp1
  clear hg0 hwas
  have hb' : ¬ (3000 : Int) < l.length := by omega
  go_enter Try.func8, Try.ntmps8
  go_wp2_with fail
  refine C1.mono ?_; rintro e w1 ⟨gw, rfl, hgw, hrow, hg1⟩
  clear C1
  have HX := Lib.hid (hg1.block w.heap.size (by simp) (by simp))
  go_wp2_with fail
  refine (of_good gw 0 was.length was.length was rfl w1 hrow.src hp1 hp2 hp3).mono ?_; rintro e w2 ⟨B, g, rfl, hB, hg, hF, hg2⟩
  have hsz1 : w.heap.size < w1.heap.size := by have := hg1.size; simp at this; omega
  go_wp2_with fail
  refine (copy_any B g was w2 hF (by omega) hne).mono ?_; rintro e w3 ⟨B', g', rfl, hB', hg', hF', hg3⟩
  have hx : w3.heap[w.heap.size]? = some (.cells #[.int .u32 addr, .int .i64 width, .int .u32 v] 25 (0, 0)) := (hg3.block _ (Nat.lt_of_lt_of_le hsz1 hg2.size) (by simp)).trans ((hg2.block _ hsz1 (by simp)).trans (HX.out.trans HA.out))
  have hx0 : w3.cell? ⟨w.heap.size, 0, none⟩ = some (.int .u32 addr) := by simp [World.cell?, hx]
  have hx1 : w3.cell? ⟨w.heap.size, 1, none⟩ = some (.int .i64 width) := by simp [World.cell?, hx]
  have hx2 : w3.cell? ⟨w.heap.size, 2, none⟩ = some (.int .u32 v) := by simp [World.cell?, hx]
  have hFg := hF.ltg
  have hF3 := hF.keptNone hg3
  go_wp2_with fail
  refine (write_any B g addr v width was w3 hF3 hp3 hp2 ha hw).mono ?_; rintro e w4 ⟨rfl, hF4, hg4⟩
  have hx4 : w4.heap[w.heap.size]? = some (.cells #[.int .u32 addr, .int .i64 width, .int .u32 v] 25 (0, 0)) := (hg4.block _ (lt_of_block hx) (by simp; omega)).trans hx
  have hgr4 : w.grownBy w4 none := grown_new (H0.out.trans (hg1.trans (hg2.trans hg3))) hg4 (by simp at hgw; omega)
  have hO4 : Fr w4 B' g' was := hF'.kept hg4 (by have := hF'.ltB; simp; omega) (by simp; omega)
  have hwl : (writeS was addr width v).length = was.length := by unfold writeS; split <;> simp [wrL_length]
  clear hx0 hx1 hx2
  have hx0 : w4.cell? ⟨w.heap.size, 0, none⟩ = some (.int .u32 addr) := by simp [World.cell?, hx4]
  have hx1 : w4.cell? ⟨w.heap.size, 1, none⟩ = some (.int .i64 width) := by simp [World.cell?, hx4]
  have C5 := read_any B g addr width (writeS was addr width v) w4 hF4 (by rw [hwl]; exact hp3) (by rw [hwl]; exact hp2) ha hw
  rw [hwl] at C5
  by_cases hno : refusedS was.length addr width = 0
  · obtain ⟨k, rfl, hk, hal, hfit⟩ : ∃ k : Nat, width = k ∧ (k = 1 ∨ k = 4) ∧ addr % k = 0 ∧ addr + k ≤ was.length := by
      rcases refused_cases was.length addr width hp3 with ⟨hr, _⟩ | ⟨hr, _⟩ | ⟨k, h1, h2, h3, ⟨hr, _⟩ | ⟨hr, h4⟩⟩
      · omega
      · omega
      · omega
      · exact ⟨k, h1, h2, h3, h4⟩
    have hrs : writeS was addr k v = wrL was addr k v := by unfold writeS; rw [if_pos hno, Int.toNat_natCast]
    rw [hrs] at hF4 C5
    rw [again_value was addr k v hk hfit hno hv, hno] at C5
    rw [hno]
    have hoth := again_other was addr k v other hfit
    have hwl' := wrL_length was addr k v
    obtain ⟨bl, hbl⟩ : ∃ bl, bl = wrL was addr k v := ⟨_, rfl⟩
    rw [← hbl] at hF4 hoth hwl'
    have hblne : bl ≠ [] := fun e => by rw [e] at hwl'; simp at hwl'; omega
    have hat4 : ∃ at_ : Nat, (at_ : Int) = (addr : Int) - (addr : Int) % 4 ∧ at_ + 4 ≤ was.length ∧ at_ % 4 = 0 := ⟨addr - addr % 4, by omega, by omega, by omega⟩
    obtain ⟨at_, hat, hat1, hat2⟩ := hat4
    have hr1 : ∀ j, j < was.length → refusedS was.length j 1 = 0 := fun j hj => by rw [refused_one, if_neg (by omega)]
    have hr4 : refusedS was.length at_ 4 = 0 := by unfold refusedS; rw [if_neg (by omega), if_neg (by omega), if_neg (by omega)]
    have hfin : readS bl at_ 4 = leVal ((bl.drop (at_ + 4 - 4)).take 4) := by
      have := readS_ok bl at_ 4 (by rw [hwl']; exact hr4)
      simpa using this
    obtain ⟨ro, hro⟩ : ∃ ro, ro = refusedS was.length other 1 := ⟨_, rfl⟩
    obtain ⟨rx, hrx⟩ : ∃ rx, rx = readS bl other 1 := ⟨_, rfl⟩
    obtain ⟨ry, hry⟩ : ∃ ry, ry = readS was other 1 := ⟨_, rfl⟩
    rw [← hrx, ← hry] at hoth
    have C6 : ∀ w5, w4.grownBy w5 none → Calls Try.prog 13 #[.pointer (some ⟨B, 0, none⟩), .int .u32 other, .int .i64 1] w5 fun e w' => e = .returned (.tuple #[.int .u32 rx, .int .i64 ro]) ∧ w5.grownBy w' none := fun w5 h5 => by
      have := read_any B g other 1 bl w5 (hF4.keptNone h5) (by rw [hwl']; exact hp3) (by rw [hwl']; exact hp2) ho (by decide)
      rw [hwl', ← hrx, ← hro] at this
      exact this
    have C7 : ∀ w5, w4.grownBy w5 none → Calls Try.prog 13 #[.pointer (some ⟨B', 0, none⟩), .int .u32 other, .int .i64 1] w5 fun e w' => e = .returned (.tuple #[.int .u32 ry, .int .i64 ro]) ∧ w5.grownBy w' none := fun w5 h5 => by
      have := read_any B' g' other 1 was w5 (hO4.keptNone h5) hp3 hp2 ho (by decide)
      rw [← hry, ← hro] at this
      exact this
    have C8 : ∀ w5 (q : Nat), w4.grownBy w5 none → q < was.length → Calls Try.prog 13 #[.pointer (some ⟨B, 0, none⟩), .int .u32 q, .int .i64 1] w5 fun e w' => e = .returned (.tuple #[.int .u32 (readS bl q 1), .int .i64 0]) ∧ w5.grownBy w' none := fun w5 q h5 hq => by
      have := read_any B g q 1 bl w5 (hF4.keptNone h5) (by rw [hwl']; exact hp3) (by rw [hwl']; exact hp2) (by omega) (by decide)
      rw [hwl', hr1 q hq] at this
      exact this
    have C9 : ∀ w5, w4.grownBy w5 none → Calls Try.prog 13 #[.pointer (some ⟨B, 0, none⟩), .int .u32 at_, .int .i64 4] w5 fun e w' => e = .returned (.tuple #[.int .u32 (leVal ((bl.drop (at_ + 4 - 4)).take 4)), .int .i64 0]) ∧ w5.grownBy w' none := fun w5 h5 => by
      have := read_any B g at_ 4 bl w5 (hF4.keptNone h5) (by rw [hwl']; exact hp3) (by rw [hwl']; exact hp2) (by omega) (by decide)
      rw [hwl', hr4, hfin] at this
      exact this
    have hbw := again_word bl at_
    rw [hwl'] at hbw
    have HBW := Lib.hid hbw
    have HL := Lib.hid hwl'
    have HAT := Lib.hid hat
    have HC5 := Lib.hid C5
    have HC6 := Lib.hid C6
    have HC7 := Lib.hid C7
    have HC8 := Lib.hid C8
    have HC9 := Lib.hid C9
    have HOT := Lib.hid hoth
    have hlt1 := readS_lt_one bl
    have hlt3 := word_lt3 bl at_
    have HL1 := Lib.hid hlt1
    have HL3 := Lib.hid hlt3
    clear hrs hoth hwl' hwl hbl hno hal C5 C6 C7 C8 C9 hbw hr1 hr4 hfin hro hrx hry hat hat2 hlt1 hlt3
    obtain ⟨want, hwant⟩ : ∃ want, want = (if k = 1 then v % 256 else v) := ⟨_, rfl⟩
    have HC5' := HC5.out
    rw [← hwant] at HC5'
    have HC5 := Lib.hid HC5'
    have hcase : ((((k : Nat) : Int) == 1) = true ∧ ((want : Int) != (v : Int) % 256) = false) ∨ ((((k : Nat) : Int) == 1) = false ∧ ((want : Int) != (v : Int)) = false) := by
      rcases hk with rfl | rfl
      · left; rw [hwant, if_pos rfl]; simp
      · right; rw [hwant, if_neg (by decide)]; simp
    have hbey : ((other : Int) < addr ∧ rx = ry) ∨ (¬ (other : Int) < addr ∧ ((addr : Int) + k ≤ other) ∧ rx = ry) ∨ (¬ (other : Int) < addr ∧ ¬ ((addr : Int) + k ≤ other)) := by
      by_cases h1 : other < addr
      · exact .inl ⟨by omega, HOT.out (.inl h1)⟩
      · by_cases h2 : addr + k ≤ other
        · exact .inr (.inl ⟨by omega, by omega, HOT.out (.inr h2)⟩)
        · exact .inr (.inr ⟨by omega, by omega⟩)
    clear hwant HC5' hk HOT
    rcases hcase with ⟨hq1, hwq⟩ | ⟨hq1, hwq⟩
    all_goals
      go_wp2_with fail
      refine HC5.out.mono ?_; rintro e w5 ⟨rfl, hg5⟩
      have hx5 : w5.heap[w.heap.size]? = _ := (hg5.block _ (lt_of_block hx4) (by simp)).trans hx4
      have hx0 : w5.cell? ⟨w.heap.size, 0, none⟩ = some (.int .u32 addr) := by simp [World.cell?, hx5]
      have hx1 : w5.cell? ⟨w.heap.size, 1, none⟩ = some (.int .i64 k) := by simp [World.cell?, hx5]
      have hx2 : w5.cell? ⟨w.heap.size, 2, none⟩ = some (.int .u32 v) := by simp [World.cell?, hx5]
      go_wp2_with fail
      refine (num_any _ _).mono ?_; rintro e w' ⟨rfl, rfl⟩
      go_wp2_with fail
      refine (num_any _ _).mono ?_; rintro e w' ⟨rfl, rfl⟩
      go_wp2_with fail
      refine (num_any _ _).mono ?_; rintro e w' ⟨rfl, rfl⟩
      go_wp2_with fail
      refine (num_any _ _).mono ?_; rintro e w' ⟨rfl, rfl⟩
      go_wp2_with fail
      refine (HC6.out w5 hg5).mono ?_; rintro e w6 ⟨rfl, hg6⟩
      have hg46 := hg5.trans hg6
      go_wp2_with fail
      refine (HC7.out w6 hg46).mono ?_; rintro e w7 ⟨rfl, hg7⟩
      have hg47 := hg46.trans hg7
      have hx7 : w7.heap[w.heap.size]? = _ := (hg47.block _ (lt_of_block hx4) (by simp)).trans hx4
      have hx0 : w7.cell? ⟨w.heap.size, 0, none⟩ = some (.int .u32 addr) := by simp [World.cell?, hx7]
      have hx1 : w7.cell? ⟨w.heap.size, 1, none⟩ = some (.int .i64 k) := by simp [World.cell?, hx7]
      clear hx2 hx5 HC5
      rcases hbey with ⟨hb1, rfl⟩ | ⟨hb1, hb2, rfl⟩ | ⟨hb1, hb2⟩
      all_goals
        go_wp2_with fail
        refine (num_any _ _).mono ?_; rintro e w' ⟨rfl, rfl⟩
        go_wp2_with fail
        refine (num_any _ _).mono ?_; rintro e w' ⟨rfl, rfl⟩
        go_wp2_with fail
        rw [← HAT.out]
        go_loopw [22, 23] (fun x i wr => ∃ j : Nat, j ≤ 4 ∧ i = .int .u32 j ∧ x = .int .u32 (leVal ((bl.drop (at_ + 4 - j)).take j)) ∧ w4.grownBy wr none) (fun _ i _ => 4 - (intOf i).toNat)
        case atStart => exact ⟨0, by omega, rfl, by simp [leVal], hg47⟩
        case round =>
          obtain ⟨j, hj, rfl, rfl, hgj⟩ := hrel
          clear hx0 hx1 hx7
          by_cases hlt : j < 4
          · have b1 := HL1.out (at_ + 3 - j)
            have b3 := HL3.out j hlt
            have CQ := HC8.out wr (at_ + 3 - j) hgj (by omega)
            have hwd := HBW.out j hat1 hlt
            obtain ⟨wd, hwd0⟩ : ∃ wd, wd = leVal ((bl.drop (at_ + 4 - j)).take j) := ⟨_, rfl⟩
            obtain ⟨rd, hrd0⟩ : ∃ rd, rd = readS bl (at_ + 3 - j) 1 := ⟨_, rfl⟩
            rw [← hwd0] at b3 hwd ⊢
            rw [← hrd0] at b1 hwd CQ
            rw [show (((at_ + 3 - j : Nat)) : Int) = (at_ : Int) + 3 - j from by omega] at CQ
            have HWD := Lib.hid hwd
            have HCQ := Lib.hid CQ
            clear hwd hwd0 hrd0 CQ
            go_wp2_with fail
            refine HCQ.out.mono ?_; rintro e wq ⟨rfl, hgq⟩
            clear HCQ
            go_wp2_with fail
            refine (num_any _ _).mono ?_; rintro e w' ⟨rfl, rfl⟩
            go_wp2_with fail
            go_roundw
            case rel => exact ⟨j + 1, by omega, by go_num, by rw [HWD.out]; go_num, hgj.trans hgq⟩
            case measure => simp [intOf]; omega
          · obtain rfl : j = 4 := by omega
            obtain ⟨wd, hwd0⟩ : ∃ wd, wd = leVal ((bl.drop (at_ + 4 - 4)).take 4) := ⟨_, rfl⟩
            have CQ := HC9.out wr hgj
            rw [← hwd0] at CQ ⊢
            have HCQ := Lib.hid CQ
            clear hwd0 CQ
            go_wp2_with fail
            refine HCQ.out.mono ?_; rintro e wq ⟨rfl, hgq⟩
            clear HCQ
            go_wp2_with fail
            refine (num_any _ _).mono ?_; rintro e w' ⟨rfl, rfl⟩
            go_wp2_with fail
            refine (works_any _).mono ?_; rintro e wz ⟨rfl, hgz⟩
            go_wp2_with fail
            go_ret
            exact ⟨rfl, ((hgr4.trans hgj).trans hgq).trans hgz⟩
  · have hrs : writeS was addr width v = was := by unfold writeS; rw [if_neg hno]
    rw [hrs] at hF4 C5
    have hq : (refusedS was.length addr width != 0) = true := by simpa using hno
    obtain ⟨no, hno'⟩ : ∃ no, no = refusedS was.length addr width := ⟨_, rfl⟩
    obtain ⟨rv, hrv⟩ : ∃ rv, rv = readS was addr width := ⟨_, rfl⟩
    rw [← hno'] at hq C5 ⊢
    rw [← hrv] at C5
    have HC5 := Lib.hid C5
    clear hno hno' hrv hrs hwl C5
    go_wp2_with fail
    refine HC5.out.mono ?_; rintro e w5 ⟨rfl, hg5⟩
    go_wp2_with fail
    refine (num_any _ _).mono ?_; rintro e w' ⟨rfl, rfl⟩
    go_wp2_with fail
    refine (num_any _ _).mono ?_; rintro e w' ⟨rfl, rfl⟩
    go_wp2_with fail
    refine (num_any _ _).mono ?_; rintro e w' ⟨rfl, rfl⟩
    go_wp2_with fail
    refine (num_any _ _).mono ?_; rintro e w' ⟨rfl, rfl⟩
    go_wp2_with fail
    refine (same_any B g B' g' was was w5 (hF4.keptNone hg5) (hO4.keptNone hg5)).mono ?_; rintro e w6 ⟨rfl, nd, rfl⟩
    have hbb : (was == was) = true := by simp
    go_wp2_with fail
    refine (works_any _).mono ?_; rintro e w7 ⟨rfl, hg7⟩
    go_wp2_with fail
    go_ret
    exact ⟨rfl, (drewNr (hgr4.trans hg5) nd).trans hg7⟩

theorem framesAgain_walk' (a : Option Addr) (n cap : Nat) (l : List UInt8) (pages width x y z : Int) (w : World) (hn : n = l.length) (hs : Src w a l) (hm : n ≤ 9223372036854775807) (hx : (Lit.int .u32 x).wf = true) (hw : (Lit.int .i64 width).wf = true) (hy : (Lit.int .u32 y).wf = true) (hz : (Lit.int .u32 z).wf = true) :
    Calls Try.prog 8 #[.slice a n cap, .int .i64 pages, .agg #[.int .u32 x, .int .i64 width, .int .u32 y], .int .u32 z] w fun e w' => e = .returned (.bool true) ∧ w.grownBy w' none := by
  obtain ⟨addr, rfl, ha⟩ := wf_u32 hx
  obtain ⟨v, rfl, hv⟩ := wf_u32 hy
  obtain ⟨o, rfl, ho⟩ := wf_u32 hz
  exact framesAgain_walk a n cap l pages width addr v o w hn hs hm ha hv hw ho

end Go.Proofs.Ytfldcclnfagmpaa
