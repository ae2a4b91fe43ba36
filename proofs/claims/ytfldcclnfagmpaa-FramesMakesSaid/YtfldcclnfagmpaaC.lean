import Derived.Test.YtfldcclnfagmpaaB
namespace Go.Proofs.Ytfldcclnfagmpaa
open Go.RowKit

theorem part_range (B g addr : Nat) (n : Int) (l : List UInt8) (f : Value) (w : World) (h : Fr w B g l) (ha : addr < 4294967296) (hn : 0 ≤ n) (hn2 : n ≤ 140737488355328) (hno : (l.length : Int) < addr + n) :
    Calls Try.prog 32 #[.pointer (some ⟨B, 0, none⟩), .int .u32 addr, .int .i64 n, f] w fun e w' => e = .returned (.int .i64 4) ∧ w = w' := by
  obtain ⟨cap, hb, hr⟩ := h
  have hc := cell_of_one hb
  by_cases h1 : (l.length : Int) < addr
  · go_enter Try.func32, Try.ntmps32
    go_wp2
    go_ret
    exact ⟨rfl, rfl⟩
  · have h2 : (l.length : Int) - addr < n := by omega
    go_enter Try.func32, Try.ntmps32
    go_wp2
    go_ret
    exact ⟨rfl, rfl⟩

theorem part_ok (B g addr n : Nat) (l : List UInt8) (F : FuncId) (caps : Array Value) (w : World) (h : Fr w B g l) (h1 : 1 ≤ n) (hl : l.length ≤ 2048) (hfit : addr + n ≤ l.length) (R : World → Prop)
    (hF : ∀ args w, (callFunc F args).run Try.prog w = .ok (.enter F args) w) (hon : Calls Try.prog F (#[.slice (some ⟨g, addr, none⟩) n n] ++ caps) w fun e w' => e = .returned (.tuple #[]) ∧ R w') :
    Calls Try.prog 32 #[.pointer (some ⟨B, 0, none⟩), .int .u32 addr, .int .i64 n, .func (.func F) #[] caps] w fun e w' => e = .returned (.int .i64 0) ∧ R w' := by
  obtain ⟨cap, hb, hr⟩ := h
  have hcap := hr.1
  have hc := cell_of_one hb
  have h2 : ¬ (l.length : Int) < addr := by omega
  have h3 : ¬ (l.length : Int) - addr < n := by omega
  go_enter Try.func32, Try.ntmps32
  go_wp2_with fail
  refine hon.mono ?_; rintro e w1 ⟨rfl, hR⟩
  clear hon
  go_wp2
  go_ret
  exact ⟨rfl, hR⟩

theorem Try.zeroE (w : World) : (zeroValue 3).run Try.prog w = .ok (.int .i64 0) w := by kernel_rfl

/-- The map of the widths that may be. -/
theorem widths_made (w : World) (width : Int) (hw : (Lit.int .i64 width).wf = true) : ∃ w1 w2, (Instr.mapUpdate 61 (.map (some w.heap.size)) (.int .i64 1) (.int .i64 1)).run Try.prog (w.alloc (.map #[] 0)) = .ok () w1 ∧
    (Instr.mapUpdate 61 (.map (some w.heap.size)) (.int .i64 4) (.int .i64 1)).run Try.prog w1 = .ok () w2 ∧ w.grownBy w2 none ∧
    (Instr.lookup 61 (.map (some w.heap.size)) (.int .i64 width) false).run Try.prog w2 = .ok (.int .i64 (if width = 1 ∨ width = 4 then 1 else 0)) w2 := by
  have law := Maps.int_keyed (P := Try.prog) Try.underlying3
  have own0 := World.ownsMap_made w Try.prog 3 (plainElem (H := Unit) Try.prog 3)
  obtain ⟨w1, e1, own1, g1⟩ := own0.update (t := 61) law Try.underlying61 (by simp [maxLen]) (Maps.keyOf_int_mk Try.underlying3 (a := 1) (by decide)) (plainElem_int Try.underlying3 (a := 1) (by decide))
  obtain ⟨w2, e2, own2, g2⟩ := own1.update (t := 61) law Try.underlying61 (by simp [maxLen]) (Maps.keyOf_int_mk Try.underlying3 (a := 4) (by decide)) (plainElem_int Try.underlying3 (a := 1) (by decide))
  obtain ⟨c, e3, hat, _⟩ := own2.lookup_int law Try.underlying61 Try.underlying3 (Try.zeroE _) (Maps.keyOf_int_mk Try.underlying3 hw)
  refine ⟨w1, w2, e1, e2, grown_new (World.grownBy_alloc _ _ _) (g1.trans g2) (Nat.le_refl _), ?_⟩
  rw [e3]
  have hc : c = (if width = 1 ∨ width = 4 then 1 else 0) := by
    by_cases h1 : width = 1
    · subst h1
      have : (DataW.lit (Lit.int .i64 c) : DataW Unit) = .lit (.int .i64 1) := hat.symm.trans (by rfl)
      simpa using this
    · by_cases h4 : width = 4
      · subst h4
        have : (DataW.lit (Lit.int .i64 c) : DataW Unit) = .lit (.int .i64 1) := hat.symm.trans (by rfl)
        simpa using this
      · have : (DataW.lit (Lit.int .i64 c) : DataW Unit) = .lit (.int .i64 0) := by
          rw [← hat, Maps.atKey_put_other (by simpa using h4), Maps.atKey_put_other (by simpa using h1)]
          rfl
        rw [if_neg (by omega)]
        simpa using this
  rw [hc]

theorem access_nil (addr width : Int) (f : Value) (w : World) : Calls Try.prog 27 #[.pointer none, .int .u32 addr, .int .i64 width, f] w fun e w' => e = .returned (.int .i64 1) ∧ w.grownBy w' none := by
  obtain ⟨w1, w2, e1, e2, hg, _⟩ := widths_made w 0 (by decide)
  have hmm := @run_makeMap Try.prog
  go_enter Try.func27, Try.ntmps27
  go_wp2_with (go_at_call 30; refine (none_nil _).mono ?_; rintro e w' ⟨rfl, rfl⟩)
  go_ret
  exact ⟨rfl, hg⟩

theorem access_arg (B g : Nat) (l : List UInt8) (addr width : Int) (f : Value) (w : World) (h : Fr w B g l) (hw : (Lit.int .i64 width).wf = true) (hno : width ≠ 1 ∧ width ≠ 4) :
    Calls Try.prog 27 #[.pointer (some ⟨B, 0, none⟩), .int .u32 addr, .int .i64 width, f] w fun e w' => e = .returned (.int .i64 2) ∧ w.grownBy w' none := by
  obtain ⟨w1, w2, e1, e2, hg, hlk⟩ := widths_made w width hw
  rw [if_neg (by omega)] at hlk
  obtain ⟨cap, hb, hr⟩ := h.keptNone hg
  have hc := cell_of_one hb
  have hmm := @run_makeMap Try.prog
  go_enter Try.func27, Try.ntmps27
  go_wp2_with (go_at_call 30; refine (none_no _ _ _ _ _ hc).mono ?_; rintro e w' ⟨rfl, rfl⟩)
  go_ret
  exact ⟨rfl, hg⟩

theorem access_align (B g addr : Nat) (width : Int) (l : List UInt8) (f : Value) (w : World) (h : Fr w B g l) (ha : addr < 4294967296) (hw : width = 1 ∨ width = 4) (hno : (addr : Int) % width ≠ 0) :
    Calls Try.prog 27 #[.pointer (some ⟨B, 0, none⟩), .int .u32 addr, .int .i64 width, f] w fun e w' => e = .returned (.int .i64 150) ∧ w.grownBy w' none := by
  obtain rfl : width = 4 := by rcases hw with rfl | rfl <;> omega
  have hq : (((addr : Int) % 4) != 0) = true := by simp; omega
  obtain ⟨w1, w2, e1, e2, hg, hlk⟩ := widths_made w 4 (by decide)
  rw [if_pos hw] at hlk
  obtain ⟨cap, hb, hr⟩ := h.keptNone hg
  have hc := cell_of_one hb
  have hmm := @run_makeMap Try.prog
  clear hno
  go_enter Try.func27, Try.ntmps27
  go_wp2_with (go_at_call 30; refine (none_no _ _ _ _ _ hc).mono ?_; rintro e w' ⟨rfl, rfl⟩)
  go_ret
  exact ⟨rfl, hg⟩

/-- With a width that may be, and that divides the address: 'part' decides. -/
theorem access_go (B g addr n : Nat) (l : List UInt8) (f : Value) (w : World) (h : Fr w B g l) (ha : addr < 4294967296) (hw : n = 1 ∨ n = 4) (hal : addr % n = 0) (R : Ending → World → Prop)
    (hpart : ∀ w2, w.grownBy w2 none → Calls Try.prog 32 #[.pointer (some ⟨B, 0, none⟩), .int .u32 addr, .int .i64 n, f] w2 fun e w' => ∃ k : Int, e = .returned (.int .i64 k) ∧ R e w') :
    Calls Try.prog 27 #[.pointer (some ⟨B, 0, none⟩), .int .u32 addr, .int .i64 n, f] w fun e w' => R e w' := by
  obtain ⟨w1, w2, e1, e2, hg, hlk⟩ := widths_made w n (by rcases hw with rfl | rfl <;> decide)
  rw [if_pos (by omega)] at hlk
  obtain ⟨cap, hb, hr⟩ := h.keptNone hg
  have hc := cell_of_one hb
  have hp := hpart w2 hg
  have hmm := @run_makeMap Try.prog
  have hq : (((addr : Int) % (n : Int)) != 0) = false := by
    have : ((addr % n : Nat) : Int) = 0 := by rw [hal]; rfl
    simpa using this
  have hn : 0 < n := by omega
  have hn' : n ≤ 4 := by omega
  clear hpart hal
  have hp := Lib.hid hp
  have hw := Lib.hid hw
  rename_i hp0 hw0
  clear hp0 hw0
  go_enter Try.func27, Try.ntmps27
  go_wp2_with fail
  refine (none_no _ _ _ _ _ hc).mono ?_; rintro e w' ⟨rfl, rfl⟩
  go_wp2_with fail
  refine hp.out.mono ?_; rintro e w' ⟨k, rfl, hR⟩
  clear hp
  go_wp2
  exact hR
end Go.Proofs.Ytfldcclnfagmpaa
