import Derived.Test.YtmdgehpmeikgfaaG
namespace Go.Proofs.Ytmdgehpmeikgfaa
open Go.RowKit
/-- The row is new. -/
def New (w : World) (v : Value) : Prop := ∀ g, rowOf v = some g → w.heap.size ≤ g
theorem slice_nil (a : Addr) (n c : Nat) (w : World) : (binOp .eql 27 (.slice (some a) n c) (.slice none 0 0)).run Try.prog w = .ok (.bool false) w := by
  have h : (Op.equalIn (9999 + 1) 27 (.slice (some a) n c) (.slice none 0 0)).run Try.prog w = .ok false w := by
    rw [Op.equalIn]
    simp only [Sem.run_bind, run_underlying Try.underlying27, Result.andThen_ok, Sem.run_pure]
  simp only [binOp, Op.equal, Op.maxDepth, Sem.run_bind, h]
  rfl
theorem nil_nil (w : World) : (binOp .eql 27 (.slice none 0 0) (.slice none 0 0)).run Try.prog w = .ok (.bool true) w := by
  have h : (Op.equalIn (9999 + 1) 27 (.slice none 0 0) (.slice none 0 0)).run Try.prog w = .ok true w := by
    rw [Op.equalIn]
    simp only [Sem.run_bind, run_underlying Try.underlying27, Result.andThen_ok, Sem.run_pure]
    rfl
  simp only [binOp, Op.equal, Op.maxDepth, Sem.run_bind, h]
  rfl
attribute [local go_sem] slice_nil nil_nil
theorem clone_nil (w : World) : Calls Try.prog 44 #[.slice none 0 0] w fun e w' => e = .returned (.slice none 0 0) ∧ w = w' := by
  go_enter Try.func44, Try.ntmps44
  go_wp2
  go_ret
  exact ⟨rfl, rfl⟩
theorem clone_sl (v : Value) (l : List UInt8) (w : World) (hQ : Sl w v l) (hl : l.length ≤ 1000000) : Calls Try.prog 44 #[v] w fun e w' => ∃ v', e = .returned v' ∧ Sl w' v' l ∧ w.grownBy w' none ∧ New w v' := by
  rcases id hQ with ⟨rfl, rfl⟩ | ⟨g, o, cap, cur, rfl, h1, h2, h3, h4, h5⟩
  · refine (clone_nil w).mono ?_
    rintro e w' ⟨rfl, rfl⟩
    exact ⟨_, rfl, hQ, World.grownBy.refl _ _, fun g hg => by cases hg⟩
  · have hG := World.grownBy_alloc w (.cells #[] 5) none
    have hv0 : Sl (w.alloc (.cells #[] 5)) (.slice (some ⟨w.heap.size, 0, none⟩) 0 0) [] := .inr ⟨w.heap.size, 0, 0, [], rfl, Nat.le_refl _, by simp [maxLen], heap_alloc_new w _, by simp, by simp [bsV]⟩
    have hs := (hQ.keptNone hG).src
    have HG := Lib.hid hG
    clear hQ h3 h5 hG
    go_enter Try.func44, Try.ntmps44
    go_wp2_with (at_builtin; refine wpList_sl rfl _ _ rfl _ _ [] l rfl rfl hv0 hs (by simpa using hl) ?_)
    intro v2 w2 hQ2 hg2 hr2
    have HQ2 := Lib.hid (show Sl w2 v2 l from hQ2)
    have HG2 := Lib.hid (grown_new HG.out hg2 (Nat.le_refl _))
    have HR := Lib.hid hr2
    clear hQ2 hg2 hr2 hv0 hs
    go_wp2
    go_ret
    refine ⟨v2, rfl, HQ2.out, HG2.out, fun k hk => ?_⟩
    rcases HR.out with e | e
    · rw [e] at hk; cases hk; exact Nat.le_refl _
    · rw [e] at hk; cases hk; simp
theorem queue_lk (B : Nat) (c : Lc) (l : List UInt8) (w : World) (hL : Lk w B c) (hQ : Sl w c.qv l) (hl : l.length ≤ 1000000) : Calls Try.prog 27 #[.pointer (some ⟨B, 0, none⟩)] w fun e w' => ∃ v', e = .returned v' ∧ Sl w' v' l ∧ w.grownBy w' none ∧ New w v' := by
  have HQ := Lib.hid hQ
  have HL := Lib.hid hL
  obtain ⟨qa, qcap, hq, hqc⟩ := hQ.shape
  have c6 : w.cell? ⟨B, 6, none⟩ = some (.slice qa l.length qcap) := (hL.cell 6).trans (congrArg some hq)
  clear hQ hL
  go_enter Try.func27, Try.ntmps27
  go_wp2_with fail
  refine (none_lk B c _ HL.out).mono ?_; rintro e w' ⟨rfl, rfl⟩
  go_wp2_with fail
  refine (clone_sl _ l w (hq ▸ HQ.out) hl).mono ?_; rintro e w' ⟨v', rfl, h1, h2, h3⟩
  go_wp2
  go_ret
  exact ⟨v', rfl, h1, h2, h3⟩
theorem told_lk (B : Nat) (c : Lc) (l : List UInt8) (w : World) (hL : Lk w B c) (hQ : Sl w c.ov l) (hl : l.length ≤ 1000000) : Calls Try.prog 38 #[.pointer (some ⟨B, 0, none⟩)] w fun e w' => ∃ v', e = .returned v' ∧ Sl w' v' l ∧ w.grownBy w' none ∧ New w v' := by
  have HQ := Lib.hid hQ
  have HL := Lib.hid hL
  obtain ⟨qa, qcap, hq, hqc⟩ := hQ.shape
  have c6 : w.cell? ⟨B, 8, none⟩ = some (.slice qa l.length qcap) := (hL.cell 8).trans (congrArg some hq)
  clear hQ hL
  go_enter Try.func38, Try.ntmps38
  go_wp2_with fail
  refine (none_lk B c _ HL.out).mono ?_; rintro e w' ⟨rfl, rfl⟩
  go_wp2_with fail
  refine (clone_sl _ l w (hq ▸ HQ.out) hl).mono ?_; rintro e w' ⟨v', rfl, h1, h2, h3⟩
  go_wp2
  go_ret
  exact ⟨v', rfl, h1, h2, h3⟩
theorem waits_lk (B : Nat) (c : Lc) (l : List UInt8) (w : World) (hL : Lk w B c) (hQ : Sl w c.qv l) (hl : l.length ≤ 1000000) : Calls Try.prog 28 #[.pointer (some ⟨B, 0, none⟩)] w fun e w' => e = .returned (.int .i64 (l.length : Nat)) ∧ w.grownBy w' none := by
  have HQ := Lib.hid hQ
  have HL := Lib.hid hL
  clear hQ hL
  go_enter Try.func28, Try.ntmps28
  go_wp2_with fail
  refine (queue_lk B c l w HL.out HQ.out hl).mono ?_; rintro e w' ⟨v', rfl, h1, h2, h3⟩
  obtain ⟨a, cap, rfl, _⟩ := h1.shape
  have HG := Lib.hid h2
  clear h1 h2 h3
  go_wp2
  go_ret
  exact ⟨rfl, HG.out⟩
end Go.Proofs.Ytmdgehpmeikgfaa
