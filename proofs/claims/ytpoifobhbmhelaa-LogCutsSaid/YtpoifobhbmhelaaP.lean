/- Logs that are the same: log.Same, ref.Same. -/
import Derived.Test.YtpoifobhbmhelaaO
import Derived.ChangeKeysEq
set_option linter.unusedVariables false
set_option linter.unusedSimpArgs false
namespace Go.Proofs.Ytpoifobhbmhelaa
open Go.RowKit
theorem eqForm (a b c d : Int) (k : Nat) (w : World) : (Op.equalIn (k + 1 + 1) 28 (.agg #[.int .i64 a, .int .i64 b]) (.agg #[.int .i64 c, .int .i64 d])).run Try.prog w = .ok (decide (a = c ∧ b = d)) w := by
  rw [run_equalIn_struct w (k + 1) 28 _ _ (by (simp only [Program.fieldsOf, Try.underlying28])) (by kernel_rfl)]
  simp only [Program.fieldsOf, Try.underlying28]
  go_simp
  by_cases h1 : a = c <;> by_cases h2 : b = d <;> simp [h1, h2]
theorem eqGuard_none {op : BinOp} {t : TypeId} {x y : Operand} {xs ys : Array Value} (h : Try.prog.eqGuardType Try.prog.depth t = false) (w : World) : (eqGuard op t x y (.agg xs) (.agg ys)).run Try.prog w = .ok () w := by
  unfold eqGuard
  cases op <;> simp [h, go_sem]
theorem Try.guard28 : Try.prog.eqGuardType Try.prog.depth 28 = false := by kernel_rfl
theorem bin_eql28 (x y : Operand) (a b c d : Int) (w : World) : (eqGuard .eql 28 x y (.agg #[.int .i64 a, .int .i64 b]) (.agg #[.int .i64 c, .int .i64 d])).run Try.prog w = .ok () w := eqGuard_none Try.guard28 w
theorem op_eq28 (a b c d : Int) (w : World) : (Op.equal 28 (.agg #[.int .i64 a, .int .i64 b]) (.agg #[.int .i64 c, .int .i64 d])).run Try.prog w = .ok (decide (a = c ∧ b = d)) w := eqForm a b c d 9998 w
theorem bin28 (a b c d : Int) (w : World) : (binOp .eql 28 (.agg #[.int .i64 a, .int .i64 b]) (.agg #[.int .i64 c, .int .i64 d])).run Try.prog w = .ok (.bool (decide (a = c ∧ b = d))) w := by
  simp only [binOp, Sem.run_bind, op_eq28, Result.andThen_ok]
  rfl
theorem bin28n (a b c d : Int) (w : World) : (binOp .neq 28 (.agg #[.int .i64 a, .int .i64 b]) (.agg #[.int .i64 c, .int .i64 d])).run Try.prog w = .ok (.bool (!decide (a = c ∧ b = d))) w := by
  simp only [binOp, Sem.run_bind, op_eq28, Result.andThen_ok]
  rfl
theorem eqf_yes (a1 a2 : Option Addr) (c1 c2 : Nat) (ts us : List Rv) (w : World) (h1 : RL w a1 ts) (h2 : RL w a2 us) (hl : ts.length ≤ 1000000) (h : rsOf ts = rsOf us) : Calls Try.prog 43 #[.slice a1 ts.length c1, .slice a2 us.length c2, .func (.func 41) #[] #[]] w fun e w' => e = .returned (.bool true) ∧ w.grownBy w' none :=
  (eqf_any a1 a2 c1 c2 ts us w h1 h2 hl).mono (fun e w' k => ⟨by rw [k.1, decide_eq_true h], k.2⟩)
theorem eqf_no (a1 a2 : Option Addr) (c1 c2 : Nat) (ts us : List Rv) (w : World) (h1 : RL w a1 ts) (h2 : RL w a2 us) (hl : ts.length ≤ 1000000) (h : ¬ rsOf ts = rsOf us) : Calls Try.prog 43 #[.slice a1 ts.length c1, .slice a2 us.length c2, .func (.func 41) #[] #[]] w fun e w' => e = .returned (.bool false) ∧ w.grownBy w' none :=
  (eqf_any a1 a2 c1 c2 ts us w h1 h2 hl).mono (fun e w' k => ⟨by rw [k.1, decide_eq_false h], k.2⟩)
/-- Are two logs the same? -/
abbrev LgEq (f1 s1 m1 : Int) (ts : List Rv) (w1 : Bool) (e1 : Int) (f2 s2 m2 : Int) (us : List Rv) (w2 : Bool) (e2 : Int) : Prop := (⟨f1, s1, m1, rsOf ts, w1, e1⟩ : Lg) = ⟨f2, s2, m2, rsOf us, w2, e2⟩
theorem lgEq_iff {f1 s1 m1 : Int} {ts : List Rv} {w1 : Bool} {e1 : Int} {f2 s2 m2 : Int} {us : List Rv} {w2 : Bool} {e2 : Int} : LgEq f1 s1 m1 ts w1 e1 f2 s2 m2 us w2 e2 ↔ (f1 = f2 ∧ s1 = s2) ∧ m1 = m2 ∧ w1 = w2 ∧ e1 = e2 ∧ rsOf ts = rsOf us := by
  simp only [LgEq, Lg.mk.injEq]
  constructor
  · rintro ⟨a, b, c, d, e, f⟩; exact ⟨⟨a, b⟩, c, e, f, d⟩
  · rintro ⟨⟨a, b⟩, c, e, f, d⟩; exact ⟨a, b, c, d, e, f⟩
set_option maxHeartbeats 8000000 in
set_option maxRecDepth 100000 in
theorem same_any (f1 s1 m1 : Int) (a1 : Option Addr) (c1 : Nat) (ts : List Rv) (w1 : Bool) (e1 : Int) (f2 s2 m2 : Int) (a2 : Option Addr) (c2 : Nat) (us : List Rv) (w2 : Bool) (e2 : Int) (w : World) (h1 : RL w a1 ts) (h2 : RL w a2 us) (hl : ts.length ≤ 1000000) : Calls Try.prog 24 #[lgV f1 s1 m1 a1 ts.length c1 w1 e1, lgV f2 s2 m2 a2 us.length c2 w2 e2] w fun e w' => e = .returned (.bool (decide (LgEq f1 s1 m1 ts w1 e1 f2 s2 m2 us w2 e2))) ∧ w.grownBy w' none := by
  have HG := Lib.hid ((World.grownBy_alloc w (.cells #[.int .i64 f1, .int .i64 s1, .int .i64 m1, .slice a1 ts.length c1, .bool w1, .int .i64 e1] 31) none).trans (World.grownBy_alloc _ (.cells #[.int .i64 f2, .int .i64 s2, .int .i64 m2, .slice a2 us.length c2, .bool w2, .int .i64 e2] 31) none))
  have H1 := Lib.hid (h1.kept HG.out)
  have H2 := Lib.hid (h2.kept HG.out)
  have HL := Lib.hid hl
  clear h1 h2 hl
  by_cases g1 : f1 = f2
  · have b1 : (f1 == f2) = true := by simpa using g1
    by_cases g6 : s1 = s2
    · have b6 : (s1 == s2) = true := by simpa using g6
      by_cases g2 : m1 = m2
      · have b2 : (m1 == m2) = true := by simpa using g2
        by_cases g3 : w1 = w2
        · have b3 : (w1 == w2) = true := by simpa using g3
          by_cases g4 : e1 = e2
          · have b4 : (e1 == e2) = true := by simpa using g4
            by_cases g5 : rsOf ts = rsOf us
            · have HR := Lib.hid (show LgEq f1 s1 m1 ts w1 e1 f2 s2 m2 us w2 e2 from lgEq_iff.2 ⟨⟨g1, g6⟩, g2, g3, g4, g5⟩)
              rw [decide_eq_true HR.out]
              have HC := Lib.hid (eqf_yes a1 a2 c1 c2 ts us _ H1.out H2.out HL.out g5)
              clear g1 g6 g2 g3 g4 g5
              go_enter Try.func24, Try.ntmps24
              go_wp2_with fail
              refine HC.out.mono ?_; rintro e w3 ⟨rfl, hw3⟩
              have HW3 := Lib.hid hw3
              clear hw3
              go_wp2
              go_ret
              exact ⟨rfl, HG.out.trans HW3.out⟩
            · have HR := Lib.hid (show ¬ LgEq f1 s1 m1 ts w1 e1 f2 s2 m2 us w2 e2 from fun h => g5 (lgEq_iff.1 h).2.2.2.2)
              rw [decide_eq_false HR.out]
              have HC := Lib.hid (eqf_no a1 a2 c1 c2 ts us _ H1.out H2.out HL.out g5)
              clear g1 g6 g2 g3 g4 g5
              go_enter Try.func24, Try.ntmps24
              go_wp2_with fail
              refine HC.out.mono ?_; rintro e w3 ⟨rfl, hw3⟩
              have HW3 := Lib.hid hw3
              clear hw3
              go_wp2
              go_ret
              exact ⟨rfl, HG.out.trans HW3.out⟩
          · have b4 : (e1 == e2) = false := by simpa using g4
            have HR := Lib.hid (show ¬ LgEq f1 s1 m1 ts w1 e1 f2 s2 m2 us w2 e2 from fun h => g4 (lgEq_iff.1 h).2.2.2.1)
            rw [decide_eq_false HR.out]
            clear g1 g6 g2 g3 g4
            go_enter Try.func24, Try.ntmps24
            go_wp2
            go_ret
            exact ⟨rfl, HG.out⟩
        · have b3 : (w1 == w2) = false := by simpa using g3
          have HR := Lib.hid (show ¬ LgEq f1 s1 m1 ts w1 e1 f2 s2 m2 us w2 e2 from fun h => g3 (lgEq_iff.1 h).2.2.1)
          rw [decide_eq_false HR.out]
          clear g1 g6 g2 g3
          go_enter Try.func24, Try.ntmps24
          go_wp2
          go_ret
          exact ⟨rfl, HG.out⟩
      · have b2 : (m1 == m2) = false := by simpa using g2
        have HR := Lib.hid (show ¬ LgEq f1 s1 m1 ts w1 e1 f2 s2 m2 us w2 e2 from fun h => g2 (lgEq_iff.1 h).2.1)
        rw [decide_eq_false HR.out]
        clear g1 g6 g2
        go_enter Try.func24, Try.ntmps24
        go_wp2
        go_ret
        exact ⟨rfl, HG.out⟩
    · have b6 : (s1 == s2) = false := by simpa using g6
      have HR := Lib.hid (show ¬ LgEq f1 s1 m1 ts w1 e1 f2 s2 m2 us w2 e2 from fun h => g6 (lgEq_iff.1 h).1.2)
      rw [decide_eq_false HR.out]
      clear g1 g6
      go_enter Try.func24, Try.ntmps24
      go_wp2
      go_ret
      exact ⟨rfl, HG.out⟩
  · have b1 : (f1 == f2) = false := by simpa using g1
    have HR := Lib.hid (show ¬ LgEq f1 s1 m1 ts w1 e1 f2 s2 m2 us w2 e2 from fun h => g1 (lgEq_iff.1 h).1.1)
    rw [decide_eq_false HR.out]
    clear g1
    go_enter Try.func24, Try.ntmps24
    go_wp2
    go_ret
    exact ⟨rfl, HG.out⟩
end Go.Proofs.Ytpoifobhbmhelaa
