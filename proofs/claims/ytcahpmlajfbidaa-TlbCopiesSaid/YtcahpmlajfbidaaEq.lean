import Derived.Test.YtcahpmlajfbidaaE
import Derived.Laws.StructEq
import Derived.ChangeKeysEq
namespace Go.Proofs.Ytcahpmlajfbidaa
open Go.RowKit
theorem eq27 (e f : Ent) (d : Nat) (w : World) : (Op.equalIn (d + 1 + 1) 27 e.val f.val).run Try.prog w = .ok (decide (e = f)) w := by
  rw [Ent.val, Ent.val, run_equalIn_struct w (d + 1) 27 _ _ (by (simp only [Program.fieldsOf, Try.underlying27])) (by kernel_rfl)]
  simp only [Program.fieldsOf, Try.underlying27]
  go_simp
  obtain ⟨a, b, c, d⟩ := e
  obtain ⟨a', b', c', d'⟩ := f
  simp only [Ent.mk.injEq]
  by_cases h1 : a = a' <;> by_cases h2 : b = b' <;> by_cases h3 : c = c' <;> by_cases h4 : d = d' <;> simp [h1, h2, h3, h4]
theorem eqGuard_none {op : BinOp} {t : TypeId} {x y : Operand} {xs ys : Array Value} (h : Try.prog.eqGuardType Try.prog.depth t = false) (w : World) : (eqGuard op t x y (.agg xs) (.agg ys)).run Try.prog w = .ok () w := by
  unfold eqGuard
  cases op <;> simp [h, go_sem]
theorem exec_neq {op : Oper} {ρ : Operand → Value} {x y : Operand} {t ty : TypeId} {xs ys : Array Value} {b : Bool} (ho : op.op = .binOp .neq ty x y t) (hx : ρ x = .agg xs) (hy : ρ y = .agg ys) (hg : Try.prog.eqGuardType Try.prog.depth ty = false)
    {w : World} (h : (Op.equalIn 10000 ty (.agg xs) (.agg ys)).run Try.prog w = .ok b w) : (execOp ρ op).run Try.prog w = .ok (.value (.bool (!b))) w := by
  simp only [execOp, ho, hx, hy, binOp, Op.equal, Op.maxDepth, Sem.run_bind, eqGuard_none hg, Result.andThen_ok, h]
  rfl
theorem exec_eql {op : Oper} {ρ : Operand → Value} {x y : Operand} {t ty : TypeId} {xs ys : Array Value} {b : Bool} (ho : op.op = .binOp .eql ty x y t) (hx : ρ x = .agg xs) (hy : ρ y = .agg ys) (hg : Try.prog.eqGuardType Try.prog.depth ty = false)
    {w : World} (h : (Op.equalIn 10000 ty (.agg xs) (.agg ys)).run Try.prog w = .ok b w) : (execOp ρ op).run Try.prog w = .ok (.value (.bool b)) w := by
  simp only [execOp, ho, hx, hy, binOp, Op.equal, Op.maxDepth, Sem.run_bind, eqGuard_none hg, Result.andThen_ok, h]
  rfl
theorem Try.guard27 : Try.prog.eqGuardType Try.prog.depth 27 = false := by kernel_rfl
theorem Try.guard28 : Try.prog.eqGuardType Try.prog.depth 28 = false := by kernel_rfl
theorem Try.guard30 : Try.prog.eqGuardType Try.prog.depth 30 = false := by kernel_rfl
theorem Try.guard62 : Try.prog.eqGuardType Try.prog.depth 62 = false := by kernel_rfl
theorem part27 (xs : Array Value) (o : Nat) (w : World) : (part 27 xs o).run Try.prog w = .ok (.agg (xs.extract o (o + 4))) w := by
  simp only [part, Sem.run_bind]
  go_simp
theorem part28 (xs : Array Value) (o : Nat) (w : World) : (part 28 xs o).run Try.prog w = .ok (.agg (xs.extract o (o + 16))) w := by
  simp only [part, Sem.run_bind]
  go_simp
theorem eqItem_cons {d : Nat} {T U : Array Value} {j : Nat} {js : List Nat} {w : World} {e f : Ent} (hT : T.extract (j * 4) (j * 4 + 4) = #[.bool e.th, .int .u32 e.page, .int .u32 e.frame, .bool e.wr]) (hU : U.extract (j * 4) (j * 4 + 4) = #[.bool f.th, .int .u32 f.page, .int .u32 f.frame, .bool f.wr])
    {b : Bool} (h : (Op.eqItems (d + 1 + 1) 27 4 T U js).run Try.prog w = .ok b w) : (Op.eqItems (d + 1 + 1) 27 4 T U (j :: js)).run Try.prog w = .ok (decide (e = f) && b) w := by
  have ha := eq27 e f d w
  simp only [Ent.val] at ha
  simp only [Op.eqItems, Sem.run_bind, part27, Result.andThen_ok, hT, hU, ha]
  by_cases he : e = f <;> simp [he, h]
theorem eq28 (T U : Tl) (d : Nat) (w : World) : (Op.equalIn (d + 1 + 1 + 1) 28 (.agg T.cells16) (.agg U.cells16)).run Try.prog w = .ok (decide (T.a = U.a ∧ T.b = U.b ∧ T.c = U.c ∧ T.d = U.d)) w := by
  obtain ⟨i, hi⟩ : ∃ i, Try.prog.info? 27 = some i := by
    have := Try.size27
    cases h : Try.prog.info? 27 with
    | none => rw [h] at this; cases this
    | some i => exact ⟨i, rfl⟩
  have h4 : Try.prog.cellsOf 27 = 4 := by kernel_rfl
  rw [run_equalIn_array w (d + 1 + 1) _ _ Try.underlying28 hi, h4]
  rw [show List.range 4 = [0, 1, 2, 3] from rfl, eqItem_cons (e := T.a) (f := U.a) rfl rfl (eqItem_cons (e := T.b) (f := U.b) rfl rfl (eqItem_cons (e := T.c) (f := U.c) rfl rfl (eqItem_cons (e := T.d) (f := U.d) rfl rfl (b := true) (by simp [Op.eqItems]))))]
  simp
theorem eq62of (ty : TypeId) (T U : Tl) (d : Nat) (w : World) (hu : ty = 30 ∨ ty = 62) : (Op.equalIn (d + 1 + 1 + 1 + 1) ty (.agg T.cells) (.agg U.cells)).run Try.prog w = .ok (decide (T = U)) w := by
  have h0 := eq28 T U d w
  have hx : (T.cells).extract 0 (0 + 16) = T.cells16 := by simp
  have hy : (U.cells).extract 0 (0 + 16) = U.cells16 := by simp
  have hf : decide (T = U) = (decide (T.a = U.a ∧ T.b = U.b ∧ T.c = U.c ∧ T.d = U.d) && decide (T.next = U.next)) := by
    obtain ⟨a, b, c, d, n⟩ := T
    obtain ⟨a', b', c', d', n'⟩ := U
    simp only [Tl.mk.injEq]
    by_cases h1 : a = a' <;> by_cases h2 : b = b' <;> by_cases h3 : c = c' <;> by_cases h4 : d = d' <;> simp [h1, h2, h3, h4]
  rcases hu with rfl | rfl
  · rw [run_equalIn_struct w (d + 1 + 1 + 1) 30 _ _ (by (simp only [Program.fieldsOf, Try.underlying30])) (by kernel_rfl)]
    simp only [Program.fieldsOf, Try.underlying30]
    rw [hf]
    simp only [Op.eqFields]
    rw [if_pos (by decide), if_pos (by decide)]
    simp only [Sem.run_bind, part28, hx, hy, Result.andThen_ok, h0]
    by_cases h : T.a = U.a ∧ T.b = U.b ∧ T.c = U.c ∧ T.d = U.d
    · rw [decide_eq_true h]
      go_simp
      by_cases hn : T.next = U.next <;> simp [hn]
    · rw [decide_eq_false h]
      simp
  · rw [run_equalIn_struct w (d + 1 + 1 + 1) 62 _ _ (by (simp only [Program.fieldsOf, Try.underlying62])) (by kernel_rfl)]
    simp only [Program.fieldsOf, Try.underlying62]
    rw [hf]
    simp only [Op.eqFields]
    rw [if_pos (by decide), if_pos (by decide)]
    simp only [Sem.run_bind, part28, hx, hy, Result.andThen_ok, h0]
    by_cases h : T.a = U.a ∧ T.b = U.b ∧ T.c = U.c ∧ T.d = U.d
    · rw [decide_eq_true h]
      go_simp
      by_cases hn : T.next = U.next <;> simp [hn]
    · rw [decide_eq_false h]
      simp
end Go.Proofs.Ytcahpmlajfbidaa
