import Derived.Test.YtpoifobhbmhelaaBrd
import Derived.Test.YtpoifobhbmhelaaReg2
import Derived.RangeFuncCalls
set_option linter.unusedVariables false
set_option linter.unusedSimpArgs false
namespace Go.Proofs.Ytpoifobhbmhelaa
open Go.RowKit
/-- An operation that lays no deferred call. -/
def noDefer : Op → Bool
  | .defer _ => false
  | _ => true
theorem noDefer_sem {ro : Option Nat} {ρ : Operand → Value} {o : Oper} (h : noDefer o.op = true) : o.semAt ro ρ = execOp ρ o :=
  Oper.semAt_eq _ _ _ (fun c hc => by rw [hc] at h; cases h)
section
variable {l n : Nat} {P : Program} {ops : Array Oper} {Q : Exit → Act → World → Prop} {md : Region.Mode}
theorem rowsIn_wide {row : String} {args : Array Value} {w : World} {R : Value → World → Prop} (h : Rows P row args w R) : RowsIn (Fence.wide.inRound l) n P row args w R :=
  fun c cs _ => let ⟨v, w', r, s⟩ := h c cs; ⟨v, w', r, stepsIn_wide.2 s⟩
theorem wide_wpOp (hQ : ¬ LetsOut Q) {i : Nat} (hp : ∀ o, ops[i]? = some o → noDefer o.op = true) {K K' : Act → World → Prop} (hK : ∀ a w, K a w → K' a w) {a : Act} {w : World}
    (h : wpOp P ops Q i K a w) : wpOpIn (Fence.wide.inRound l) n P ops Q i K' a w := by
  unfold wpOp at h
  unfold wpOpIn
  split
  · rename_i ho; simp only [ho] at h; exact hK _ _ h
  · rename_i o ho
    simp only [ho] at h
    have hpo := hp o ho
    have hab : ∀ f, o.about P w a.eval = some f → (Fence.wide.inRound l).fn f := fun f _ => trivial
    split
    · rename_i hw
      simp only [hw, if_true] at h
      rcases h with h | h
      · refine ⟨hab, ?_⟩
        rw [noDefer_sem hpo]
        unfold Oper.wp at h
        generalize (execOp a.eval o).run P w = r at *
        cases r with
        | ok x w' =>
          cases x with
          | value v => exact hK _ _ h
          | skip => exact hK _ _ h
          | defer d => exact hK _ _ h
          | enter f args =>
            refine ⟨(fun e => by cases e), CallsIn.inRound l (callsIn_wide.2 ?_)⟩
            refine Calls.mono (show Calls _ _ _ _ _ from h) fun e w'' he => ?_
            cases e with
            | returned u => exact hK _ _ he
            | panicked c => exact he
            | outgrown => exact he
          | row row args => exact ⟨(fun e => by cases e), rowsIn_wide (Rows.mono h fun v w'' he => hK _ _ he)⟩
          | round l' f t as b => exact (h : False).elim
          | _ => exact (h : False).elim
        | halt x w' => cases x <;> exact h
      · exact (hQ h.2).elim
    · rename_i hw
      simp only [hw] at h
      exact ⟨hab, hK _ _ h⟩
theorem wide_wpAny (hQ : ¬ LetsOut Q) (hp : ∀ (i : Nat) o, ops[i]? = some o → noDefer o.op = true) : ∀ (fuel : Nat) (listed : Array Bool) (a : Act) (w : World),
    wpAny P md ops Q fuel listed a w → wpAnyIn (Fence.wide.inRound l) n P md ops Q fuel listed a w
  | 0, _, _, _, h => h
  | fuel + 1, _, _, _, h => ⟨h.1, fun i hi => wide_wpOp hQ (hp i) (fun a w k => wide_wpAny hQ hp fuel _ a w k) (h.2 i hi)⟩
theorem noDefer_all (h : ops.all (fun o => noDefer o.op) = true) (i : Nat) (o : Oper) (ho : ops[i]? = some o) : noDefer o.op = true := by
  rw [Array.all_eq_true] at h
  obtain ⟨hi, rfl⟩ := Array.getElem?_eq_some_iff.1 ho
  exact h i hi
/-- A region that draws its order, in a round of the wide fence, with calls: walked as if it stood nowhere. -/
theorem reg_open_w (row : Option Nat) {id m : Nat} {a : Act} {w : World} (hQ : ¬ LetsOut Q) (hp : ops.all (fun o => noDefer o.op) = true) (hn : ops.size = m) (hm : P.follows .mixedOrders = true)
    (h : wpAnyH P .any ops Q (fun W => w.drew.grownBy W row) m (Array.replicate m false) a w.drew) : (Code.region id ops true).wpIn (Fence.wide.inRound l) n P Q a w := by
  subst hn
  exact wpIn_region_any hm (wide_wpAny hQ (noDefer_all hp) _ _ _ _ (wpAny_of_held _ _ _ _ h))
theorem regx_open_w (X : Nat → Prop) {id m : Nat} {a : Act} {w : World} (hQ : ¬ LetsOut Q) (hp : ops.all (fun o => noDefer o.op) = true) (hn : ops.size = m) (hm : P.follows .mixedOrders = true)
    (h : wpAnyH P .any ops Q (fun W => Keeps X w.drew W) m (Array.replicate m false) a w.drew) : (Code.region id ops true).wpIn (Fence.wide.inRound l) n P Q a w := by
  subst hn
  exact wpIn_region_any hm (wide_wpAny hQ (noDefer_all hp) _ _ _ _ (wpAny_of_held _ _ _ _ h))
end
end Go.Proofs.Ytpoifobhbmhelaa
