import Derived.Test.YtpoifobhbmhelaaReg
import Derived.OrdersIn
set_option linter.unusedVariables false
set_option linter.unusedSimpArgs false
namespace Go.Proofs.Ytpoifobhbmhelaa
open Go.RowKit
/-- Operations that make no call and change no frame but by their value. -/
def plainOp : Op → Bool
  | .move _ | .assign _ | .pick _ _ _ | .load _ _ | .store _ _ _ | .binOp _ _ _ _ _ | .unOp _ _ _ | .fieldAddr _ _ _ | .indexAddr _ _ _ => true
  | _ => false
def PlainNext : Result Next → Prop
  | .ok (.value _) _ => True
  | .ok .skip _ => True
  | .ok _ _ => False
  | .halt _ _ => True
theorem plain_v {P : Program} {w : World} (s : Sem Value) : PlainNext ((s >>= fun x => pure (Next.value x) : Sem Next).run P w) := by
  rw [Sem.run_bind]
  cases s.run P w <;> trivial
theorem plain_u {P : Program} {w : World} (s : Sem Unit) : PlainNext ((s >>= fun _ => pure Next.skip : Sem Next).run P w) := by
  rw [Sem.run_bind]
  cases s.run P w <;> trivial
theorem plain_next {P : Program} {w : World} {ρ : Operand → Value} {o : Oper} (h : plainOp o.op = true) : PlainNext ((execOp ρ o).run P w) := by
  unfold execOp
  cases ho : o.op <;> rw [ho] at h <;> first | (cases h; done) | skip
  case move => trivial
  case assign => trivial
  case pick c a b =>
    dsimp only
    rw [Sem.run_bind]
    cases (asBool (ρ c)).run P w with
    | ok x w' => cases x <;> trivial
    | halt x w' => trivial
  case load => exact plain_v _
  case store => exact plain_u _
  case binOp => exact plain_v _
  case unOp => exact plain_v _
  case fieldAddr => exact plain_v _
  case indexAddr => exact plain_v _
theorem plain_about {P : Program} {w : World} {ρ : Operand → Value} {o : Oper} (h : plainOp o.op = true) : o.about P w ρ = none := by
  unfold Oper.about
  cases ho : o.op <;> rw [ho] at h <;> first | (cases h; done) | rfl
theorem plain_sem {F : Fence} {ρ : Operand → Value} {o : Oper} (h : plainOp o.op = true) : o.semAt F.round ρ = execOp ρ o :=
  Oper.semAt_eq _ _ _ (fun c hc => by rw [hc] at h; cases h)
section
variable {F : Fence} {n : Nat} {P : Program} {ops : Array Oper} {Q : Exit → Act → World → Prop} {md : Region.Mode}
theorem plain_wpOp (hQ : ¬ LetsOut Q) {i : Nat} (hp : ∀ o, ops[i]? = some o → plainOp o.op = true) {K K' : Act → World → Prop} (hK : ∀ a w, K a w → K' a w) {a : Act} {w : World}
    (h : wpOp P ops Q i K a w) : wpOpIn F n P ops Q i K' a w := by
  unfold wpOp at h
  unfold wpOpIn
  split
  · rename_i ho; simp only [ho] at h; exact hK _ _ h
  · rename_i o ho
    simp only [ho] at h
    have hpo := hp o ho
    have hab : ∀ f, o.about P w a.eval = some f → F.fn f := fun f hf => by rw [plain_about hpo] at hf; cases hf
    split
    · rename_i hw
      simp only [hw, if_true] at h
      rcases h with h | h
      · refine ⟨hab, ?_⟩
        rw [plain_sem hpo]
        unfold Oper.wp at h
        have hn := plain_next (P := P) (w := w) (ρ := a.eval) hpo
        generalize (execOp a.eval o).run P w = r at *
        cases r with
        | ok x w' =>
          cases x <;> first | (exact hn.elim) | exact hK _ _ h
        | halt x w' => cases x <;> exact h
      · exact (hQ h.2).elim
    · rename_i hw
      simp only [hw] at h
      exact ⟨hab, hK _ _ h⟩
theorem plain_wpAny (hQ : ¬ LetsOut Q) (hp : ∀ (i : Nat) o, ops[i]? = some o → plainOp o.op = true) : ∀ (fuel : Nat) (listed : Array Bool) (a : Act) (w : World),
    wpAny P md ops Q fuel listed a w → wpAnyIn F n P md ops Q fuel listed a w
  | 0, _, _, _, h => h
  | fuel + 1, _, _, _, h => ⟨h.1, fun i hi => plain_wpOp hQ (hp i) (fun a w k => plain_wpAny hQ hp fuel _ a w k) (h.2 i hi)⟩
theorem plain_all (h : ops.all (fun o => plainOp o.op) = true) (i : Nat) (o : Oper) (ho : ops[i]? = some o) : plainOp o.op = true := by
  rw [Array.all_eq_true] at h
  obtain ⟨hi, rfl⟩ := Array.getElem?_eq_some_iff.1 ho
  exact h i hi
/-- A region of plain operations that draws its order, inside a fence, in a round too. -/
theorem reg_open_in (row : Option Nat) {id m : Nat} {a : Act} {w : World} (hQ : ¬ LetsOut Q) (hp : ops.all (fun o => plainOp o.op) = true) (hn : ops.size = m) (hm : P.follows .mixedOrders = true)
    (h : wpAnyH P .any ops Q (fun W => w.drew.grownBy W row) m (Array.replicate m false) a w.drew) : (Code.region id ops true).wpIn F n P Q a w := by
  subst hn
  exact wpIn_region_any hm (plain_wpAny hQ (plain_all hp) _ _ _ _ (wpAny_of_held _ _ _ _ h))
/-- The region's end alone: it does not panic. -/
def OnlyNormal (Q : Exit → Act → World → Prop) : Exit → Act → World → Prop
  | .normal, a, w => Q .normal a w
  | _, _, _ => False
theorem OnlyNormal.mk {a : Act} {w : World} (h : Q .normal a w) : OnlyNormal Q .normal a w := h
theorem OnlyNormal.out (e : Exit) (a : Act) (w : World) (h : OnlyNormal Q e a w) : Q e a w := by
  cases e <;> first | exact h | cases h
theorem reg_open_n (row : Option Nat) {id m : Nat} {a : Act} {w : World} (hn : ops.size = m) (hm : P.follows .mixedOrders = true)
    (h : wpAnyH P .any ops (OnlyNormal Q) (fun W => w.drew.grownBy W row) m (Array.replicate m false) a w.drew) : (Code.region id ops true).wp P Q a w :=
  wp_mono (reg_open row hn hm h) OnlyNormal.out
end
end Go.Proofs.Ytpoifobhbmhelaa
