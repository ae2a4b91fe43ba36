import Derived.Test.YtpoifobhbmhelaaMem
import Derived.Deep.RegionHeld3
set_option linter.unusedVariables false
set_option linter.unusedSimpArgs false
namespace Go.Proofs.Ytpoifobhbmhelaa
open Go.RowKit
section
variable {P : Program} {ops : Array Oper} {Q : Exit → Act → World → Prop} {md : Region.Mode} {row : Option Nat}
theorem wpAnyH_stronger {S S' : World → Prop} (h : ∀ w, S' w → S w) : ∀ (fuel : Nat) (listed : Array Bool) (a : Act) (w : World), wpAnyH P md ops Q S' fuel listed a w → wpAnyH P md ops Q S fuel listed a w
  | 0, _, _, _, k => k
  | fuel + 1, _, _, _, k => ⟨k.1, fun i hi => wpOp_mono (fun a' w' k' => ⟨h _ k'.1, wpAnyH_stronger h fuel _ a' w' k'.2⟩) (k.2 i hi)⟩
/-- A region that draws its order, from the world behind the draw on; 'row': the one old block that may be written. -/
theorem reg_open (row : Option Nat) {id n : Nat} {a : Act} {w : World} (hn : ops.size = n) (hm : P.follows .mixedOrders = true)
    (h : wpAnyH P .any ops Q (fun W => w.drew.grownBy W row) n (Array.replicate n false) a w.drew) : (Code.region id ops true).wp P Q a w := by
  subst hn
  exact wp_region_held hm h
/-- Operation i's guard is false. -/
theorem reg_skip (i : Nat) (dst : Option Tmp) {oi : Oper} {fuel : Nat} {listed : Array Bool} {a : Act} {w : World} (hi : ops[i]? = some oi) (hd : oi.dst = dst)
    (hs : Region.noSelect ops = true) (hf : Region.free md ops listed i = true) (hr : (Region.ready md ops listed).contains i = true)
    (hQ : ∀ c a w, Q (.panic c) (a.put oi.dst undef) w → Q (.panic c) a w) (hg : Region.wanted oi (yielded ops a.tmps) = false)
    (h : wpAnyH P md ops Q (fun W => w.grownBy W row) fuel (listed.setIfInBounds i true) (a.put dst undef) w) : wpAnyH P md ops Q (fun W => w.grownBy W row) (fuel + 1) listed a w := by
  subst hd
  exact wpAnyH_take hi hs hf hr hQ (Or.inr ⟨hg, rfl⟩) (World.grownBy.refl _ _) h
/-- Operation i is taken first. -/
theorem reg_take (i : Nat) (dst : Option Tmp) {oi : Oper} {v : Value} {fuel : Nat} {listed : Array Bool} {a : Act} {w : World} (hi : ops[i]? = some oi) (hd : oi.dst = dst)
    (hs : Region.noSelect ops = true) (hf : Region.free md ops listed i = true) (hr : (Region.ready md ops listed).contains i = true)
    (hQ : ∀ c a w, Q (.panic c) (a.put oi.dst v) w → Q (.panic c) a w) (hg : Region.wanted oi (yielded ops a.tmps) = true) (hy : ∀ W, w.grownBy W row → (execOp a.eval oi).run P W = .ok (.value v) W)
    (h : wpAnyH P md ops Q (fun W => w.grownBy W row) fuel (listed.setIfInBounds i true) (a.put dst v) w) : wpAnyH P md ops Q (fun W => w.grownBy W row) (fuel + 1) listed a w := by
  subst hd
  exact wpAnyH_take hi hs hf hr hQ (Or.inl ⟨hg, hy⟩) (World.grownBy.refl _ _) h
theorem reg_next {w0 w : World} {fuel : Nat} {listed : Array Bool} {a : Act} {K : Act → World → Prop} (hK : Shut (∀ a w, w0.grownBy w row → (w0.grownBy w row → wpAnyH P md ops Q (fun W => w0.grownBy W row) fuel listed a w) → K a w)) (hg : w0.grownBy w row)
    (h : wpAnyH P md ops Q (fun W => w.grownBy W row) fuel listed a w) : K a w :=
  hK.out a w hg (fun _ => wpAnyH_stronger (fun _ k => hg.trans k) _ _ _ _ h)
theorem reg_same {w : World} {fuel : Nat} {listed : Array Bool} {a : Act} {K : Act → World → Prop} (hK : Shut (∀ a w', w.grownBy w' row → (w.grownBy w' row → wpAnyH P md ops Q (fun W => w.grownBy W row) fuel listed a w') → K a w'))
    (h : wpAnyH P md ops Q (fun W => w.grownBy W row) fuel listed a w) : K a w :=
  hK.out a w (World.grownBy.refl _ _) (fun _ => h)
end
end Go.Proofs.Ytpoifobhbmhelaa
