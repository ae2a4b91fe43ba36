import Derived.Test.YtpoifobhbmhelaaReg
set_option linter.unusedVariables false
set_option linter.unusedSimpArgs false
namespace Go.Proofs.Ytpoifobhbmhelaa
open Go.RowKit
/-- Nothing that lay has turned, but the blocks of X. -/
structure Keeps (X : Nat → Prop) (a b : World) : Prop where
  os : b.os = a.os
  tape : b.tape = a.tape
  output : b.output = a.output
  size : a.heap.size ≤ b.heap.size
  block : ∀ k, k < a.heap.size → ¬ X k → b.heap[k]? = a.heap[k]?
theorem Keeps.refl (X : Nat → Prop) (a : World) : Keeps X a a := ⟨rfl, rfl, rfl, Nat.le_refl _, fun _ _ _ => rfl⟩
theorem Keeps.trans {X : Nat → Prop} {a b c : World} (h : Keeps X a b) (k : Keeps X b c) : Keeps X a c :=
  ⟨k.os.trans h.os, k.tape.trans h.tape, k.output.trans h.output, Nat.le_trans h.size k.size, fun i hi hx => (k.block i (Nat.lt_of_lt_of_le hi h.size) hx).trans (h.block i hi hx)⟩
theorem Keeps.of {X : Nat → Prop} {a b : World} {row : Option Nat} (h : a.grownBy b row) (hx : ∀ r, row = some r → X r) : Keeps X a b :=
  ⟨h.os, h.tape, h.output, h.size, fun k hk hn => h.block k hk (fun e => hn (hx k e.symm))⟩
section
variable {P : Program} {ops : Array Oper} {Q : Exit → Act → World → Prop} {md : Region.Mode} {X : Nat → Prop}
theorem regx_open (X : Nat → Prop) {id n : Nat} {a : Act} {w : World} (hn : ops.size = n) (hm : P.follows .mixedOrders = true)
    (h : wpAnyH P .any ops Q (fun W => Keeps X w.drew W) n (Array.replicate n false) a w.drew) : (Code.region id ops true).wp P Q a w := by
  subst hn
  exact wp_region_held hm h
theorem regx_take (i : Nat) (dst : Option Tmp) {oi : Oper} {v : Value} {fuel : Nat} {listed : Array Bool} {a : Act} {w : World} (hi : ops[i]? = some oi) (hd : oi.dst = dst)
    (hs : Region.noSelect ops = true) (hf : Region.free md ops listed i = true) (hr : (Region.ready md ops listed).contains i = true)
    (hQ : ∀ c a w, Q (.panic c) (a.put oi.dst v) w → Q (.panic c) a w) (hg : Region.wanted oi (yielded ops a.tmps) = true) (hy : ∀ W, Keeps X w W → (execOp a.eval oi).run P W = .ok (.value v) W)
    (h : wpAnyH P md ops Q (fun W => Keeps X w W) fuel (listed.setIfInBounds i true) (a.put dst v) w) : wpAnyH P md ops Q (fun W => Keeps X w W) (fuel + 1) listed a w := by
  subst hd
  exact wpAnyH_take hi hs hf hr hQ (Or.inl ⟨hg, hy⟩) (Keeps.refl _ _) h
theorem regx_skip (i : Nat) (dst : Option Tmp) {oi : Oper} {fuel : Nat} {listed : Array Bool} {a : Act} {w : World} (hi : ops[i]? = some oi) (hd : oi.dst = dst)
    (hs : Region.noSelect ops = true) (hf : Region.free md ops listed i = true) (hr : (Region.ready md ops listed).contains i = true)
    (hQ : ∀ c a w, Q (.panic c) (a.put oi.dst undef) w → Q (.panic c) a w) (hg : Region.wanted oi (yielded ops a.tmps) = false)
    (h : wpAnyH P md ops Q (fun W => Keeps X w W) fuel (listed.setIfInBounds i true) (a.put dst undef) w) : wpAnyH P md ops Q (fun W => Keeps X w W) (fuel + 1) listed a w := by
  subst hd
  exact wpAnyH_take hi hs hf hr hQ (Or.inr ⟨hg, rfl⟩) (Keeps.refl _ _) h
theorem regx_next {w0 w : World} {fuel : Nat} {listed : Array Bool} {a : Act} {K : Act → World → Prop} (hK : Shut (∀ a w, Keeps X w0 w → (Keeps X w0 w → wpAnyH P md ops Q (fun W => Keeps X w0 W) fuel listed a w) → K a w)) (hg : Keeps X w0 w)
    (h : wpAnyH P md ops Q (fun W => Keeps X w W) fuel listed a w) : K a w :=
  hK.out a w hg (fun _ => wpAnyH_stronger (fun _ k => hg.trans k) _ _ _ _ h)
theorem regx_same {w : World} {fuel : Nat} {listed : Array Bool} {a : Act} {K : Act → World → Prop} (hK : Shut (∀ a w', Keeps X w w' → (Keeps X w w' → wpAnyH P md ops Q (fun W => Keeps X w W) fuel listed a w') → K a w'))
    (h : wpAnyH P md ops Q (fun W => Keeps X w W) fuel listed a w) : K a w :=
  hK.out a w (Keeps.refl _ _) (fun _ => h)
end
end Go.Proofs.Ytpoifobhbmhelaa
