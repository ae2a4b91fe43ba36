import Derived.Test.YtmdgehpmeikgfaaAA
set_option linter.unusedVariables false
namespace Go.Proofs.Ytmdgehpmeikgfaa
open Go.RowKit
/-- Lines, the document's beside them, and the block A where the document's lie. -/
structure LI (w0 w : World) (B A N : Nat) (c : Lc) (r : Rf) (g : Gh) : Prop where
  ls : LS w B c g
  rs : RS w r g
  wg : WG g
  sep : ∀ k, own c B k → ¬ rrow r k
  blk : w.heap[A]? = some (.cells r.cells 29 (0, 0))
  own : ∀ k, own c B k → w0.heap.size ≤ k
  row : ∀ k, rrow r k → w0.heap.size ≤ k
  new : w0.heap.size ≤ A
  grown : w0.grownBy w none
  pl : g.pushed.length ≤ N
  tl : g.told.length ≤ N
theorem LI.nown {w0 w : World} {B A N : Nat} {c : Lc} {r : Rf} {g : Gh} (h : LI w0 w B A N c r g) : ¬ Go.Proofs.Ytmdgehpmeikgfaa.own c B A := h.ls.nown h.blk
theorem LI.nrow {w0 w : World} {B A N : Nat} {c : Lc} {r : Rf} {g : Gh} (h : LI w0 w B A N c r g) : ¬ rrow r A := h.rs.nrow h.blk
theorem LI.keptNone {w0 w w' : World} {B A N : Nat} {c : Lc} {r : Rf} {g : Gh} (h : LI w0 w B A N c r g) (hg : w.grownBy w' none) : LI w0 w' B A N c r g :=
  ⟨h.ls.keptNone hg, h.rs.keptNone hg, h.wg, h.sep, (hg.block _ (lt_of_block h.blk) (by simp)).trans h.blk, h.own, h.row, h.new, h.grown.trans hg, h.pl, h.tl⟩
/-- A call, then a store of what the document says into A. -/
theorem LI.act {w0 w w1 w' : World} {B A N N' : Nat} {c c' : Lc} {r r' : Rf} {g g' : Gh} (h : LI w0 w B A N c r g) (p : Post w w1 B c c' r r' g') (hg : w1.grownBy w' (some A)) (hb : w'.heap[A]? = some (.cells r'.cells 29 (0, 0))) (hwg : WG g') (hp : g'.pushed.length ≤ N') (ht : g'.told.length ≤ N') : LI w0 w' B A N' c' r' g' := by
  have hA := lt_of_block h.blk
  have hno : ∀ k, Go.Proofs.Ytmdgehpmeikgfaa.own c' B k → k ≠ A := fun k hk e => by
    subst e
    exact (p.newl k hk).elim h.nown (fun h2 => by omega)
  have hnr : ∀ k, rrow r' k → k ≠ A := fun k hk e => by
    subst e
    exact (p.newr k hk).elim h.nrow (fun h2 => by omega)
  have hk : Keeps (fun k => k = A) w1 w' := Keeps.row hg rfl
  have hsz := h.grown.size
  exact ⟨p.ls.keeps hk hno, p.rs.keeps hk hnr, hwg, p.sep, hb, fun k hk => (p.newl k hk).elim (h.own k) (fun h2 => by omega), fun k hk => (p.newr k hk).elim (h.row k) (fun h2 => by omega), h.new,
    (((Keeps.keep (X := fun k => w0.heap.size ≤ k) h.grown).trans (p.keep.mono (fun i _ hi => h.own i hi))).trans (hk.mono (fun i _ e => by subst e; exact h.new))).toGrown (fun i hi hx => by omega), hp, ht⟩
/-- A list of lists of bytes that can be read. -/
def SrcLL (w : World) (a : Option Addr) (n : Nat) (aa : Nat → Option Addr) (cc : Nat → Nat) (ll : Nat → List UInt8) : Prop :=
  n = 0 ∨ ∃ b o, a = some ⟨b, o, none⟩ ∧ ∀ j, j < n → w.cell? ⟨b, o + j, none⟩ = some (.slice (aa j) (ll j).length (cc j)) ∧ Go.Proofs.Ytmdgehpmeikgfaa.Src w (aa j) (ll j)
/-- A list of numbers that can be read. -/
def SrcI (w : World) (a : Option Addr) (n : Nat) (tk : Nat → Int) : Prop :=
  n = 0 ∨ ∃ b o, a = some ⟨b, o, none⟩ ∧ ∀ j, j < n → w.cell? ⟨b, o + j, none⟩ = some (.int .i64 (tk j))
end Go.Proofs.Ytmdgehpmeikgfaa
