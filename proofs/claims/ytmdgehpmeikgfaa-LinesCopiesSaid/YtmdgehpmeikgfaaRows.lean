/-
  No cell of these rows narrows 'for every input' (looked for: loops, veiled, ifaces, maps, wideKeys, modest, calm, conditions, laid).
  DERIVED. THE GIVEN ROWS OF THIS SEAT. 6 by the template 'for every input the law returns true; each argument reads behind the call as it read before'; 0 by the template 'total and deterministic' (their statements: YtmdgehpmeikgfaaTotals.lean).
  GIVEN WITH THE SEED: the statements are not yours to turn. If you find one false, say at which input.
  Laid BY PROGRAM, IN A SANDBOX (cutbox-rows.mjs): the forced cells as the released guide's own fill.sh prints them over the translation 0186830c7b50e541… (all of the seat's roots in one cut). By AI agents, Wed Nov 11 2026. No macro, syntax, notation, axiom, sorry.
-/
import Derived.Test.YtmdgehpmeikgfaaChecked
import GoSem.Claim
import GoSem.ClaimJoined
import GoSem.ClaimMapViews
import Derived.JoinedTies
import Derived.KernelRfl
namespace Go.Proofs.Ytmdgehpmeikgfaa
/- THE CELL 'sum', in the pinned program and in every row, IS THE sha256 OF THE DUMP (.gsa) THAT YtmdgehpmeikgfaaProg.lean LOADS. Nothing in Lean hashes anything: it is a label: what it is worth is what the hold of that sum in a sandbox is worth. -/
noncomputable def Try.pinned : Pinned := { name := "ytmdgehpmeikgfaa", sum := "0186830c7b50e541d15f3a4cf5955816002d57df59f10ce89056daaf40d211ac", checked := Try.checked }
namespace Rows
def none {H : Type} : Left H := { results := [], args := [] }

/-- 'pomanderlaw07.LinesPends': WHATEVER THE INPUT: true; the input reads as it did. -/
def linesPendsSpec : ChangeSpec := { name := "linesPends", fn := fun _ => fun
  | [d1, d2, d3, d4, d5, d6] => { results := [.lit (.bool true)], args := [d1, d2, d3, d4, d5, d6] }
  | _ => none }
def linesPendsRow : OpenClaim := { program := "ytmdgehpmeikgfaa", sum := "0186830c7b50e541d15f3a4cf5955816002d57df59f10ce89056daaf40d211ac", func := "pomander/pomanderlaw07.LinesPends", spec := "linesPends", unfollowed := true, recurses := true, apart := false }
def LinesPendsSaid : Prop := linesPendsRow.holds Try.pinned (OpenSpec.ofChange linesPendsSpec)

/-- ITS FALSE NEIGHBOUR: 'it returns false'. Refute it at one input. -/
def linesPendsWrong : ChangeSpec := { name := "linesPends", fn := fun _ => fun
  | [d1, d2, d3, d4, d5, d6] => { results := [.lit (.bool false)], args := [d1, d2, d3, d4, d5, d6] }
  | _ => none }
def LinesPendsWrongFalsely : Prop := linesPendsRow.holds Try.pinned (OpenSpec.ofChange linesPendsWrong)

/-- 'pomanderlaw07.LinesOrder': WHATEVER THE INPUT: true; the input reads as it did. -/
def linesOrderSpec : ChangeSpec := { name := "linesOrder", fn := fun _ => fun
  | [d1, d2] => { results := [.lit (.bool true)], args := [d1, d2] }
  | _ => none }
def linesOrderRow : OpenClaim := { program := "ytmdgehpmeikgfaa", sum := "0186830c7b50e541d15f3a4cf5955816002d57df59f10ce89056daaf40d211ac", func := "pomander/pomanderlaw07.LinesOrder", spec := "linesOrder", unfollowed := true, recurses := true, apart := false }
def LinesOrderSaid : Prop := linesOrderRow.holds Try.pinned (OpenSpec.ofChange linesOrderSpec)

/-- ITS FALSE NEIGHBOUR: 'it returns false'. Refute it at one input. -/
def linesOrderWrong : ChangeSpec := { name := "linesOrder", fn := fun _ => fun
  | [d1, d2] => { results := [.lit (.bool false)], args := [d1, d2] }
  | _ => none }
def LinesOrderWrongFalsely : Prop := linesOrderRow.holds Try.pinned (OpenSpec.ofChange linesOrderWrong)

/-- 'pomanderlaw07.LinesPlays': WHATEVER THE INPUT: true; the input reads as it did. -/
def linesPlaysSpec : ChangeSpec := { name := "linesPlays", fn := fun _ => fun
  | [d] => { results := [.lit (.bool true)], args := [d] }
  | _ => none }
def linesPlaysRow : OpenClaim := { program := "ytmdgehpmeikgfaa", sum := "0186830c7b50e541d15f3a4cf5955816002d57df59f10ce89056daaf40d211ac", func := "pomander/pomanderlaw07.LinesPlays", spec := "linesPlays", unfollowed := true, recurses := true, apart := false }
def LinesPlaysSaid : Prop := linesPlaysRow.holds Try.pinned (OpenSpec.ofChange linesPlaysSpec)

/-- ITS FALSE NEIGHBOUR: 'it returns false'. Refute it at one input. -/
def linesPlaysWrong : ChangeSpec := { name := "linesPlays", fn := fun _ => fun
  | [d] => { results := [.lit (.bool false)], args := [d] }
  | _ => none }
def LinesPlaysWrongFalsely : Prop := linesPlaysRow.holds Try.pinned (OpenSpec.ofChange linesPlaysWrong)

/-- 'pomanderlaw07.LinesBytes': WHATEVER THE INPUT: true; the input reads as it did. -/
def linesBytesSpec : ChangeSpec := { name := "linesBytes", fn := fun _ => fun
  | [d1, d2] => { results := [.lit (.bool true)], args := [d1, d2] }
  | _ => none }
def linesBytesRow : OpenClaim := { program := "ytmdgehpmeikgfaa", sum := "0186830c7b50e541d15f3a4cf5955816002d57df59f10ce89056daaf40d211ac", func := "pomander/pomanderlaw07.LinesBytes", spec := "linesBytes", unfollowed := true, recurses := true, apart := false }
def LinesBytesSaid : Prop := linesBytesRow.holds Try.pinned (OpenSpec.ofChange linesBytesSpec)

/-- ITS FALSE NEIGHBOUR: 'it returns false'. Refute it at one input. -/
def linesBytesWrong : ChangeSpec := { name := "linesBytes", fn := fun _ => fun
  | [d1, d2] => { results := [.lit (.bool false)], args := [d1, d2] }
  | _ => none }
def LinesBytesWrongFalsely : Prop := linesBytesRow.holds Try.pinned (OpenSpec.ofChange linesBytesWrong)

/-- 'pomanderlaw07.LinesWants': WHATEVER THE INPUT: true; the input reads as it did. -/
def linesWantsSpec : ChangeSpec := { name := "linesWants", fn := fun _ => fun
  | [d1, d2, d3] => { results := [.lit (.bool true)], args := [d1, d2, d3] }
  | _ => none }
def linesWantsRow : OpenClaim := { program := "ytmdgehpmeikgfaa", sum := "0186830c7b50e541d15f3a4cf5955816002d57df59f10ce89056daaf40d211ac", func := "pomander/pomanderlaw07.LinesWants", spec := "linesWants", unfollowed := true, recurses := true, apart := false }
def LinesWantsSaid : Prop := linesWantsRow.holds Try.pinned (OpenSpec.ofChange linesWantsSpec)

/-- ITS FALSE NEIGHBOUR: 'it returns false'. Refute it at one input. -/
def linesWantsWrong : ChangeSpec := { name := "linesWants", fn := fun _ => fun
  | [d1, d2, d3] => { results := [.lit (.bool false)], args := [d1, d2, d3] }
  | _ => none }
def LinesWantsWrongFalsely : Prop := linesWantsRow.holds Try.pinned (OpenSpec.ofChange linesWantsWrong)

/-- 'pomanderlaw07.LinesCopies': WHATEVER THE INPUT: true; the input reads as it did. -/
def linesCopiesSpec : ChangeSpec := { name := "linesCopies", fn := fun _ => fun
  | [d1, d2] => { results := [.lit (.bool true)], args := [d1, d2] }
  | _ => none }
def linesCopiesRow : OpenClaim := { program := "ytmdgehpmeikgfaa", sum := "0186830c7b50e541d15f3a4cf5955816002d57df59f10ce89056daaf40d211ac", func := "pomander/pomanderlaw07.LinesCopies", spec := "linesCopies", unfollowed := true, recurses := true, apart := false }
def LinesCopiesSaid : Prop := linesCopiesRow.holds Try.pinned (OpenSpec.ofChange linesCopiesSpec)

/-- ITS FALSE NEIGHBOUR: 'it returns false'. Refute it at one input. -/
def linesCopiesWrong : ChangeSpec := { name := "linesCopies", fn := fun _ => fun
  | [d1, d2] => { results := [.lit (.bool false)], args := [d1, d2] }
  | _ => none }
def LinesCopiesWrongFalsely : Prop := linesCopiesRow.holds Try.pinned (OpenSpec.ofChange linesCopiesWrong)

/- THE SECOND FORM. 'bulk': how many values and letters a reading holds, each counted each time it is reached (what is shared counts as often as it is met; a slice's spare places count too). A statement '..UptoSaid' is the law's where the arguments, and the package variables that the reading takes, are together of bulk at most 1048576: NARROWER than '..Said'. Prove '..Said' where nothing that the law and all that it calls make is longer than what came in: it says more and counts as full. Else prove '..UptoSaid'. A law counts once. -/
mutual
def uptoBulk {H : Type} : DataW H → Nat
  | .lit (.string bytes) => bytes.length + 1
  | .lit _ => 1
  | .nil => 1
  | .ptr d => uptoBulk d + 1
  | .slice elems spare => uptoBulkAll elems + uptoBulkAll spare + 1
  | .agg parts => uptoBulkAll parts + 1
  | .iface _ d => uptoBulk d + 1
  | .map entries => uptoBulkEntries entries + 1
  | .held _ => 1
def uptoBulkAll {H : Type} : List (DataW H) → Nat
  | [] => 0
  | d :: r => uptoBulk d + uptoBulkAll r
def uptoBulkEntries {H : Type} : List (Lit × DataW H) → Nat
  | [] => 0
  | x :: r => uptoBulkEntry x + uptoBulkEntries r
def uptoBulkEntry {H : Type} : Lit × DataW H → Nat
  | (.string bytes, d) => bytes.length + uptoBulk d + 1
  | (_, d) => uptoBulk d + 1
 end
def uptoSmall : (H : Type) → List (DataW H) → Bool := fun _ ds => decide (uptoBulkAll ds ≤ 1048576)
def OpenSpec.upto (s : _root_.Go.ChangeSpec) : _root_.Go.OpenSpec := { _root_.Go.OpenSpec.ofChange s with cond := some uptoSmall }

/-- 'pomanderlaw07.LinesPends', WHERE WHAT IT READS IS OF BULK AT MOST 1048576: true; the input reads as it did. -/
def linesPendsUptoRow : OpenClaim := { program := "ytmdgehpmeikgfaa", sum := "0186830c7b50e541d15f3a4cf5955816002d57df59f10ce89056daaf40d211ac", func := "pomander/pomanderlaw07.LinesPends", spec := "linesPends", unfollowed := true, recurses := true, apart := false, narrowed := true }
def LinesPendsUptoSaid : Prop := linesPendsUptoRow.holds Try.pinned (OpenSpec.upto linesPendsSpec)

/-- 'pomanderlaw07.LinesOrder', WHERE WHAT IT READS IS OF BULK AT MOST 1048576: true; the input reads as it did. -/
def linesOrderUptoRow : OpenClaim := { program := "ytmdgehpmeikgfaa", sum := "0186830c7b50e541d15f3a4cf5955816002d57df59f10ce89056daaf40d211ac", func := "pomander/pomanderlaw07.LinesOrder", spec := "linesOrder", unfollowed := true, recurses := true, apart := false, narrowed := true }
def LinesOrderUptoSaid : Prop := linesOrderUptoRow.holds Try.pinned (OpenSpec.upto linesOrderSpec)

/-- 'pomanderlaw07.LinesPlays', WHERE WHAT IT READS IS OF BULK AT MOST 1048576: true; the input reads as it did. -/
def linesPlaysUptoRow : OpenClaim := { program := "ytmdgehpmeikgfaa", sum := "0186830c7b50e541d15f3a4cf5955816002d57df59f10ce89056daaf40d211ac", func := "pomander/pomanderlaw07.LinesPlays", spec := "linesPlays", unfollowed := true, recurses := true, apart := false, narrowed := true }
def LinesPlaysUptoSaid : Prop := linesPlaysUptoRow.holds Try.pinned (OpenSpec.upto linesPlaysSpec)

/-- 'pomanderlaw07.LinesBytes', WHERE WHAT IT READS IS OF BULK AT MOST 1048576: true; the input reads as it did. -/
def linesBytesUptoRow : OpenClaim := { program := "ytmdgehpmeikgfaa", sum := "0186830c7b50e541d15f3a4cf5955816002d57df59f10ce89056daaf40d211ac", func := "pomander/pomanderlaw07.LinesBytes", spec := "linesBytes", unfollowed := true, recurses := true, apart := false, narrowed := true }
def LinesBytesUptoSaid : Prop := linesBytesUptoRow.holds Try.pinned (OpenSpec.upto linesBytesSpec)

/-- 'pomanderlaw07.LinesWants', WHERE WHAT IT READS IS OF BULK AT MOST 1048576: true; the input reads as it did. -/
def linesWantsUptoRow : OpenClaim := { program := "ytmdgehpmeikgfaa", sum := "0186830c7b50e541d15f3a4cf5955816002d57df59f10ce89056daaf40d211ac", func := "pomander/pomanderlaw07.LinesWants", spec := "linesWants", unfollowed := true, recurses := true, apart := false, narrowed := true }
def LinesWantsUptoSaid : Prop := linesWantsUptoRow.holds Try.pinned (OpenSpec.upto linesWantsSpec)

/-- 'pomanderlaw07.LinesCopies', WHERE WHAT IT READS IS OF BULK AT MOST 1048576: true; the input reads as it did. -/
def linesCopiesUptoRow : OpenClaim := { program := "ytmdgehpmeikgfaa", sum := "0186830c7b50e541d15f3a4cf5955816002d57df59f10ce89056daaf40d211ac", func := "pomander/pomanderlaw07.LinesCopies", spec := "linesCopies", unfollowed := true, recurses := true, apart := false, narrowed := true }
def LinesCopiesUptoSaid : Prop := linesCopiesUptoRow.holds Try.pinned (OpenSpec.upto linesCopiesSpec)

end Rows
end Go.Proofs.Ytmdgehpmeikgfaa
