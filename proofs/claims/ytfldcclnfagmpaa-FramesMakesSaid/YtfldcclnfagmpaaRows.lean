/-
  No cell of these rows narrows 'for every input' (looked for: loops, veiled, ifaces, maps, wideKeys, modest, calm, conditions, laid).
  DERIVED. THE GIVEN ROWS OF THIS SEAT. 7 by the template 'for every input the law returns true; each argument reads behind the call as it read before'; 0 by the template 'total and deterministic' (their statements: YtfldcclnfagmpaaTotals.lean).
  GIVEN WITH THE SEED: the statements are not yours to turn. If you find one false, say at which input.
  Laid BY PROGRAM, IN A SANDBOX (cutbox-rows.mjs): the forced cells as the released guide's own fill.sh prints them over the translation 591632467ec429bb… (all of the seat's roots in one cut). By AI agents, Wed Nov 11 2026. No macro, syntax, notation, axiom, sorry.
-/
import Derived.Test.YtfldcclnfagmpaaChecked
import GoSem.Claim
import GoSem.ClaimJoined
import GoSem.ClaimMapViews
import Derived.JoinedTies
import Derived.KernelRfl
namespace Go.Proofs.Ytfldcclnfagmpaa
/- THE CELL 'sum', in the pinned program and in every row, IS THE sha256 OF THE DUMP (.gsa) THAT YtfldcclnfagmpaaProg.lean LOADS. Nothing in Lean hashes anything: it is a label: what it is worth is what the hold of that sum in a sandbox is worth. -/
noncomputable def Try.pinned : Pinned := { name := "ytfldcclnfagmpaa", sum := "591632467ec429bb29441177b7030642690eed191aff10344184b92a3758a216", checked := Try.checked }
namespace Rows
def none {H : Type} : Left H := { results := [], args := [] }

/-- 'pomanderlaw05.FramesReads': WHATEVER THE INPUT: true; the input reads as it did. -/
def framesReadsSpec : ChangeSpec := { name := "framesReads", fn := fun _ => fun
  | [d1, d2, d3] => { results := [.lit (.bool true)], args := [d1, d2, d3] }
  | _ => none }
def framesReadsRow : OpenClaim := { program := "ytfldcclnfagmpaa", sum := "591632467ec429bb29441177b7030642690eed191aff10344184b92a3758a216", func := "pomander/pomanderlaw05.FramesReads", spec := "framesReads", unfollowed := true, recurses := true, apart := false }
def FramesReadsSaid : Prop := framesReadsRow.holds Try.pinned (OpenSpec.ofChange framesReadsSpec)

/-- ITS FALSE NEIGHBOUR: 'it returns false'. Refute it at one input. -/
def framesReadsWrong : ChangeSpec := { name := "framesReads", fn := fun _ => fun
  | [d1, d2, d3] => { results := [.lit (.bool false)], args := [d1, d2, d3] }
  | _ => none }
def FramesReadsWrongFalsely : Prop := framesReadsRow.holds Try.pinned (OpenSpec.ofChange framesReadsWrong)

/-- 'pomanderlaw05.FramesPlays': WHATEVER THE INPUT: true; the input reads as it did. -/
def framesPlaysSpec : ChangeSpec := { name := "framesPlays", fn := fun _ => fun
  | [d1, d2] => { results := [.lit (.bool true)], args := [d1, d2] }
  | _ => none }
def framesPlaysRow : OpenClaim := { program := "ytfldcclnfagmpaa", sum := "591632467ec429bb29441177b7030642690eed191aff10344184b92a3758a216", func := "pomander/pomanderlaw05.FramesPlays", spec := "framesPlays", unfollowed := true, recurses := true, apart := false }
def FramesPlaysSaid : Prop := framesPlaysRow.holds Try.pinned (OpenSpec.ofChange framesPlaysSpec)

/-- ITS FALSE NEIGHBOUR: 'it returns false'. Refute it at one input. -/
def framesPlaysWrong : ChangeSpec := { name := "framesPlays", fn := fun _ => fun
  | [d1, d2] => { results := [.lit (.bool false)], args := [d1, d2] }
  | _ => none }
def FramesPlaysWrongFalsely : Prop := framesPlaysRow.holds Try.pinned (OpenSpec.ofChange framesPlaysWrong)

/-- 'pomanderlaw05.FramesMakes': WHATEVER THE INPUT: true; the input reads as it did. -/
def framesMakesSpec : ChangeSpec := { name := "framesMakes", fn := fun _ => fun
  | [d1, d2] => { results := [.lit (.bool true)], args := [d1, d2] }
  | _ => none }
def framesMakesRow : OpenClaim := { program := "ytfldcclnfagmpaa", sum := "591632467ec429bb29441177b7030642690eed191aff10344184b92a3758a216", func := "pomander/pomanderlaw05.FramesMakes", spec := "framesMakes", unfollowed := true, recurses := true, apart := false }
def FramesMakesSaid : Prop := framesMakesRow.holds Try.pinned (OpenSpec.ofChange framesMakesSpec)

/-- ITS FALSE NEIGHBOUR: 'it returns false'. Refute it at one input. -/
def framesMakesWrong : ChangeSpec := { name := "framesMakes", fn := fun _ => fun
  | [d1, d2] => { results := [.lit (.bool false)], args := [d1, d2] }
  | _ => none }
def FramesMakesWrongFalsely : Prop := framesMakesRow.holds Try.pinned (OpenSpec.ofChange framesMakesWrong)

/-- 'pomanderlaw05.FramesWrites': WHATEVER THE INPUT: true; the input reads as it did. -/
def framesWritesSpec : ChangeSpec := { name := "framesWrites", fn := fun _ => fun
  | [d1, d2, d3] => { results := [.lit (.bool true)], args := [d1, d2, d3] }
  | _ => none }
def framesWritesRow : OpenClaim := { program := "ytfldcclnfagmpaa", sum := "591632467ec429bb29441177b7030642690eed191aff10344184b92a3758a216", func := "pomander/pomanderlaw05.FramesWrites", spec := "framesWrites", unfollowed := true, recurses := true, apart := false }
def FramesWritesSaid : Prop := framesWritesRow.holds Try.pinned (OpenSpec.ofChange framesWritesSpec)

/-- ITS FALSE NEIGHBOUR: 'it returns false'. Refute it at one input. -/
def framesWritesWrong : ChangeSpec := { name := "framesWrites", fn := fun _ => fun
  | [d1, d2, d3] => { results := [.lit (.bool false)], args := [d1, d2, d3] }
  | _ => none }
def FramesWritesWrongFalsely : Prop := framesWritesRow.holds Try.pinned (OpenSpec.ofChange framesWritesWrong)

/-- 'pomanderlaw05.FramesLoads': WHATEVER THE INPUT: true; the input reads as it did. -/
def framesLoadsSpec : ChangeSpec := { name := "framesLoads", fn := fun _ => fun
  | [d1, d2, d3, d4] => { results := [.lit (.bool true)], args := [d1, d2, d3, d4] }
  | _ => none }
def framesLoadsRow : OpenClaim := { program := "ytfldcclnfagmpaa", sum := "591632467ec429bb29441177b7030642690eed191aff10344184b92a3758a216", func := "pomander/pomanderlaw05.FramesLoads", spec := "framesLoads", unfollowed := true, recurses := true, apart := false }
def FramesLoadsSaid : Prop := framesLoadsRow.holds Try.pinned (OpenSpec.ofChange framesLoadsSpec)

/-- ITS FALSE NEIGHBOUR: 'it returns false'. Refute it at one input. -/
def framesLoadsWrong : ChangeSpec := { name := "framesLoads", fn := fun _ => fun
  | [d1, d2, d3, d4] => { results := [.lit (.bool false)], args := [d1, d2, d3, d4] }
  | _ => none }
def FramesLoadsWrongFalsely : Prop := framesLoadsRow.holds Try.pinned (OpenSpec.ofChange framesLoadsWrong)

/-- 'pomanderlaw05.FramesAgain': WHATEVER THE INPUT: true; the input reads as it did. -/
def framesAgainSpec : ChangeSpec := { name := "framesAgain", fn := fun _ => fun
  | [d1, d2, d3, d4] => { results := [.lit (.bool true)], args := [d1, d2, d3, d4] }
  | _ => none }
def framesAgainRow : OpenClaim := { program := "ytfldcclnfagmpaa", sum := "591632467ec429bb29441177b7030642690eed191aff10344184b92a3758a216", func := "pomander/pomanderlaw05.FramesAgain", spec := "framesAgain", unfollowed := true, recurses := true, apart := false }
def FramesAgainSaid : Prop := framesAgainRow.holds Try.pinned (OpenSpec.ofChange framesAgainSpec)

/-- ITS FALSE NEIGHBOUR: 'it returns false'. Refute it at one input. -/
def framesAgainWrong : ChangeSpec := { name := "framesAgain", fn := fun _ => fun
  | [d1, d2, d3, d4] => { results := [.lit (.bool false)], args := [d1, d2, d3, d4] }
  | _ => none }
def FramesAgainWrongFalsely : Prop := framesAgainRow.holds Try.pinned (OpenSpec.ofChange framesAgainWrong)

/-- 'pomanderlaw05.FramesCopies': WHATEVER THE INPUT: true; the input reads as it did. -/
def framesCopiesSpec : ChangeSpec := { name := "framesCopies", fn := fun _ => fun
  | [d1, d2, d3] => { results := [.lit (.bool true)], args := [d1, d2, d3] }
  | _ => none }
def framesCopiesRow : OpenClaim := { program := "ytfldcclnfagmpaa", sum := "591632467ec429bb29441177b7030642690eed191aff10344184b92a3758a216", func := "pomander/pomanderlaw05.FramesCopies", spec := "framesCopies", unfollowed := true, recurses := true, apart := false }
def FramesCopiesSaid : Prop := framesCopiesRow.holds Try.pinned (OpenSpec.ofChange framesCopiesSpec)

/-- ITS FALSE NEIGHBOUR: 'it returns false'. Refute it at one input. -/
def framesCopiesWrong : ChangeSpec := { name := "framesCopies", fn := fun _ => fun
  | [d1, d2, d3] => { results := [.lit (.bool false)], args := [d1, d2, d3] }
  | _ => none }
def FramesCopiesWrongFalsely : Prop := framesCopiesRow.holds Try.pinned (OpenSpec.ofChange framesCopiesWrong)

/- THE SECOND FORM. 'bulk': how many values and letters a reading holds, each counted each time it is reached (what is shared counts as often as it is met; a slice's spare places count too). A statement '..UptoSaid' is the law's where the arguments, and the package variables that the reading takes, are together of bulk at most 1048576: NARROWER than '..Said'. Prove '..Said' where nothing that the law and all that it calls make is longer than what came in: it says more and counts as full. Else prove '..UptoSaid'. A law counts once. -/
mutual
def uptoBulk {H : Type} : DataW H → Nat
  | .lit (.string bytes) => bytes.length + 1
  | .lit _ => 1
  | .nil => 1
  | .ptr d => uptoBulk d + 1
  | .slice elems spare => uptoBulkAll elems + uptoBulkAll spare + 1
  | .agg parts => uptoBulkAll parts + 1
  | .iface _ d => uptoBulk d + 1
  | .map entries => uptoBulkEntries entries + 1
  | .held _ => 1
def uptoBulkAll {H : Type} : List (DataW H) → Nat
  | [] => 0
  | d :: r => uptoBulk d + uptoBulkAll r
def uptoBulkEntries {H : Type} : List (Lit × DataW H) → Nat
  | [] => 0
  | x :: r => uptoBulkEntry x + uptoBulkEntries r
def uptoBulkEntry {H : Type} : Lit × DataW H → Nat
  | (.string bytes, d) => bytes.length + uptoBulk d + 1
  | (_, d) => uptoBulk d + 1
 end
def uptoSmall : (H : Type) → List (DataW H) → Bool := fun _ ds => decide (uptoBulkAll ds ≤ 1048576)
def OpenSpec.upto (s : _root_.Go.ChangeSpec) : _root_.Go.OpenSpec := { _root_.Go.OpenSpec.ofChange s with cond := some uptoSmall }

/-- 'pomanderlaw05.FramesReads', WHERE WHAT IT READS IS OF BULK AT MOST 1048576: true; the input reads as it did. -/
def framesReadsUptoRow : OpenClaim := { program := "ytfldcclnfagmpaa", sum := "591632467ec429bb29441177b7030642690eed191aff10344184b92a3758a216", func := "pomander/pomanderlaw05.FramesReads", spec := "framesReads", unfollowed := true, recurses := true, apart := false, narrowed := true }
def FramesReadsUptoSaid : Prop := framesReadsUptoRow.holds Try.pinned (OpenSpec.upto framesReadsSpec)

/-- 'pomanderlaw05.FramesPlays', WHERE WHAT IT READS IS OF BULK AT MOST 1048576: true; the input reads as it did. -/
def framesPlaysUptoRow : OpenClaim := { program := "ytfldcclnfagmpaa", sum := "591632467ec429bb29441177b7030642690eed191aff10344184b92a3758a216", func := "pomander/pomanderlaw05.FramesPlays", spec := "framesPlays", unfollowed := true, recurses := true, apart := false, narrowed := true }
def FramesPlaysUptoSaid : Prop := framesPlaysUptoRow.holds Try.pinned (OpenSpec.upto framesPlaysSpec)

/-- 'pomanderlaw05.FramesMakes', WHERE WHAT IT READS IS OF BULK AT MOST 1048576: true; the input reads as it did. -/
def framesMakesUptoRow : OpenClaim := { program := "ytfldcclnfagmpaa", sum := "591632467ec429bb29441177b7030642690eed191aff10344184b92a3758a216", func := "pomander/pomanderlaw05.FramesMakes", spec := "framesMakes", unfollowed := true, recurses := true, apart := false, narrowed := true }
def FramesMakesUptoSaid : Prop := framesMakesUptoRow.holds Try.pinned (OpenSpec.upto framesMakesSpec)

/-- 'pomanderlaw05.FramesWrites', WHERE WHAT IT READS IS OF BULK AT MOST 1048576: true; the input reads as it did. -/
def framesWritesUptoRow : OpenClaim := { program := "ytfldcclnfagmpaa", sum := "591632467ec429bb29441177b7030642690eed191aff10344184b92a3758a216", func := "pomander/pomanderlaw05.FramesWrites", spec := "framesWrites", unfollowed := true, recurses := true, apart := false, narrowed := true }
def FramesWritesUptoSaid : Prop := framesWritesUptoRow.holds Try.pinned (OpenSpec.upto framesWritesSpec)

/-- 'pomanderlaw05.FramesLoads', WHERE WHAT IT READS IS OF BULK AT MOST 1048576: true; the input reads as it did. -/
def framesLoadsUptoRow : OpenClaim := { program := "ytfldcclnfagmpaa", sum := "591632467ec429bb29441177b7030642690eed191aff10344184b92a3758a216", func := "pomander/pomanderlaw05.FramesLoads", spec := "framesLoads", unfollowed := true, recurses := true, apart := false, narrowed := true }
def FramesLoadsUptoSaid : Prop := framesLoadsUptoRow.holds Try.pinned (OpenSpec.upto framesLoadsSpec)

/-- 'pomanderlaw05.FramesAgain', WHERE WHAT IT READS IS OF BULK AT MOST 1048576: true; the input reads as it did. -/
def framesAgainUptoRow : OpenClaim := { program := "ytfldcclnfagmpaa", sum := "591632467ec429bb29441177b7030642690eed191aff10344184b92a3758a216", func := "pomander/pomanderlaw05.FramesAgain", spec := "framesAgain", unfollowed := true, recurses := true, apart := false, narrowed := true }
def FramesAgainUptoSaid : Prop := framesAgainUptoRow.holds Try.pinned (OpenSpec.upto framesAgainSpec)

/-- 'pomanderlaw05.FramesCopies', WHERE WHAT IT READS IS OF BULK AT MOST 1048576: true; the input reads as it did. -/
def framesCopiesUptoRow : OpenClaim := { program := "ytfldcclnfagmpaa", sum := "591632467ec429bb29441177b7030642690eed191aff10344184b92a3758a216", func := "pomander/pomanderlaw05.FramesCopies", spec := "framesCopies", unfollowed := true, recurses := true, apart := false, narrowed := true }
def FramesCopiesUptoSaid : Prop := framesCopiesUptoRow.holds Try.pinned (OpenSpec.upto framesCopiesSpec)

end Rows
end Go.Proofs.Ytfldcclnfagmpaa
