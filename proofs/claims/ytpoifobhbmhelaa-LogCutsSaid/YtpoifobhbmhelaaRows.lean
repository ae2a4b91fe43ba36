/-
  No cell of these rows narrows 'for every input' (looked for: loops, veiled, ifaces, maps, wideKeys, modest, calm, conditions, laid).
  DERIVED. THE GIVEN ROWS OF THIS SEAT. 7 by the template 'for every input the law returns true; each argument reads behind the call as it read before'; 0 by the template 'total and deterministic' (their statements: YtpoifobhbmhelaaTotals.lean).
  GIVEN WITH THE SEED: the statements are not yours to turn. If you find one false, say at which input.
  Laid BY PROGRAM, IN A SANDBOX (cutbox-rows.mjs): the forced cells as the released guide's own fill.sh prints them over the translation 081085657d019f8d… (all of the seat's roots in one cut). By AI agents, Wed Nov 11 2026. No macro, syntax, notation, axiom, sorry.
-/
import Derived.Test.YtpoifobhbmhelaaChecked
import GoSem.Claim
import GoSem.ClaimJoined
import GoSem.ClaimMapViews
import Derived.JoinedTies
import Derived.KernelRfl
namespace Go.Proofs.Ytpoifobhbmhelaa
/- THE CELL 'sum', in the pinned program and in every row, IS THE sha256 OF THE DUMP (.gsa) THAT YtpoifobhbmhelaaProg.lean LOADS. Nothing in Lean hashes anything: it is a label: what it is worth is what the hold of that sum in a sandbox is worth. -/
noncomputable def Try.pinned : Pinned := { name := "ytpoifobhbmhelaa", sum := "081085657d019f8da8ef3e01a546cafe74486120ac2c6f8ef40ccbdeb980cfb0", checked := Try.checked }
namespace Rows
def none {H : Type} : Left H := { results := [], args := [] }

/-- 'pomanderlaw16.LogRecords': WHATEVER THE INPUT: true; the input reads as it did. -/
def logRecordsSpec : ChangeSpec := { name := "logRecords", fn := fun _ => fun
  | [d] => { results := [.lit (.bool true)], args := [d] }
  | _ => none }
def logRecordsRow : OpenClaim := { program := "ytpoifobhbmhelaa", sum := "081085657d019f8da8ef3e01a546cafe74486120ac2c6f8ef40ccbdeb980cfb0", func := "pomander/pomanderlaw16.LogRecords", spec := "logRecords", unfollowed := true, recurses := true, apart := false }
def LogRecordsSaid : Prop := logRecordsRow.holds Try.pinned (OpenSpec.ofChange logRecordsSpec)

/-- ITS FALSE NEIGHBOUR: 'it returns false'. Refute it at one input. -/
def logRecordsWrong : ChangeSpec := { name := "logRecords", fn := fun _ => fun
  | [d] => { results := [.lit (.bool false)], args := [d] }
  | _ => none }
def LogRecordsWrongFalsely : Prop := logRecordsRow.holds Try.pinned (OpenSpec.ofChange logRecordsWrong)

/-- 'pomanderlaw16.LogBodies': WHATEVER THE INPUT: true; the input reads as it did. -/
def logBodiesSpec : ChangeSpec := { name := "logBodies", fn := fun _ => fun
  | [d] => { results := [.lit (.bool true)], args := [d] }
  | _ => none }
def logBodiesRow : OpenClaim := { program := "ytpoifobhbmhelaa", sum := "081085657d019f8da8ef3e01a546cafe74486120ac2c6f8ef40ccbdeb980cfb0", func := "pomander/pomanderlaw16.LogBodies", spec := "logBodies", unfollowed := true, recurses := true, apart := false }
def LogBodiesSaid : Prop := logBodiesRow.holds Try.pinned (OpenSpec.ofChange logBodiesSpec)

/-- ITS FALSE NEIGHBOUR: 'it returns false'. Refute it at one input. -/
def logBodiesWrong : ChangeSpec := { name := "logBodies", fn := fun _ => fun
  | [d] => { results := [.lit (.bool false)], args := [d] }
  | _ => none }
def LogBodiesWrongFalsely : Prop := logBodiesRow.holds Try.pinned (OpenSpec.ofChange logBodiesWrong)

/-- 'pomanderlaw16.LogNumbers': WHATEVER THE INPUT: true; the input reads as it did. -/
def logNumbersSpec : ChangeSpec := { name := "logNumbers", fn := fun _ => fun
  | [d1, d2, d3] => { results := [.lit (.bool true)], args := [d1, d2, d3] }
  | _ => none }
def logNumbersRow : OpenClaim := { program := "ytpoifobhbmhelaa", sum := "081085657d019f8da8ef3e01a546cafe74486120ac2c6f8ef40ccbdeb980cfb0", func := "pomander/pomanderlaw16.LogNumbers", spec := "logNumbers", unfollowed := true, recurses := true, apart := false }
def LogNumbersSaid : Prop := logNumbersRow.holds Try.pinned (OpenSpec.ofChange logNumbersSpec)

/-- ITS FALSE NEIGHBOUR: 'it returns false'. Refute it at one input. -/
def logNumbersWrong : ChangeSpec := { name := "logNumbers", fn := fun _ => fun
  | [d1, d2, d3] => { results := [.lit (.bool false)], args := [d1, d2, d3] }
  | _ => none }
def LogNumbersWrongFalsely : Prop := logNumbersRow.holds Try.pinned (OpenSpec.ofChange logNumbersWrong)

/-- 'pomanderlaw16.LogHeads': WHATEVER THE INPUT: true; the input reads as it did. -/
def logHeadsSpec : ChangeSpec := { name := "logHeads", fn := fun _ => fun
  | [d] => { results := [.lit (.bool true)], args := [d] }
  | _ => none }
def logHeadsRow : OpenClaim := { program := "ytpoifobhbmhelaa", sum := "081085657d019f8da8ef3e01a546cafe74486120ac2c6f8ef40ccbdeb980cfb0", func := "pomander/pomanderlaw16.LogHeads", spec := "logHeads", unfollowed := true, recurses := true, apart := false }
def LogHeadsSaid : Prop := logHeadsRow.holds Try.pinned (OpenSpec.ofChange logHeadsSpec)

/-- ITS FALSE NEIGHBOUR: 'it returns false'. Refute it at one input. -/
def logHeadsWrong : ChangeSpec := { name := "logHeads", fn := fun _ => fun
  | [d] => { results := [.lit (.bool false)], args := [d] }
  | _ => none }
def LogHeadsWrongFalsely : Prop := logHeadsRow.holds Try.pinned (OpenSpec.ofChange logHeadsWrong)

/-- 'pomanderlaw16.LogEncodes': WHATEVER THE INPUT: true; the input reads as it did. -/
def logEncodesSpec : ChangeSpec := { name := "logEncodes", fn := fun _ => fun
  | [d] => { results := [.lit (.bool true)], args := [d] }
  | _ => none }
def logEncodesRow : OpenClaim := { program := "ytpoifobhbmhelaa", sum := "081085657d019f8da8ef3e01a546cafe74486120ac2c6f8ef40ccbdeb980cfb0", func := "pomander/pomanderlaw16.LogEncodes", spec := "logEncodes", unfollowed := true, recurses := true, apart := false }
def LogEncodesSaid : Prop := logEncodesRow.holds Try.pinned (OpenSpec.ofChange logEncodesSpec)

/-- ITS FALSE NEIGHBOUR: 'it returns false'. Refute it at one input. -/
def logEncodesWrong : ChangeSpec := { name := "logEncodes", fn := fun _ => fun
  | [d] => { results := [.lit (.bool false)], args := [d] }
  | _ => none }
def LogEncodesWrongFalsely : Prop := logEncodesRow.holds Try.pinned (OpenSpec.ofChange logEncodesWrong)

/-- 'pomanderlaw16.LogCuts': WHATEVER THE INPUT: true; the input reads as it did. -/
def logCutsSpec : ChangeSpec := { name := "logCuts", fn := fun _ => fun
  | [d1, d2, d3] => { results := [.lit (.bool true)], args := [d1, d2, d3] }
  | _ => none }
def logCutsRow : OpenClaim := { program := "ytpoifobhbmhelaa", sum := "081085657d019f8da8ef3e01a546cafe74486120ac2c6f8ef40ccbdeb980cfb0", func := "pomander/pomanderlaw16.LogCuts", spec := "logCuts", unfollowed := true, recurses := true, apart := false }
def LogCutsSaid : Prop := logCutsRow.holds Try.pinned (OpenSpec.ofChange logCutsSpec)

/-- ITS FALSE NEIGHBOUR: 'it returns false'. Refute it at one input. -/
def logCutsWrong : ChangeSpec := { name := "logCuts", fn := fun _ => fun
  | [d1, d2, d3] => { results := [.lit (.bool false)], args := [d1, d2, d3] }
  | _ => none }
def LogCutsWrongFalsely : Prop := logCutsRow.holds Try.pinned (OpenSpec.ofChange logCutsWrong)

/-- 'pomanderlaw16.LogChecks': WHATEVER THE INPUT: true; the input reads as it did. -/
def logChecksSpec : ChangeSpec := { name := "logChecks", fn := fun _ => fun
  | [d1, d2] => { results := [.lit (.bool true)], args := [d1, d2] }
  | _ => none }
def logChecksRow : OpenClaim := { program := "ytpoifobhbmhelaa", sum := "081085657d019f8da8ef3e01a546cafe74486120ac2c6f8ef40ccbdeb980cfb0", func := "pomander/pomanderlaw16.LogChecks", spec := "logChecks", unfollowed := true, recurses := true, apart := false }
def LogChecksSaid : Prop := logChecksRow.holds Try.pinned (OpenSpec.ofChange logChecksSpec)

/-- ITS FALSE NEIGHBOUR: 'it returns false'. Refute it at one input. -/
def logChecksWrong : ChangeSpec := { name := "logChecks", fn := fun _ => fun
  | [d1, d2] => { results := [.lit (.bool false)], args := [d1, d2] }
  | _ => none }
def LogChecksWrongFalsely : Prop := logChecksRow.holds Try.pinned (OpenSpec.ofChange logChecksWrong)

/- THE SECOND FORM. 'bulk': how many values and letters a reading holds, each counted each time it is reached (what is shared counts as often as it is met; a slice's spare places count too). A statement '..UptoSaid' is the law's where the arguments, and the package variables that the reading takes, are together of bulk at most 1048576: NARROWER than '..Said'. Prove '..Said' where nothing that the law and all that it calls make is longer than what came in: it says more and counts as full. Else prove '..UptoSaid'. A law counts once. -/
mutual
def uptoBulk {H : Type} : DataW H → Nat
  | .lit (.string bytes) => bytes.length + 1
  | .lit _ => 1
  | .nil => 1
  | .ptr d => uptoBulk d + 1
  | .slice elems spare => uptoBulkAll elems + uptoBulkAll spare + 1
  | .agg parts => uptoBulkAll parts + 1
  | .iface _ d => uptoBulk d + 1
  | .map entries => uptoBulkEntries entries + 1
  | .held _ => 1
def uptoBulkAll {H : Type} : List (DataW H) → Nat
  | [] => 0
  | d :: r => uptoBulk d + uptoBulkAll r
def uptoBulkEntries {H : Type} : List (Lit × DataW H) → Nat
  | [] => 0
  | x :: r => uptoBulkEntry x + uptoBulkEntries r
def uptoBulkEntry {H : Type} : Lit × DataW H → Nat
  | (.string bytes, d) => bytes.length + uptoBulk d + 1
  | (_, d) => uptoBulk d + 1
 end
def uptoSmall : (H : Type) → List (DataW H) → Bool := fun _ ds => decide (uptoBulkAll ds ≤ 1048576)
def OpenSpec.upto (s : _root_.Go.ChangeSpec) : _root_.Go.OpenSpec := { _root_.Go.OpenSpec.ofChange s with cond := some uptoSmall }

/-- 'pomanderlaw16.LogRecords', WHERE WHAT IT READS IS OF BULK AT MOST 1048576: true; the input reads as it did. -/
def logRecordsUptoRow : OpenClaim := { program := "ytpoifobhbmhelaa", sum := "081085657d019f8da8ef3e01a546cafe74486120ac2c6f8ef40ccbdeb980cfb0", func := "pomander/pomanderlaw16.LogRecords", spec := "logRecords", unfollowed := true, recurses := true, apart := false, narrowed := true }
def LogRecordsUptoSaid : Prop := logRecordsUptoRow.holds Try.pinned (OpenSpec.upto logRecordsSpec)

/-- 'pomanderlaw16.LogBodies', WHERE WHAT IT READS IS OF BULK AT MOST 1048576: true; the input reads as it did. -/
def logBodiesUptoRow : OpenClaim := { program := "ytpoifobhbmhelaa", sum := "081085657d019f8da8ef3e01a546cafe74486120ac2c6f8ef40ccbdeb980cfb0", func := "pomander/pomanderlaw16.LogBodies", spec := "logBodies", unfollowed := true, recurses := true, apart := false, narrowed := true }
def LogBodiesUptoSaid : Prop := logBodiesUptoRow.holds Try.pinned (OpenSpec.upto logBodiesSpec)

/-- 'pomanderlaw16.LogNumbers', WHERE WHAT IT READS IS OF BULK AT MOST 1048576: true; the input reads as it did. -/
def logNumbersUptoRow : OpenClaim := { program := "ytpoifobhbmhelaa", sum := "081085657d019f8da8ef3e01a546cafe74486120ac2c6f8ef40ccbdeb980cfb0", func := "pomander/pomanderlaw16.LogNumbers", spec := "logNumbers", unfollowed := true, recurses := true, apart := false, narrowed := true }
def LogNumbersUptoSaid : Prop := logNumbersUptoRow.holds Try.pinned (OpenSpec.upto logNumbersSpec)

/-- 'pomanderlaw16.LogHeads', WHERE WHAT IT READS IS OF BULK AT MOST 1048576: true; the input reads as it did. -/
def logHeadsUptoRow : OpenClaim := { program := "ytpoifobhbmhelaa", sum := "081085657d019f8da8ef3e01a546cafe74486120ac2c6f8ef40ccbdeb980cfb0", func := "pomander/pomanderlaw16.LogHeads", spec := "logHeads", unfollowed := true, recurses := true, apart := false, narrowed := true }
def LogHeadsUptoSaid : Prop := logHeadsUptoRow.holds Try.pinned (OpenSpec.upto logHeadsSpec)

/-- 'pomanderlaw16.LogEncodes', WHERE WHAT IT READS IS OF BULK AT MOST 1048576: true; the input reads as it did. -/
def logEncodesUptoRow : OpenClaim := { program := "ytpoifobhbmhelaa", sum := "081085657d019f8da8ef3e01a546cafe74486120ac2c6f8ef40ccbdeb980cfb0", func := "pomander/pomanderlaw16.LogEncodes", spec := "logEncodes", unfollowed := true, recurses := true, apart := false, narrowed := true }
def LogEncodesUptoSaid : Prop := logEncodesUptoRow.holds Try.pinned (OpenSpec.upto logEncodesSpec)

/-- 'pomanderlaw16.LogCuts', WHERE WHAT IT READS IS OF BULK AT MOST 1048576: true; the input reads as it did. -/
def logCutsUptoRow : OpenClaim := { program := "ytpoifobhbmhelaa", sum := "081085657d019f8da8ef3e01a546cafe74486120ac2c6f8ef40ccbdeb980cfb0", func := "pomander/pomanderlaw16.LogCuts", spec := "logCuts", unfollowed := true, recurses := true, apart := false, narrowed := true }
def LogCutsUptoSaid : Prop := logCutsUptoRow.holds Try.pinned (OpenSpec.upto logCutsSpec)

/-- 'pomanderlaw16.LogChecks', WHERE WHAT IT READS IS OF BULK AT MOST 1048576: true; the input reads as it did. -/
def logChecksUptoRow : OpenClaim := { program := "ytpoifobhbmhelaa", sum := "081085657d019f8da8ef3e01a546cafe74486120ac2c6f8ef40ccbdeb980cfb0", func := "pomander/pomanderlaw16.LogChecks", spec := "logChecks", unfollowed := true, recurses := true, apart := false, narrowed := true }
def LogChecksUptoSaid : Prop := logChecksUptoRow.holds Try.pinned (OpenSpec.upto logChecksSpec)

end Rows
end Go.Proofs.Ytpoifobhbmhelaa
