/-
  No cell of these rows narrows 'for every input' (looked for: loops, veiled, ifaces, maps, wideKeys, modest, calm, conditions, laid).
  DERIVED. THE GIVEN ROWS OF THIS SEAT. 6 by the template 'for every input the law returns true; each argument reads behind the call as it read before'; 0 by the template 'total and deterministic' (their statements: YtcahpmlajfbidaaTotals.lean).
  GIVEN WITH THE SEED: the statements are not yours to turn. If you find one false, say at which input.
  Laid BY PROGRAM, IN A SANDBOX (cutbox-rows.mjs): the forced cells as the released guide's own fill.sh prints them over the translation 0f2f6950d53941d6… (all of the seat's roots in one cut). By AI agents, Wed Nov 11 2026. No macro, syntax, notation, axiom, sorry.
-/
import Derived.Test.YtcahpmlajfbidaaChecked
import GoSem.Claim
import GoSem.ClaimJoined
import GoSem.ClaimMapViews
import Derived.JoinedTies
import Derived.KernelRfl
namespace Go.Proofs.Ytcahpmlajfbidaa
/- THE CELL 'sum', in the pinned program and in every row, IS THE sha256 OF THE DUMP (.gsa) THAT YtcahpmlajfbidaaProg.lean LOADS. Nothing in Lean hashes anything: it is a label: what it is worth is what the hold of that sum in a sandbox is worth. -/
noncomputable def Try.pinned : Pinned := { name := "ytcahpmlajfbidaa", sum := "0f2f6950d53941d6d4914a98169896cf61697214525b1ad0de939b3934ac948f", checked := Try.checked }
namespace Rows
def none {H : Type} : Left H := { results := [], args := [] }

/-- 'pomanderlaw06.TlbPlays': WHATEVER THE INPUT: true; the input reads as it did. -/
def tlbPlaysSpec : ChangeSpec := { name := "tlbPlays", fn := fun _ => fun
  | [d] => { results := [.lit (.bool true)], args := [d] }
  | _ => none }
def tlbPlaysRow : OpenClaim := { program := "ytcahpmlajfbidaa", sum := "0f2f6950d53941d6d4914a98169896cf61697214525b1ad0de939b3934ac948f", func := "pomander/pomanderlaw06.TlbPlays", spec := "tlbPlays", unfollowed := true, recurses := true, apart := false }
def TlbPlaysSaid : Prop := tlbPlaysRow.holds Try.pinned (OpenSpec.ofChange tlbPlaysSpec)

/-- ITS FALSE NEIGHBOUR: 'it returns false'. Refute it at one input. -/
def tlbPlaysWrong : ChangeSpec := { name := "tlbPlays", fn := fun _ => fun
  | [d] => { results := [.lit (.bool false)], args := [d] }
  | _ => none }
def TlbPlaysWrongFalsely : Prop := tlbPlaysRow.holds Try.pinned (OpenSpec.ofChange tlbPlaysWrong)

/-- 'pomanderlaw06.TlbFills': WHATEVER THE INPUT: true; the input reads as it did. -/
def tlbFillsSpec : ChangeSpec := { name := "tlbFills", fn := fun _ => fun
  | [d1, d2, d3] => { results := [.lit (.bool true)], args := [d1, d2, d3] }
  | _ => none }
def tlbFillsRow : OpenClaim := { program := "ytcahpmlajfbidaa", sum := "0f2f6950d53941d6d4914a98169896cf61697214525b1ad0de939b3934ac948f", func := "pomander/pomanderlaw06.TlbFills", spec := "tlbFills", unfollowed := true, recurses := true, apart := false }
def TlbFillsSaid : Prop := tlbFillsRow.holds Try.pinned (OpenSpec.ofChange tlbFillsSpec)

/-- ITS FALSE NEIGHBOUR: 'it returns false'. Refute it at one input. -/
def tlbFillsWrong : ChangeSpec := { name := "tlbFills", fn := fun _ => fun
  | [d1, d2, d3] => { results := [.lit (.bool false)], args := [d1, d2, d3] }
  | _ => none }
def TlbFillsWrongFalsely : Prop := tlbFillsRow.holds Try.pinned (OpenSpec.ofChange tlbFillsWrong)

/-- 'pomanderlaw06.TlbLooks': WHATEVER THE INPUT: true; the input reads as it did. -/
def tlbLooksSpec : ChangeSpec := { name := "tlbLooks", fn := fun _ => fun
  | [d1, d2] => { results := [.lit (.bool true)], args := [d1, d2] }
  | _ => none }
def tlbLooksRow : OpenClaim := { program := "ytcahpmlajfbidaa", sum := "0f2f6950d53941d6d4914a98169896cf61697214525b1ad0de939b3934ac948f", func := "pomander/pomanderlaw06.TlbLooks", spec := "tlbLooks", unfollowed := true, recurses := true, apart := false }
def TlbLooksSaid : Prop := tlbLooksRow.holds Try.pinned (OpenSpec.ofChange tlbLooksSpec)

/-- ITS FALSE NEIGHBOUR: 'it returns false'. Refute it at one input. -/
def tlbLooksWrong : ChangeSpec := { name := "tlbLooks", fn := fun _ => fun
  | [d1, d2] => { results := [.lit (.bool false)], args := [d1, d2] }
  | _ => none }
def TlbLooksWrongFalsely : Prop := tlbLooksRow.holds Try.pinned (OpenSpec.ofChange tlbLooksWrong)

/-- 'pomanderlaw06.TlbDrops': WHATEVER THE INPUT: true; the input reads as it did. -/
def tlbDropsSpec : ChangeSpec := { name := "tlbDrops", fn := fun _ => fun
  | [d1, d2, d3] => { results := [.lit (.bool true)], args := [d1, d2, d3] }
  | _ => none }
def tlbDropsRow : OpenClaim := { program := "ytcahpmlajfbidaa", sum := "0f2f6950d53941d6d4914a98169896cf61697214525b1ad0de939b3934ac948f", func := "pomander/pomanderlaw06.TlbDrops", spec := "tlbDrops", unfollowed := true, recurses := true, apart := false }
def TlbDropsSaid : Prop := tlbDropsRow.holds Try.pinned (OpenSpec.ofChange tlbDropsSpec)

/-- ITS FALSE NEIGHBOUR: 'it returns false'. Refute it at one input. -/
def tlbDropsWrong : ChangeSpec := { name := "tlbDrops", fn := fun _ => fun
  | [d1, d2, d3] => { results := [.lit (.bool false)], args := [d1, d2, d3] }
  | _ => none }
def TlbDropsWrongFalsely : Prop := tlbDropsRow.holds Try.pinned (OpenSpec.ofChange tlbDropsWrong)

/-- 'pomanderlaw06.TlbLasts': WHATEVER THE INPUT: true; the input reads as it did. -/
def tlbLastsSpec : ChangeSpec := { name := "tlbLasts", fn := fun _ => fun
  | [d1, d2, d3, d4] => { results := [.lit (.bool true)], args := [d1, d2, d3, d4] }
  | _ => none }
def tlbLastsRow : OpenClaim := { program := "ytcahpmlajfbidaa", sum := "0f2f6950d53941d6d4914a98169896cf61697214525b1ad0de939b3934ac948f", func := "pomander/pomanderlaw06.TlbLasts", spec := "tlbLasts", unfollowed := true, recurses := true, apart := false }
def TlbLastsSaid : Prop := tlbLastsRow.holds Try.pinned (OpenSpec.ofChange tlbLastsSpec)

/-- ITS FALSE NEIGHBOUR: 'it returns false'. Refute it at one input. -/
def tlbLastsWrong : ChangeSpec := { name := "tlbLasts", fn := fun _ => fun
  | [d1, d2, d3, d4] => { results := [.lit (.bool false)], args := [d1, d2, d3, d4] }
  | _ => none }
def TlbLastsWrongFalsely : Prop := tlbLastsRow.holds Try.pinned (OpenSpec.ofChange tlbLastsWrong)

/-- 'pomanderlaw06.TlbCopies': WHATEVER THE INPUT: true; the input reads as it did. -/
def tlbCopiesSpec : ChangeSpec := { name := "tlbCopies", fn := fun _ => fun
  | [d1, d2] => { results := [.lit (.bool true)], args := [d1, d2] }
  | _ => none }
def tlbCopiesRow : OpenClaim := { program := "ytcahpmlajfbidaa", sum := "0f2f6950d53941d6d4914a98169896cf61697214525b1ad0de939b3934ac948f", func := "pomander/pomanderlaw06.TlbCopies", spec := "tlbCopies", unfollowed := true, recurses := true, apart := false }
def TlbCopiesSaid : Prop := tlbCopiesRow.holds Try.pinned (OpenSpec.ofChange tlbCopiesSpec)

/-- ITS FALSE NEIGHBOUR: 'it returns false'. Refute it at one input. -/
def tlbCopiesWrong : ChangeSpec := { name := "tlbCopies", fn := fun _ => fun
  | [d1, d2] => { results := [.lit (.bool false)], args := [d1, d2] }
  | _ => none }
def TlbCopiesWrongFalsely : Prop := tlbCopiesRow.holds Try.pinned (OpenSpec.ofChange tlbCopiesWrong)

/- THE SECOND FORM. 'bulk': how many values and letters a reading holds, each counted each time it is reached (what is shared counts as often as it is met; a slice's spare places count too). A statement '..UptoSaid' is the law's where the arguments, and the package variables that the reading takes, are together of bulk at most 1048576: NARROWER than '..Said'. Prove '..Said' where nothing that the law and all that it calls make is longer than what came in: it says more and counts as full. Else prove '..UptoSaid'. A law counts once. -/
mutual
def uptoBulk {H : Type} : DataW H → Nat
  | .lit (.string bytes) => bytes.length + 1
  | .lit _ => 1
  | .nil => 1
  | .ptr d => uptoBulk d + 1
  | .slice elems spare => uptoBulkAll elems + uptoBulkAll spare + 1
  | .agg parts => uptoBulkAll parts + 1
  | .iface _ d => uptoBulk d + 1
  | .map entries => uptoBulkEntries entries + 1
  | .held _ => 1
def uptoBulkAll {H : Type} : List (DataW H) → Nat
  | [] => 0
  | d :: r => uptoBulk d + uptoBulkAll r
def uptoBulkEntries {H : Type} : List (Lit × DataW H) → Nat
  | [] => 0
  | x :: r => uptoBulkEntry x + uptoBulkEntries r
def uptoBulkEntry {H : Type} : Lit × DataW H → Nat
  | (.string bytes, d) => bytes.length + uptoBulk d + 1
  | (_, d) => uptoBulk d + 1
 end
def uptoSmall : (H : Type) → List (DataW H) → Bool := fun _ ds => decide (uptoBulkAll ds ≤ 1048576)
def OpenSpec.upto (s : _root_.Go.ChangeSpec) : _root_.Go.OpenSpec := { _root_.Go.OpenSpec.ofChange s with cond := some uptoSmall }

/-- 'pomanderlaw06.TlbPlays', WHERE WHAT IT READS IS OF BULK AT MOST 1048576: true; the input reads as it did. -/
def tlbPlaysUptoRow : OpenClaim := { program := "ytcahpmlajfbidaa", sum := "0f2f6950d53941d6d4914a98169896cf61697214525b1ad0de939b3934ac948f", func := "pomander/pomanderlaw06.TlbPlays", spec := "tlbPlays", unfollowed := true, recurses := true, apart := false, narrowed := true }
def TlbPlaysUptoSaid : Prop := tlbPlaysUptoRow.holds Try.pinned (OpenSpec.upto tlbPlaysSpec)

/-- 'pomanderlaw06.TlbFills', WHERE WHAT IT READS IS OF BULK AT MOST 1048576: true; the input reads as it did. -/
def tlbFillsUptoRow : OpenClaim := { program := "ytcahpmlajfbidaa", sum := "0f2f6950d53941d6d4914a98169896cf61697214525b1ad0de939b3934ac948f", func := "pomander/pomanderlaw06.TlbFills", spec := "tlbFills", unfollowed := true, recurses := true, apart := false, narrowed := true }
def TlbFillsUptoSaid : Prop := tlbFillsUptoRow.holds Try.pinned (OpenSpec.upto tlbFillsSpec)

/-- 'pomanderlaw06.TlbLooks', WHERE WHAT IT READS IS OF BULK AT MOST 1048576: true; the input reads as it did. -/
def tlbLooksUptoRow : OpenClaim := { program := "ytcahpmlajfbidaa", sum := "0f2f6950d53941d6d4914a98169896cf61697214525b1ad0de939b3934ac948f", func := "pomander/pomanderlaw06.TlbLooks", spec := "tlbLooks", unfollowed := true, recurses := true, apart := false, narrowed := true }
def TlbLooksUptoSaid : Prop := tlbLooksUptoRow.holds Try.pinned (OpenSpec.upto tlbLooksSpec)

/-- 'pomanderlaw06.TlbDrops', WHERE WHAT IT READS IS OF BULK AT MOST 1048576: true; the input reads as it did. -/
def tlbDropsUptoRow : OpenClaim := { program := "ytcahpmlajfbidaa", sum := "0f2f6950d53941d6d4914a98169896cf61697214525b1ad0de939b3934ac948f", func := "pomander/pomanderlaw06.TlbDrops", spec := "tlbDrops", unfollowed := true, recurses := true, apart := false, narrowed := true }
def TlbDropsUptoSaid : Prop := tlbDropsUptoRow.holds Try.pinned (OpenSpec.upto tlbDropsSpec)

/-- 'pomanderlaw06.TlbLasts', WHERE WHAT IT READS IS OF BULK AT MOST 1048576: true; the input reads as it did. -/
def tlbLastsUptoRow : OpenClaim := { program := "ytcahpmlajfbidaa", sum := "0f2f6950d53941d6d4914a98169896cf61697214525b1ad0de939b3934ac948f", func := "pomander/pomanderlaw06.TlbLasts", spec := "tlbLasts", unfollowed := true, recurses := true, apart := false, narrowed := true }
def TlbLastsUptoSaid : Prop := tlbLastsUptoRow.holds Try.pinned (OpenSpec.upto tlbLastsSpec)

/-- 'pomanderlaw06.TlbCopies', WHERE WHAT IT READS IS OF BULK AT MOST 1048576: true; the input reads as it did. -/
def tlbCopiesUptoRow : OpenClaim := { program := "ytcahpmlajfbidaa", sum := "0f2f6950d53941d6d4914a98169896cf61697214525b1ad0de939b3934ac948f", func := "pomander/pomanderlaw06.TlbCopies", spec := "tlbCopies", unfollowed := true, recurses := true, apart := false, narrowed := true }
def TlbCopiesUptoSaid : Prop := tlbCopiesUptoRow.holds Try.pinned (OpenSpec.upto tlbCopiesSpec)

end Rows
end Go.Proofs.Ytcahpmlajfbidaa
