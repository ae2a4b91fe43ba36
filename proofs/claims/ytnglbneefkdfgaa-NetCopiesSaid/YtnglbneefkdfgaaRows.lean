/-
  No cell of these rows narrows 'for every input' (looked for: loops, veiled, ifaces, maps, wideKeys, modest, calm, conditions, laid).
  DERIVED. THE GIVEN ROWS OF THIS SEAT. 6 by the template 'for every input the law returns true; each argument reads behind the call as it read before'; 0 by the template 'total and deterministic' (their statements: YtnglbneefkdfgaaTotals.lean).
  GIVEN WITH THE SEED: the statements are not yours to turn. If you find one false, say at which input.
  Laid BY PROGRAM, IN A SANDBOX (cutbox-rows.mjs): the forced cells as the released guide's own fill.sh prints them over the translation a86af9b1bd41b8a4… (all of the seat's roots in one cut). By AI agents, Wed Nov 11 2026. No macro, syntax, notation, axiom, sorry.
-/
import Derived.Test.YtnglbneefkdfgaaChecked
import GoSem.Claim
import GoSem.ClaimJoined
import GoSem.ClaimMapViews
import Derived.JoinedTies
import Derived.KernelRfl
namespace Go.Proofs.Ytnglbneefkdfgaa
/- THE CELL 'sum', in the pinned program and in every row, IS THE sha256 OF THE DUMP (.gsa) THAT YtnglbneefkdfgaaProg.lean LOADS. Nothing in Lean hashes anything: it is a label: what it is worth is what the hold of that sum in a sandbox is worth. -/
noncomputable def Try.pinned : Pinned := { name := "ytnglbneefkdfgaa", sum := "a86af9b1bd41b8a43468f2636950f6a230ec41e4fa744ddac9e18204eef36f55", checked := Try.checked }
namespace Rows
def none {H : Type} : Left H := { results := [], args := [] }

/-- 'pomanderlaw09.NetFull': WHATEVER THE INPUT: true; the input reads as it did. -/
def netFullSpec : ChangeSpec := { name := "netFull", fn := fun _ => fun
  | [d1, d2] => { results := [.lit (.bool true)], args := [d1, d2] }
  | _ => none }
def netFullRow : OpenClaim := { program := "ytnglbneefkdfgaa", sum := "a86af9b1bd41b8a43468f2636950f6a230ec41e4fa744ddac9e18204eef36f55", func := "pomander/pomanderlaw09.NetFull", spec := "netFull", unfollowed := true, recurses := true, apart := false }
def NetFullSaid : Prop := netFullRow.holds Try.pinned (OpenSpec.ofChange netFullSpec)

/-- ITS FALSE NEIGHBOUR: 'it returns false'. Refute it at one input. -/
def netFullWrong : ChangeSpec := { name := "netFull", fn := fun _ => fun
  | [d1, d2] => { results := [.lit (.bool false)], args := [d1, d2] }
  | _ => none }
def NetFullWrongFalsely : Prop := netFullRow.holds Try.pinned (OpenSpec.ofChange netFullWrong)

/-- 'pomanderlaw09.NetOrder': WHATEVER THE INPUT: true; the input reads as it did. -/
def netOrderSpec : ChangeSpec := { name := "netOrder", fn := fun _ => fun
  | [d] => { results := [.lit (.bool true)], args := [d] }
  | _ => none }
def netOrderRow : OpenClaim := { program := "ytnglbneefkdfgaa", sum := "a86af9b1bd41b8a43468f2636950f6a230ec41e4fa744ddac9e18204eef36f55", func := "pomander/pomanderlaw09.NetOrder", spec := "netOrder", unfollowed := true, recurses := true, apart := false }
def NetOrderSaid : Prop := netOrderRow.holds Try.pinned (OpenSpec.ofChange netOrderSpec)

/-- ITS FALSE NEIGHBOUR: 'it returns false'. Refute it at one input. -/
def netOrderWrong : ChangeSpec := { name := "netOrder", fn := fun _ => fun
  | [d] => { results := [.lit (.bool false)], args := [d] }
  | _ => none }
def NetOrderWrongFalsely : Prop := netOrderRow.holds Try.pinned (OpenSpec.ofChange netOrderWrong)

/-- 'pomanderlaw09.NetPlays': WHATEVER THE INPUT: true; the input reads as it did. -/
def netPlaysSpec : ChangeSpec := { name := "netPlays", fn := fun _ => fun
  | [d] => { results := [.lit (.bool true)], args := [d] }
  | _ => none }
def netPlaysRow : OpenClaim := { program := "ytnglbneefkdfgaa", sum := "a86af9b1bd41b8a43468f2636950f6a230ec41e4fa744ddac9e18204eef36f55", func := "pomander/pomanderlaw09.NetPlays", spec := "netPlays", unfollowed := true, recurses := true, apart := false }
def NetPlaysSaid : Prop := netPlaysRow.holds Try.pinned (OpenSpec.ofChange netPlaysSpec)

/-- ITS FALSE NEIGHBOUR: 'it returns false'. Refute it at one input. -/
def netPlaysWrong : ChangeSpec := { name := "netPlays", fn := fun _ => fun
  | [d] => { results := [.lit (.bool false)], args := [d] }
  | _ => none }
def NetPlaysWrongFalsely : Prop := netPlaysRow.holds Try.pinned (OpenSpec.ofChange netPlaysWrong)

/-- 'pomanderlaw09.NetPushes': WHATEVER THE INPUT: true; the input reads as it did. -/
def netPushesSpec : ChangeSpec := { name := "netPushes", fn := fun _ => fun
  | [d] => { results := [.lit (.bool true)], args := [d] }
  | _ => none }
def netPushesRow : OpenClaim := { program := "ytnglbneefkdfgaa", sum := "a86af9b1bd41b8a43468f2636950f6a230ec41e4fa744ddac9e18204eef36f55", func := "pomander/pomanderlaw09.NetPushes", spec := "netPushes", unfollowed := true, recurses := true, apart := false }
def NetPushesSaid : Prop := netPushesRow.holds Try.pinned (OpenSpec.ofChange netPushesSpec)

/-- ITS FALSE NEIGHBOUR: 'it returns false'. Refute it at one input. -/
def netPushesWrong : ChangeSpec := { name := "netPushes", fn := fun _ => fun
  | [d] => { results := [.lit (.bool false)], args := [d] }
  | _ => none }
def NetPushesWrongFalsely : Prop := netPushesRow.holds Try.pinned (OpenSpec.ofChange netPushesWrong)

/-- 'pomanderlaw09.NetOne': WHATEVER THE INPUT: true; the input reads as it did. -/
def netOneSpec : ChangeSpec := { name := "netOne", fn := fun _ => fun
  | [d1, d2] => { results := [.lit (.bool true)], args := [d1, d2] }
  | _ => none }
def netOneRow : OpenClaim := { program := "ytnglbneefkdfgaa", sum := "a86af9b1bd41b8a43468f2636950f6a230ec41e4fa744ddac9e18204eef36f55", func := "pomander/pomanderlaw09.NetOne", spec := "netOne", unfollowed := true, recurses := true, apart := false }
def NetOneSaid : Prop := netOneRow.holds Try.pinned (OpenSpec.ofChange netOneSpec)

/-- ITS FALSE NEIGHBOUR: 'it returns false'. Refute it at one input. -/
def netOneWrong : ChangeSpec := { name := "netOne", fn := fun _ => fun
  | [d1, d2] => { results := [.lit (.bool false)], args := [d1, d2] }
  | _ => none }
def NetOneWrongFalsely : Prop := netOneRow.holds Try.pinned (OpenSpec.ofChange netOneWrong)

/-- 'pomanderlaw09.NetCopies': WHATEVER THE INPUT: true; the input reads as it did. -/
def netCopiesSpec : ChangeSpec := { name := "netCopies", fn := fun _ => fun
  | [d1, d2] => { results := [.lit (.bool true)], args := [d1, d2] }
  | _ => none }
def netCopiesRow : OpenClaim := { program := "ytnglbneefkdfgaa", sum := "a86af9b1bd41b8a43468f2636950f6a230ec41e4fa744ddac9e18204eef36f55", func := "pomander/pomanderlaw09.NetCopies", spec := "netCopies", unfollowed := true, recurses := true, apart := false }
def NetCopiesSaid : Prop := netCopiesRow.holds Try.pinned (OpenSpec.ofChange netCopiesSpec)

/-- ITS FALSE NEIGHBOUR: 'it returns false'. Refute it at one input. -/
def netCopiesWrong : ChangeSpec := { name := "netCopies", fn := fun _ => fun
  | [d1, d2] => { results := [.lit (.bool false)], args := [d1, d2] }
  | _ => none }
def NetCopiesWrongFalsely : Prop := netCopiesRow.holds Try.pinned (OpenSpec.ofChange netCopiesWrong)

/- THE SECOND FORM. 'bulk': how many values and letters a reading holds, each counted each time it is reached (what is shared counts as often as it is met; a slice's spare places count too). A statement '..UptoSaid' is the law's where the arguments, and the package variables that the reading takes, are together of bulk at most 1048576: NARROWER than '..Said'. Prove '..Said' where nothing that the law and all that it calls make is longer than what came in: it says more and counts as full. Else prove '..UptoSaid'. A law counts once. -/
mutual
def uptoBulk {H : Type} : DataW H → Nat
  | .lit (.string bytes) => bytes.length + 1
  | .lit _ => 1
  | .nil => 1
  | .ptr d => uptoBulk d + 1
  | .slice elems spare => uptoBulkAll elems + uptoBulkAll spare + 1
  | .agg parts => uptoBulkAll parts + 1
  | .iface _ d => uptoBulk d + 1
  | .map entries => uptoBulkEntries entries + 1
  | .held _ => 1
def uptoBulkAll {H : Type} : List (DataW H) → Nat
  | [] => 0
  | d :: r => uptoBulk d + uptoBulkAll r
def uptoBulkEntries {H : Type} : List (Lit × DataW H) → Nat
  | [] => 0
  | x :: r => uptoBulkEntry x + uptoBulkEntries r
def uptoBulkEntry {H : Type} : Lit × DataW H → Nat
  | (.string bytes, d) => bytes.length + uptoBulk d + 1
  | (_, d) => uptoBulk d + 1
 end
def uptoSmall : (H : Type) → List (DataW H) → Bool := fun _ ds => decide (uptoBulkAll ds ≤ 1048576)
def OpenSpec.upto (s : _root_.Go.ChangeSpec) : _root_.Go.OpenSpec := { _root_.Go.OpenSpec.ofChange s with cond := some uptoSmall }

/-- 'pomanderlaw09.NetFull', WHERE WHAT IT READS IS OF BULK AT MOST 1048576: true; the input reads as it did. -/
def netFullUptoRow : OpenClaim := { program := "ytnglbneefkdfgaa", sum := "a86af9b1bd41b8a43468f2636950f6a230ec41e4fa744ddac9e18204eef36f55", func := "pomander/pomanderlaw09.NetFull", spec := "netFull", unfollowed := true, recurses := true, apart := false, narrowed := true }
def NetFullUptoSaid : Prop := netFullUptoRow.holds Try.pinned (OpenSpec.upto netFullSpec)

/-- 'pomanderlaw09.NetOrder', WHERE WHAT IT READS IS OF BULK AT MOST 1048576: true; the input reads as it did. -/
def netOrderUptoRow : OpenClaim := { program := "ytnglbneefkdfgaa", sum := "a86af9b1bd41b8a43468f2636950f6a230ec41e4fa744ddac9e18204eef36f55", func := "pomander/pomanderlaw09.NetOrder", spec := "netOrder", unfollowed := true, recurses := true, apart := false, narrowed := true }
def NetOrderUptoSaid : Prop := netOrderUptoRow.holds Try.pinned (OpenSpec.upto netOrderSpec)

/-- 'pomanderlaw09.NetPlays', WHERE WHAT IT READS IS OF BULK AT MOST 1048576: true; the input reads as it did. -/
def netPlaysUptoRow : OpenClaim := { program := "ytnglbneefkdfgaa", sum := "a86af9b1bd41b8a43468f2636950f6a230ec41e4fa744ddac9e18204eef36f55", func := "pomander/pomanderlaw09.NetPlays", spec := "netPlays", unfollowed := true, recurses := true, apart := false, narrowed := true }
def NetPlaysUptoSaid : Prop := netPlaysUptoRow.holds Try.pinned (OpenSpec.upto netPlaysSpec)

/-- 'pomanderlaw09.NetPushes', WHERE WHAT IT READS IS OF BULK AT MOST 1048576: true; the input reads as it did. -/
def netPushesUptoRow : OpenClaim := { program := "ytnglbneefkdfgaa", sum := "a86af9b1bd41b8a43468f2636950f6a230ec41e4fa744ddac9e18204eef36f55", func := "pomander/pomanderlaw09.NetPushes", spec := "netPushes", unfollowed := true, recurses := true, apart := false, narrowed := true }
def NetPushesUptoSaid : Prop := netPushesUptoRow.holds Try.pinned (OpenSpec.upto netPushesSpec)

/-- 'pomanderlaw09.NetOne', WHERE WHAT IT READS IS OF BULK AT MOST 1048576: true; the input reads as it did. -/
def netOneUptoRow : OpenClaim := { program := "ytnglbneefkdfgaa", sum := "a86af9b1bd41b8a43468f2636950f6a230ec41e4fa744ddac9e18204eef36f55", func := "pomander/pomanderlaw09.NetOne", spec := "netOne", unfollowed := true, recurses := true, apart := false, narrowed := true }
def NetOneUptoSaid : Prop := netOneUptoRow.holds Try.pinned (OpenSpec.upto netOneSpec)

/-- 'pomanderlaw09.NetCopies', WHERE WHAT IT READS IS OF BULK AT MOST 1048576: true; the input reads as it did. -/
def netCopiesUptoRow : OpenClaim := { program := "ytnglbneefkdfgaa", sum := "a86af9b1bd41b8a43468f2636950f6a230ec41e4fa744ddac9e18204eef36f55", func := "pomander/pomanderlaw09.NetCopies", spec := "netCopies", unfollowed := true, recurses := true, apart := false, narrowed := true }
def NetCopiesUptoSaid : Prop := netCopiesUptoRow.holds Try.pinned (OpenSpec.upto netCopiesSpec)

end Rows
end Go.Proofs.Ytnglbneefkdfgaa
