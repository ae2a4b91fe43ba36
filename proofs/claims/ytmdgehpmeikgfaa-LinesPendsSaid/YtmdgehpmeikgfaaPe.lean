import Derived.Test.YtmdgehpmeikgfaaAD
import Derived.Test.YtmdgehpmeikgfaaOpenX
namespace Go.Proofs.Ytmdgehpmeikgfaa
open Go.RowKit
theorem linesPends_row (alarm mask : Int) (ha : (Lit.int .u32 alarm).wf = true) (hm : (Lit.int .u32 mask).wf = true) (waits disk net : Bool) (now : Int) (w : World) :
    Calls Try.prog 3 #[.int .u32 alarm, .int .u32 mask, .bool waits, .bool disk, .bool net, .int .i64 now] w fun e w' => e = .returned (.bool true) ∧ w.grownBy w' none := by
  obtain ⟨a, rfl, hA⟩ := wf_u32 ha
  obtain ⟨m, rfl, hM⟩ := wf_u32 hm
  exact linesPends_walk a m hA hM waits disk net now w
end Go.Proofs.Ytmdgehpmeikgfaa
