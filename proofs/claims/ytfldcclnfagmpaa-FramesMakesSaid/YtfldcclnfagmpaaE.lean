import Derived.Test.YtfldcclnfagmpaaD
namespace Go.Proofs.Ytfldcclnfagmpaa
open Go.RowKit

def byteN (v k : Nat) : UInt8 := UInt8.ofNat (v / 256 ^ k)
theorem byteN_val (v k : Nat) : (((byteN v k).toNat : Nat) : Int) = (v : Int) / 2 ^ (8 * k) % 256 := by
  have e : (2 : Int) ^ (8 * k) = ((256 ^ k : Nat) : Int) := by rw [Int.pow_mul]; simp
  rw [e]
  simp [byteN]
/-- The bytes behind a write of n bytes of v. -/
def wrL (l : List UInt8) (addr : Nat) : Nat → Nat → List UInt8
  | 0, _ => l
  | n + 1, v => (wrL l addr n v).set (addr + n) (byteN v n)
theorem wrL_length (l : List UInt8) (addr n v : Nat) : (wrL l addr n v).length = l.length := by
  induction n with
  | zero => rfl
  | succ n ih => simp [wrL, ih]

set_option maxHeartbeats 1000000 in
theorem write1 (g addr n Bv cap v : Nat) (l : List UInt8) (w : World) (hn4 : n ≤ 4) (hr : Row w g l cap) (hfit : addr + n ≤ l.length) (hv : w.heap[Bv]? = some (.cells #[.int .u32 v] 23 (0, 0))) (hgB : g ≠ Bv) :
    Calls Try.prog 29 (#[.slice (some ⟨g, addr, none⟩) n n] ++ #[.pointer (some ⟨Bv, 0, none⟩)]) w fun e w' => e = .returned (.tuple #[]) ∧ Row w' g (wrL l addr n v) cap ∧ w.grownBy w' (some g) := by
  show Calls Try.prog 29 #[.slice (some ⟨g, addr, none⟩) n n, .pointer (some ⟨Bv, 0, none⟩)] w _
  go_enter Try.func29, Try.ntmps29
  go_wp2
  go_loopw [3, 6] (fun _ i wr => ∃ k : Nat, k ≤ n ∧ i = .int .i64 k ∧ Row wr g (wrL l addr k v) cap ∧ w.grownBy wr (some g)) (fun _ i _ => n - (intOf i).toNat)
  case atStart => exact ⟨0, Nat.zero_le _, rfl, hr, World.grownBy.refl _ _⟩
  case round =>
    obtain ⟨k, hk, rfl, hrow, hg⟩ := hrel
    by_cases hlt : k < n
    · have hcell := hrow.cell (addr + k) (by rw [wrL_length]; omega)
      have hfz := hrow.frozen (addr + k)
      have hcv := cell_of_one ((hg.block Bv (lt_of_block hv) (by simpa using hgB.symm)).trans hv)
      go_wp2
      go_roundw
      case rel =>
        refine ⟨k + 1, by omega, by go_num, ?_, hg.trans (grown_setCell _ _ _ _)⟩
        have := hrow.set (addr + k) (byteN v k)
        have hm : min (8 * k) 32 = 8 * k := by omega
        rw [byteN_val] at this
        first | exact this | (rw [hm]; exact this)
      case measure => simp [intOf]; omega
    · obtain rfl : k = n := by omega
      go_wp2
      go_end0
      refine ⟨rfl, hrow, hg⟩

set_option maxHeartbeats 1000000 in
/-- 'func(b []byte) { copy(b, l) }'. -/
theorem load1 (g addr n Bl cap c : Nat) (a : Option Addr) (l bs : List UInt8) (w : World) (hr : Row w g l cap) (hn : n = bs.length) (hne : bs ≠ []) (hfit : addr + bs.length ≤ l.length) (hs : Src w a bs) (hv : w.heap[Bl]? = some (.cells #[.slice a n c] 22 (0, 0))) :
    Calls Try.prog 33 (#[.slice (some ⟨g, addr, none⟩) n n] ++ #[.pointer (some ⟨Bl, 0, none⟩)]) w fun e w' => e = .returned (.tuple #[]) ∧ Row w' g (l.take addr ++ bs ++ l.drop (addr + bs.length)) cap ∧ w.grownBy w' (some g) := by
  show Calls Try.prog 33 #[.slice (some ⟨g, addr, none⟩) n n, .pointer (some ⟨Bl, 0, none⟩)] w _
  subst hn
  obtain ⟨b, o, rfl, _⟩ := hs.resolve_left hne
  have hcv := cell_of_one hv
  obtain ⟨w2, hcp, hr2, hg2⟩ := copy_row addr bs.length bs.length c hr hs hfit rfl
  go_enter Try.func33, Try.ntmps33
  go_wp2
  go_end0
  exact ⟨rfl, hr2, hg2⟩
end Go.Proofs.Ytfldcclnfagmpaa
