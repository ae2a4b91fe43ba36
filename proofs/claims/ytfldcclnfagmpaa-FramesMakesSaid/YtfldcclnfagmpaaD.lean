import Derived.Test.YtfldcclnfagmpaaC
import Derived.Lib.EndianBits
namespace Go.Proofs.Ytfldcclnfagmpaa
open Go.RowKit

/-- Bytes as a number, the lowest first. -/
def leVal : List UInt8 → Nat
  | [] => 0
  | c :: r => c.toNat + 256 * leVal r

theorem leVal_snoc (l : List UInt8) (c : UInt8) : leVal (l ++ [c]) = leVal l + c.toNat * 256 ^ l.length := by
  induction l with
  | nil => simp [leVal]
  | cons a r ih => simp only [List.cons_append, leVal, ih, List.length_cons, Nat.pow_succ]; rw [Nat.mul_add, Nat.add_assoc]; congr 2; rw [Nat.mul_comm, Nat.mul_assoc]
theorem leVal_lt (l : List UInt8) : leVal l < 256 ^ l.length := by
  induction l with
  | nil => simp [leVal]
  | cons a r ih => simp only [leVal, List.length_cons, Nat.pow_succ]; have := a.toNat_lt; omega
theorem leVal_take (l : List UInt8) (k : Nat) (h : k < l.length) : leVal (l.take (k + 1)) = leVal (l.take k) + l[k].toNat * 256 ^ k := by
  rw [List.take_succ_eq_append_getElem h, leVal_snoc, List.length_take, Nat.min_eq_left (by omega)]

theorem or_val (bs : List UInt8) (k : Nat) (h : k < bs.length) (h4 : bs.length ≤ 4) :
    bits BinOp.or IntKind.u32 (leVal (bs.take k)) ((bs[k].toNat : Int) % 4294967296 * 2 ^ (8 * k) % 4294967296) = (leVal (bs.take (k + 1)) : Int) := by
  rw [leVal_take bs k h]
  have hb := leVal_lt (bs.take k)
  rw [List.length_take, Nat.min_eq_left (by omega)] at hb
  have hc := bs[k].toNat_lt
  generalize bs[k].toNat = c at *
  generalize leVal (bs.take k) = v at *
  have hk : k = 0 ∨ k = 1 ∨ k = 2 ∨ k = 3 := by omega
  rcases hk with rfl | rfl | rfl | rfl
  · obtain rfl : v = 0 := by simpa using hb
    have e : ((c : Int) % 4294967296 * 2 ^ (8 * 0) % 4294967296) = c := by simp; omega
    rw [e]
    have h0 := bits_join_low .u32 32 (by decide) wraps_u32 0 (by decide) (y := 0) (x := (c : Int)) (by omega) (by omega) (by omega) (by omega) (by omega)
    rw [show ((0 : Nat) : Int) = 0 from rfl, h0]
    simp
  · have e : ((c : Int) % 4294967296 * 2 ^ (8 * 1) % 4294967296) = c * 256 := by simp; omega
    rw [show (256 : Nat) ^ 1 = 256 from rfl] at hb ⊢
    rw [e, u32_or8 (y := (v : Int)) (x := (c : Int) * 256) (by omega) (by omega) (by omega) (by omega) (by omega)]
    omega
  · have e : ((c : Int) % 4294967296 * 2 ^ (8 * 2) % 4294967296) = c * 65536 := by simp; omega
    rw [show (256 : Nat) ^ 2 = 65536 from rfl] at hb ⊢
    rw [e, u32_or16 (y := (v : Int)) (x := (c : Int) * 65536) (by omega) (by omega) (by omega) (by omega) (by omega)]
    omega
  · have e : ((c : Int) % 4294967296 * 2 ^ (8 * 3) % 4294967296) = c * 16777216 := by simp; omega
    rw [show (256 : Nat) ^ 3 = 16777216 from rfl] at hb ⊢
    rw [e, u32_or24 (y := (v : Int)) (x := (c : Int) * 16777216) (by omega) (by omega) (by omega) (by omega) (by omega)]
    omega
theorem drewr {a b : World} {row : Option Nat} (h : a.grownBy b row) : a.grownBy b.drew row := ⟨h.os, h.tape, h.output, h.size, h.block⟩

set_option maxHeartbeats 1000000 in
/-- 'for i := range len(b) { n |= uint32(b[i]) << (8 * i) }'. -/
theorem read1 (g addr n Bn : Nat) (bs : List UInt8) (w : World) (hn : n = bs.length) (hn4 : bs.length ≤ 4) (hs : Src w (some ⟨g, addr, none⟩) bs) (hne : bs ≠ []) (hv : w.heap[Bn]? = some (.cells #[.int .u32 0] 23 (0, 0))) (hgB : g ≠ Bn) :
    Calls Try.prog 28 (#[.slice (some ⟨g, addr, none⟩) n n] ++ #[.pointer (some ⟨Bn, 0, none⟩)]) w fun e w' => e = .returned (.tuple #[]) ∧ w'.heap[Bn]? = some (.cells #[.int .u32 (leVal bs)] 23 (0, 0)) ∧ w.grownBy w' (some Bn) := by
  subst hn
  obtain ⟨b, o, hbo, hc⟩ := hs.resolve_left hne
  cases hbo
  show Calls Try.prog 28 #[.slice (some ⟨g, addr, none⟩) bs.length bs.length, .pointer (some ⟨Bn, 0, none⟩)] w _
  go_enter Try.func28, Try.ntmps28
  go_wp2
  go_loopw [3, 6] (fun _ i wr => ∃ k : Nat, k ≤ bs.length ∧ i = .int .i64 k ∧ wr.heap[Bn]? = some (.cells #[.int .u32 (leVal (bs.take k))] 23 (0, 0)) ∧ w.grownBy wr (some Bn)) (fun _ i _ => bs.length - (intOf i).toNat)
  case atStart => exact ⟨0, Nat.zero_le _, rfl, by simpa [leVal] using hv, World.grownBy.refl _ _⟩
  case round =>
    obtain ⟨k, hk, rfl, hvr, hg⟩ := hrel
    by_cases hlt : k < bs.length
    · have hcell : wr.cell? ⟨g, addr + k, none⟩ = some (.int .u8 (bs[k].toNat : Int)) := hg.cell (hc k hlt) (by simpa using hgB)
      have hcv := cell_of_one hvr
      have hfv := free_of_one hvr
      go_wp2
      go_region
      go_wp2
      go_roundw
      case rel =>
        refine ⟨k + 1, by omega, by go_num, ?_, ?_⟩
        · have := or_val bs k hlt hn4
          rw [this]
          exact one_setCell hvr
        · exact drewr (hg.trans (grown_setCell wr Bn 0 _))
      case measure => simp [intOf]; omega
    · obtain rfl : k = bs.length := by omega
      go_wp2
      go_end0
      refine ⟨rfl, by simpa using hvr, hg⟩
end Go.Proofs.Ytfldcclnfagmpaa
