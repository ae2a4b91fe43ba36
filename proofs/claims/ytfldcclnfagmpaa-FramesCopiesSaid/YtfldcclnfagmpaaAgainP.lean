import Derived.Test.YtfldcclnfagmpaaReadsW
namespace Go.Proofs.Ytfldcclnfagmpaa
open Go.RowKit
/-! What was written is read: the plain law. -/
theorem wrL_get (l : List UInt8) (addr n v j : Nat) (h : addr + n ≤ l.length) (hj : j < l.length) :
    (wrL l addr n v)[j]? = some (if addr ≤ j ∧ j < addr + n then byteN v (j - addr) else l[j]) := by
  induction n with
  | zero => rw [if_neg (by omega)]; simp [wrL, hj]
  | succ n ih =>
    rw [wrL, List.getElem?_set, wrL_length]
    by_cases e : addr + n = j
    · rw [if_pos e, if_pos (by omega), if_pos (by omega)]; subst e; congr 2; omega
    · rw [if_neg e, ih (by omega)]
      by_cases h1 : addr ≤ j ∧ j < addr + n
      · rw [if_pos h1, if_pos (by omega)]
      · rw [if_neg h1, if_neg (by omega)]
theorem refused_one (n other : Nat) : refusedS n other 1 = if n ≤ other then 4 else 0 := by
  unfold refusedS
  rw [if_neg (by omega), if_neg (by omega)]
theorem readS_one (l : List UInt8) (other : Nat) : readS l other 1 = (l[other]?.getD 0).toNat := by
  unfold readS
  rw [refused_one]
  by_cases h : l.length ≤ other
  · rw [if_pos h, if_neg (by decide), List.getElem?_eq_none h]; rfl
  · rw [if_neg h, if_pos rfl]
    have hlt : other < l.length := by omega
    rw [List.drop_eq_getElem_cons hlt, List.getElem?_eq_getElem hlt]
    show leVal ((l[other] :: l.drop (other + 1)).take 1) = _
    rw [List.take_succ_cons, List.take_zero]
    simp [leVal]
theorem readS_ok (l : List UInt8) (addr k : Nat) (h : refusedS l.length addr k = 0) : readS l addr k = leVal ((l.drop addr).take k) := by
  unfold readS; rw [if_pos h, Int.toNat_natCast]
theorem take_drop_four (l : List UInt8) (a : Nat) (h : a + 4 ≤ l.length) : (l.drop a).take 4 = [l[a], l[a + 1], l[a + 2], l[a + 3]] := by
  rw [List.drop_eq_getElem_cons (by omega), List.drop_eq_getElem_cons (by omega : a + 1 < l.length), List.drop_eq_getElem_cons (by omega : a + 1 + 1 < l.length), List.drop_eq_getElem_cons (by omega : a + 1 + 1 + 1 < l.length)]
  rfl
/-- P5.3: the value that was written is read. -/
theorem again_value (l : List UInt8) (addr k v : Nat) (hk : k = 1 ∨ k = 4) (hfit : addr + k ≤ l.length) (hr : refusedS l.length addr k = 0) (hv : v < 4294967296) :
    readS (wrL l addr k v) addr k = if k = 1 then v % 256 else v := by
  rw [readS_ok _ _ _ (by rw [wrL_length]; exact hr)]
  have g : ∀ i, i < k → ∀ h, (wrL l addr k v)[addr + i]'h = byteN v i := by
    intro i hi h
    have := wrL_get l addr k v (addr + i) hfit (by omega)
    rw [if_pos (by omega), List.getElem?_eq_getElem h] at this
    simp at this
    rw [this]
  rcases hk with rfl | rfl
  · rw [List.drop_eq_getElem_cons (by rw [wrL_length]; omega)]
    have := g 0 (by omega) (by rw [wrL_length]; omega)
    simp only [Nat.add_zero] at this
    rw [this]
    simp [leVal, byteN]
  · rw [take_drop_four _ _ (by rw [wrL_length]; omega)]
    have g0 := g 0 (by omega) (by rw [wrL_length]; omega)
    have g1 := g 1 (by omega) (by rw [wrL_length]; omega)
    have g2 := g 2 (by omega) (by rw [wrL_length]; omega)
    have g3 := g 3 (by omega) (by rw [wrL_length]; omega)
    simp only [Nat.add_zero] at g0
    rw [g0, g1, g2, g3]
    simp [leVal, byteN]
    omega
/-- P5.3: all else is as it was. -/
theorem again_other (l : List UInt8) (addr k v other : Nat) (hfit : addr + k ≤ l.length) (ho : other < addr ∨ addr + k ≤ other) : readS (wrL l addr k v) other 1 = readS l other 1 := by
  rw [readS_one, readS_one]
  by_cases h : other < l.length
  · rw [wrL_get l addr k v other hfit h, if_neg (by omega), List.getElem?_eq_getElem h]
  · rw [List.getElem?_eq_none (by rw [wrL_length]; omega), List.getElem?_eq_none (by omega)]
/-- P5.3: the bytes as a word, from the highest down. -/
theorem again_word (l : List UInt8) (at_ k : Nat) (h : at_ + 4 ≤ l.length) (hk : k < 4) : leVal ((l.drop (at_ + 4 - (k + 1))).take (k + 1)) = leVal ((l.drop (at_ + 4 - k)).take k) * 256 + readS l (at_ + 3 - k) 1 := by
  have e : at_ + 4 - (k + 1) = at_ + 3 - k := by omega
  have e2 : at_ + 4 - k = at_ + 3 - k + 1 := by omega
  rw [e, e2, List.drop_eq_getElem_cons (by omega : at_ + 3 - k < l.length), List.take_succ_cons, readS_one, List.getElem?_eq_getElem (by omega : at_ + 3 - k < l.length)]
  simp [leVal]
  omega
theorem readS_lt_one (l : List UInt8) (o : Nat) : readS l o 1 < 256 := by rw [readS_one]; exact UInt8.toNat_lt _
theorem word_lt (l : List UInt8) (at_ k : Nat) (hk : k ≤ 4) : leVal ((l.drop (at_ + 4 - k)).take k) < 4294967296 := leVal_lt4 _ (by have := List.length_take_le k (l.drop (at_ + 4 - k)); omega)
theorem word_lt3 (l : List UInt8) (at_ k : Nat) (hk : k < 4) : leVal ((l.drop (at_ + 4 - k)).take k) < 16777216 := by
  have h1 := leVal_lt ((l.drop (at_ + 4 - k)).take k)
  have h2 := List.length_take_le k (l.drop (at_ + 4 - k))
  have h3 : (256 : Nat) ^ ((l.drop (at_ + 4 - k)).take k).length ≤ 256 ^ 3 := Nat.pow_le_pow_right (by decide) (by omega)
  have h4 : (256 : Nat) ^ 3 = 16777216 := rfl
  omega
end Go.Proofs.Ytfldcclnfagmpaa
