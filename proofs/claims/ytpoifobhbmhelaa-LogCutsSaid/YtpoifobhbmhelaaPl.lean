/- The log's plain law: numbers, records, logs as bytes; no program in sight. -/
import Derived.Test.YtpoifobhbmhelaaC
set_option linter.unusedVariables false
set_option linter.unusedSimpArgs false
namespace Go.Proofs.Ytpoifobhbmhelaa
/-- A number's bytes. -/
def enc (n : Nat) : List UInt8 := if h : n < 128 then [UInt8.ofNat n] else UInt8.ofNat (n % 128 + 128) :: enc (n / 128)
termination_by n
decreasing_by omega
theorem enc_lt {n : Nat} (h : n < 128) : enc n = [UInt8.ofNat n] := by rw [enc]; simp [h]
theorem enc_ge {n : Nat} (h : ¬ n < 128) : enc n = UInt8.ofNat (n % 128 + 128) :: enc (n / 128) := by rw [enc]; simp [h]
/-- What taking a number tells. -/
inductive Tk where
  | no
  | soon
  | num (n : Nat) (rest : List UInt8)
/-- Taking a number: so many bytes were taken, they make n. -/
def tk : Nat → Nat → List UInt8 → Tk
  | _, _, [] => .soon
  | i, n, c :: r => if (8 ≤ i ∧ 128 ≤ c.toNat) ∨ (0 < i ∧ c.toNat = 0) then .no else if c.toNat < 128 then .num (n + c.toNat * 128 ^ i) r else tk (i + 1) (n + c.toNat % 128 * 128 ^ i) r
abbrev take (l : List UInt8) : Tk := tk 0 0 l
theorem tk_rest : ∀ (l : List UInt8) (i n m : Nat) (r : List UInt8), tk i n l = .num m r → ∃ p, p ≠ [] ∧ l = p ++ r
  | [], i, n, m, r, h => by cases h
  | c :: t, i, n, m, r, h => by
    rw [tk] at h
    split at h
    · cases h
    · split at h
      · cases h
        exact ⟨[c], by simp, rfl⟩
      · obtain ⟨p, hp, rfl⟩ := tk_rest t _ _ _ _ h
        exact ⟨c :: p, by simp, rfl⟩
theorem take_lt {l r : List UInt8} {n : Nat} (h : take l = .num n r) : r.length < l.length := by
  obtain ⟨p, hp, rfl⟩ := tk_rest _ _ _ _ _ h
  have := List.length_pos_iff.2 hp
  simp; omega
theorem tk_enc : ∀ (m i n : Nat) (r : List UInt8), (i = 0 ∨ 0 < m) → m * 128 ^ i < 128 ^ 9 → tk i n (enc m ++ r) = .num (n + m * 128 ^ i) r := by
  intro m
  induction m using Nat.strongRecOn with
  | ind m ih =>
    intro i n r h0 hm
    have hp : 0 < 128 ^ i := Nat.pow_pos (by decide)
    have hi9 : 0 < m → i < 9 := fun hm0 => by
      by_cases h : i < 9
      · exact h
      · have : 128 ^ 9 ≤ 128 ^ i := Nat.pow_le_pow_right (by decide) (by omega)
        have : 1 * 128 ^ i ≤ m * 128 ^ i := Nat.mul_le_mul_right _ hm0
        omega
    by_cases h : m < 128
    · rw [enc_lt h]
      simp only [List.cons_append, List.nil_append, tk]
      have e : (UInt8.ofNat m).toNat = m := by simp [UInt8.toNat_ofNat']; omega
      rw [e, if_neg (by omega), if_pos h]
    · rw [enc_ge h]
      simp only [List.cons_append, tk]
      have e : (UInt8.ofNat (m % 128 + 128)).toNat = m % 128 + 128 := by simp [UInt8.toNat_ofNat']; omega
      have hd : m % 128 + 128 * (m / 128) = m := Nat.mod_add_div m 128
      have hmul : m * 128 ^ i = m % 128 * 128 ^ i + m / 128 * 128 ^ (i + 1) := by
        conv => lhs; rw [← hd]
        rw [Nat.add_mul, Nat.pow_succ]
        congr 1
        rw [Nat.mul_comm 128 (m / 128), Nat.mul_assoc, Nat.mul_comm 128]
      have hi8 : i < 8 := by
        by_cases h8 : i < 8
        · exact h8
        · have h1 : 128 ^ 9 ≤ 128 ^ (i + 1) := Nat.pow_le_pow_right (by decide) (by omega)
          have h2 : 1 * 128 ^ (i + 1) ≤ m / 128 * 128 ^ (i + 1) := Nat.mul_le_mul_right _ (by omega)
          omega
      rw [e, if_neg (by omega), if_neg (by omega), ih (m / 128) (by omega) (i + 1) _ r (.inr (by omega)) (by omega)]
      rw [hmul, show (m % 128 + 128) % 128 = m % 128 from by omega, Nat.add_assoc]
theorem take_enc (m : Nat) (r : List UInt8) (h : m < 128 ^ 9) : take (enc m ++ r) = .num m r := by
  have := tk_enc m 0 0 r (.inl rfl) (by simpa using h)
  simpa using this
/-- The bytes taken are the number's. -/
theorem tk_inv : ∀ (l : List UInt8) (i n m : Nat) (r : List UInt8), i ≤ 8 → tk i n l = .num m r → n < 128 ^ i → ∃ q, m = n + q * 128 ^ i ∧ l = enc q ++ r ∧ (i = 0 ∨ 0 < q) ∧ m < 128 ^ 9
  | [], i, n, m, r, hi8, h, hn => by cases h
  | c :: t, i, n, m, r, hi8, h, hn => by
    rw [tk] at h
    have hc := c.toNat_lt
    have e : UInt8.ofNat c.toNat = c := by simp
    have hp : 128 ^ (i + 1) = 128 * 128 ^ i := by rw [Nat.pow_succ, Nat.mul_comm]
    split at h
    · cases h
    · rename_i h1
      split at h
      · rename_i h2
        cases h
        have h8 : 128 ^ i ≤ 128 ^ 8 := Nat.pow_le_pow_right (by decide) hi8
        have hb : c.toNat * 128 ^ i ≤ 127 * 128 ^ i := Nat.mul_le_mul_right _ (by omega)
        exact ⟨c.toNat, rfl, by rw [enc_lt h2, e]; rfl, by omega, by omega⟩
      · rename_i h2
        have hb : c.toNat % 128 * 128 ^ i ≤ 127 * 128 ^ i := Nat.mul_le_mul_right _ (by omega)
        obtain ⟨q, hq1, hq2, hq3, hq4⟩ := tk_inv t (i + 1) _ m r (by omega) h (by omega)
        have hq0 : 0 < q := by omega
        refine ⟨c.toNat % 128 + 128 * q, ?_, ?_, by omega, hq4⟩
        · rw [hq1, hp, Nat.add_mul, Nat.add_assoc]
          congr 2
          rw [Nat.mul_left_comm, Nat.mul_assoc]
        · rw [enc_ge (by omega), show (c.toNat % 128 + 128 * q) % 128 = c.toNat % 128 from by omega, show (c.toNat % 128 + 128 * q) / 128 = q from by omega, show c.toNat % 128 + 128 = c.toNat from by omega, e, hq2]
          rfl
theorem take_inv {l r : List UInt8} {m : Nat} (h : take l = .num m r) : l = enc m ++ r ∧ m < 128 ^ 9 := by
  obtain ⟨q, hq1, hq2, _, hq4⟩ := tk_inv l 0 0 m r (by omega) h (by simp)
  simp at hq1
  subst hq1
  exact ⟨hq2, hq4⟩
/-- A number that is cut off. -/
theorem tk_cut : ∀ (m i n k : Nat), m * 128 ^ i < 128 ^ 9 → k < (enc m).length → tk i n ((enc m).take k) = .soon := by
  intro m
  induction m using Nat.strongRecOn with
  | ind m ih =>
    intro i n k hm hk
    cases k with
    | zero => rfl
    | succ k =>
      have hp : 0 < 128 ^ i := Nat.pow_pos (by decide)
      by_cases h : m < 128
      · rw [enc_lt h] at hk
        simp at hk
      · rw [enc_ge h] at hk ⊢
        simp only [List.take_succ_cons, tk, List.length_cons] at hk ⊢
        have e : (UInt8.ofNat (m % 128 + 128)).toNat = m % 128 + 128 := by simp [UInt8.toNat_ofNat']; omega
        have hd : m % 128 + 128 * (m / 128) = m := Nat.mod_add_div m 128
        have hmul : m * 128 ^ i = m % 128 * 128 ^ i + m / 128 * 128 ^ (i + 1) := by
          conv => lhs; rw [← hd]
          rw [Nat.add_mul, Nat.pow_succ]
          congr 1
          rw [Nat.mul_comm 128 (m / 128), Nat.mul_assoc, Nat.mul_comm 128]
        have hi8 : i < 8 := by
          by_cases h8 : i < 8
          · exact h8
          · have h1 : 128 ^ 9 ≤ 128 ^ (i + 1) := Nat.pow_le_pow_right (by decide) (by omega)
            have h2 : 1 * 128 ^ (i + 1) ≤ m / 128 * 128 ^ (i + 1) := Nat.mul_le_mul_right _ (by omega)
            omega
        rw [e, if_neg (by omega), if_neg (by omega)]
        exact ih (m / 128) (by omega) (i + 1) _ k (by omega) (by omega)
theorem take_cut {m k : Nat} (h : m < 128 ^ 9) (hk : k < (enc m).length) : take ((enc m).take k) = .soon := tk_cut m 0 0 k (by simpa using h) hk
theorem enc_len_pos (m : Nat) : 0 < (enc m).length := by
  by_cases h : m < 128
  · rw [enc_lt h]; simp
  · rw [enc_ge h]; simp
theorem enc_len_le : ∀ (j m : Nat), m < 128 ^ (j + 1) → (enc m).length ≤ j + 1
  | 0, m, h => by rw [enc_lt (by simpa using h)]; simp
  | j + 1, m, h => by
    by_cases h1 : m < 128
    · rw [enc_lt h1]; simp
    · rw [enc_ge h1]
      have := enc_len_le j (m / 128) (by rw [Nat.div_lt_iff_lt_mul (by decide)]; rw [Nat.pow_succ] at h; exact h)
      simpa using this
/-- A record; a log. -/
structure Rc where
  a : Int
  k : Int
  n : Int
  b : List UInt8
  deriving DecidableEq
structure Lg where
  f : Int
  s : Int
  m : Int
  rs : List Rc
  wh : Bool
  e : Int
  deriving DecidableEq
def Lg.zero : Lg := ⟨0, 0, 0, [], false, 0⟩
def Rc.Ok (r : Rc) : Prop := Rt r.a r.k r.n r.b.length
instance (r : Rc) : Decidable r.Ok := by unfold Rc.Ok; infer_instance
/-- Records, one behind the other. -/
def RsOk : Int → List Rc → Prop
  | _, [] => True
  | last, r :: t => (r.Ok ∧ last ≤ r.a) ∧ RsOk r.a t
instance : ∀ (last : Int) (rs : List Rc), Decidable (RsOk last rs)
  | _, [] => isTrue trivial
  | last, r :: t => by
    have := instDecidableRsOk r.a t
    unfold RsOk
    infer_instance
def lastOf : Int → List Rc → Int
  | last, [] => last
  | _, r :: t => lastOf r.a t
def Lg.Ok (l : Lg) : Prop := ((Hd l.f l.s l.m ∧ (0 ≤ l.e ∧ l.e ≤ 4611686018427387904)) ∧ (l.wh = true ∨ l.e = 0)) ∧ (RsOk 0 l.rs ∧ (l.wh = true → lastOf 0 l.rs ≤ l.e))
instance (l : Lg) : Decidable l.Ok := by unfold Lg.Ok; infer_instance
/-- A record's bytes. -/
def bodyOf (last : Int) (k a n : Int) (b : List UInt8) : List UInt8 := UInt8.ofNat k.toNat :: (enc (a - last).toNat ++ (enc n.toNat ++ b))
def recOf (last : Int) (k a n : Int) (b : List UInt8) : List UInt8 := enc (bodyOf last k a n b).length ++ bodyOf last k a n b
def recsOf : Int → List Rc → List UInt8
  | _, [] => []
  | last, r :: t => recOf last r.k r.a r.n r.b ++ recsOf r.a t
def endOf (l : Lg) : List UInt8 := if l.wh then recOf (lastOf 0 l.rs) 8 l.e 0 [] else []
def magic : List UInt8 := [80, 77, 68, 82]
def headOf (l : Lg) : List UInt8 := magic ++ (enc l.f.toNat ++ (enc l.s.toNat ++ enc l.m.toNat))
def encL (l : Lg) : List UInt8 := headOf l ++ (recsOf 0 l.rs ++ endOf l)
/-- The record that a body is. -/
def decB (b : List UInt8) (last : Int) : Option Rc :=
  match b with
  | [] => none
  | c :: t =>
    match take t with
    | .num y u =>
      match take u with
      | .num n v => if ((y : Int) ≤ 4611686018427387904 - last ∧ n < 65536) ∧ (Rt (last + y) c.toNat n v.length ∨ (c.toNat = 8 ∧ n = 0 ∧ v.length = 0)) then some ⟨last + y, c.toNat, n, v⟩ else none
      | _ => none
    | _ => none
/-- The records of bytes: none: they are no log's; else the log, and how many bytes are left. -/
def decR (last : Int) (l : Lg) (left : List UInt8) : Option (Lg × Nat) :=
  if left = [] then some (l, 0) else
  if l.wh then none else
  match h : take left with
  | .no => none
  | .soon => some (l, left.length)
  | .num n rest =>
    if n ≤ rest.length then
      match decB (rest.take n) last with
      | none => none
      | some r => decR r.a (if r.k = 8 then { l with wh := true, e := r.a } else { l with rs := l.rs ++ [r] }) (rest.drop n)
    else some (l, left.length)
termination_by left.length
decreasing_by
  have := take_lt h
  simp
  omega
/-- A log's bytes, read: the log, how many bytes, the error. -/
def decL (b : List UInt8) : Lg × Nat × Int :=
  if b.take 4 = magic then
    match take (b.drop 4) with
    | .num f u =>
      match take u with
      | .num s v =>
        match take v with
        | .num m x => if Hd f s m then (match decR 0 ⟨f, s, m, [], false, 0⟩ x with
          | none => (.zero, 0, 260)
          | some (l, k) => (l, b.length - k, 0)) else (.zero, 0, 261)
        | _ => (.zero, 0, 261)
      | _ => (.zero, 0, 261)
    | _ => (.zero, 0, 261)
  else (.zero, 0, 261)
end Go.Proofs.Ytpoifobhbmhelaa
