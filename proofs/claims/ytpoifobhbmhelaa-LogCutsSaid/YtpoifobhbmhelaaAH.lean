/- Both Decodes, of whatever bytes; what they tell of an encoded log: the plain law. -/
import Derived.Test.YtpoifobhbmhelaaAG
import Derived.Test.YtpoifobhbmhelaaAC
set_option linter.unusedVariables false
set_option linter.unusedSimpArgs false
namespace Go.Proofs.Ytpoifobhbmhelaa
open Go.RowKit
theorem decode_any (x : Option Addr) (cap : Nat) (b : List UInt8) (w : World) (hs : Go.Proofs.Ytpoifobhbmhelaa.Src w x b) (hcap : b.length ≤ cap) (hl : b.length ≤ 900000) : Calls Try.prog 15 #[.slice x b.length cap] w fun e w' => DecDo w (decL b) e w' := by
  by_cases hm : b.take 4 = magic
  · exact dec_mag x cap b w hs hcap hl hm
  · exact dec_nomag x cap b w hs hcap hl hm
theorem rdecode_any (x : Option Addr) (cap : Nat) (b : List UInt8) (w : World) (hs : Go.Proofs.Ytpoifobhbmhelaa.Src w x b) (hcap : b.length ≤ cap) (hl : b.length ≤ 900000) : Calls Try.prog 16 #[.slice x b.length cap] w fun e w' => DecDo w (decL b) e w' := by
  by_cases h4 : b.length < 4
  · exact rdec_short x cap b w hs hcap hl h4
  · by_cases hm : b.take 4 = magic
    · exact rdec_mag x cap b w hs hcap hl h4 hm
    · exact rdec_nomag x cap b w hs hcap hl h4 hm
/-- A body is read back. -/
theorem decB_body {z a : Int} {k n N1 : Nat} {b : List UInt8} (hN : a - z = (N1 : Nat)) (hz : 0 ≤ z) (ha : a ≤ 4611686018427387904) (hk : k < 256) (hn : n < 65536) (hR : Rt a k n b.length ∨ (k = 8 ∧ n = 0 ∧ b.length = 0)) : decB (UInt8.ofNat k :: (enc N1 ++ (enc n ++ b))) z = some ⟨a, k, n, b⟩ := by
  have e0 : (UInt8.ofNat k).toNat = k := by simp [UInt8.toNat_ofNat']; omega
  have ea : z + (N1 : Int) = a := by omega
  have h := decB_ok (c := UInt8.ofNat k) (last := z) (take_enc N1 (enc n ++ b) (by omega)) (take_enc n b (by omega)) (by
    rw [e0, ea]
    exact ⟨⟨by omega, hn⟩, hR⟩)
  rw [h, e0, ea]
theorem take_app {n : Nat} {l r : List UInt8} (h : n = l.length) : (l ++ r).take n = l := by rw [h]; exact List.take_left
theorem drop_app {n : Nat} {l r : List UInt8} (h : n = l.length) : (l ++ r).drop n = r := by rw [h]; exact List.drop_left
theorem enc_ne (n : Nat) (r : List UInt8) : enc n ++ r ≠ [] := fun h => by
  have := enc_len_pos n
  have h2 := congrArg List.length h
  simp only [List.length_append, List.length_nil] at h2
  omega
theorem rc_ok {r : Rc} (h : r.Ok) : (∃ k : Nat, r.k = (k : Nat) ∧ 1 ≤ k ∧ k ≤ 7) ∧ (∃ n : Nat, r.n = (n : Nat) ∧ n ≤ 65535) ∧ r.b.length ≤ 2048 ∧ 0 ≤ r.a ∧ r.a ≤ 4611686018427387904 := ok_rec (t := ⟨r.a, r.k, r.n, r.b, none, 0⟩) h
/-- The records of bytes that are a log's. -/
theorem decR_enc : ∀ (rs : List Rc) (z : Int) (l : Lg) (rest : List UInt8), 0 ≤ z → l.wh = false → RsOk z rs → decR z l (recsOf z rs ++ rest) = decR (lastOf z rs) { l with rs := l.rs ++ rs } rest
  | [], z, l, rest, _, _, _ => by simp [recsOf, lastOf]
  | r :: t, z, l, rest, hz, hw, h => by
    obtain ⟨⟨k, hk, hk1, hk2⟩, ⟨n, hn, hn2⟩, hb, ha0, ha1⟩ := rc_ok h.1.1
    have hzr : z ≤ r.a := h.1.2
    obtain ⟨N1, hN1⟩ : ∃ N1 : Nat, r.a - z = (N1 : Nat) := ⟨(r.a - z).toNat, by omega⟩
    obtain ⟨bd, hbd⟩ : ∃ bd, bd = UInt8.ofNat k :: (enc N1 ++ (enc n ++ r.b)) := ⟨_, rfl⟩
    have hrec : recOf z r.k r.a r.n r.b = enc bd.length ++ bd := by rw [hk, hn, recOf_nat z r.a k n N1 r.b hN1, ← hbd]
    have hbl : bd.length ≤ 2100 := by
      have e1 := enc_len (n := N1) (by omega)
      have e2 := enc_short (n := n) (by omega)
      rw [hbd]; simp only [List.length_cons, List.length_append]; omega
    have hdb : decB bd z = some r := by
      rw [hbd, decB_body hN1 hz (by omega) (by omega) (by omega) (.inl (by have := h.1.1; rw [← hk, ← hn]; exact this))]
      obtain ⟨a, k', n', b'⟩ := r
      simp only at hk hn
      rw [hk, hn]
    have h8 : ¬ r.k = 8 := by omega
    show decR z l ((recOf z r.k r.a r.n r.b ++ recsOf r.a t) ++ rest) = _
    rw [hrec, List.append_assoc, List.append_assoc]
    have htk := take_enc bd.length (bd ++ (recsOf r.a t ++ rest)) (by omega)
    rw [decR_ok (enc_ne _ _) hw htk (by simp) (by rw [take_app rfl]; exact hdb) h8, drop_app rfl, decR_enc t r.a { l with rs := l.rs ++ [r] } rest ha0 hw h.2]
    simp [lastOf]
theorem decR_end {z e : Int} {l : Lg} (hz : 0 ≤ z) (hw : l.wh = false) (he : z ≤ e) (he2 : e ≤ 4611686018427387904) : decR z l (recOf z 8 e 0 []) = some ({ l with wh := true, e := e }, 0) := by
  obtain ⟨N1, hN1⟩ : ∃ N1 : Nat, e - z = (N1 : Nat) := ⟨(e - z).toNat, by omega⟩
  obtain ⟨bd, hbd⟩ : ∃ bd, bd = UInt8.ofNat 8 :: (enc N1 ++ (enc 0 ++ ([] : List UInt8))) := ⟨_, rfl⟩
  have hrec : recOf z 8 e 0 [] = enc bd.length ++ bd := by rw [hbd]; exact recOf_nat z e 8 0 N1 [] hN1
  have hbl : bd.length ≤ 2100 := by
    have e1 := enc_len (n := N1) (by omega)
    have e2 := enc_short (n := 0) (by omega)
    rw [hbd]; simp only [List.length_cons, List.length_append, List.length_nil]; omega
  have hdb : decB bd z = some ⟨e, 8, 0, []⟩ := by
    rw [hbd]
    exact decB_body hN1 hz he2 (by omega) (by omega) (.inr ⟨rfl, rfl, rfl⟩)
  have htk := take_enc bd.length bd (by omega)
  rw [hrec, decR_8 (enc_ne _ _) hw htk (Nat.le_refl _) (by rw [List.take_length]; exact hdb) rfl, List.drop_length, decR_nil]
/-- A log's bytes are read back as it, and all of them. -/
theorem decL_encL {l : Lg} (h : l.Ok) : decL (encL l) = (l, (encL l).length, 0) := by
  obtain ⟨f, s, m, rs, wh, e⟩ := l
  obtain ⟨⟨⟨hHd, he0, he1⟩, hwe⟩, hrs, hle⟩ := h
  simp only at hHd he0 he1 hwe hrs hle
  obtain ⟨F, rfl⟩ : ∃ F : Nat, f = (F : Nat) := ⟨f.toNat, by have := hHd.1.1.1; omega⟩
  obtain ⟨S, rfl⟩ : ∃ S : Nat, s = (S : Nat) := ⟨s.toNat, by have := hHd.1.2.1; omega⟩
  obtain ⟨M, rfl⟩ : ∃ M : Nat, m = (M : Nat) := ⟨m.toNat, by have := hHd.2.1; omega⟩
  have hF : F ≤ 32 := by have := hHd.1.1.2; omega
  have hS : S ≤ 32 := by have := hHd.1.2.2; omega
  have hM : M ≤ 65536 := by have := hHd.2.2; omega
  obtain ⟨X, hX⟩ : ∃ X, X = recsOf 0 rs ++ endOf ⟨(F : Nat), (S : Nat), (M : Nat), rs, wh, e⟩ := ⟨_, rfl⟩
  have hE : encL ⟨(F : Nat), (S : Nat), (M : Nat), rs, wh, e⟩ = magic ++ (enc F ++ (enc S ++ (enc M ++ X))) := by
    unfold encL headOf
    simp only [Int.toNat_natCast, ← hX, List.append_assoc]
  have h1 := take_enc F (enc S ++ (enc M ++ X)) (by omega)
  have h2 := take_enc S (enc M ++ X) (by omega)
  have h3 := take_enc M X (by omega)
  have hl0 : 0 ≤ lastOf 0 rs ∧ lastOf 0 rs ≤ 4611686018427387904 := by
    have key : ∀ (rs : List Rc) (z : Int), (0 ≤ z ∧ z ≤ 4611686018427387904) → RsOk z rs → 0 ≤ lastOf z rs ∧ lastOf z rs ≤ 4611686018427387904 := by
      intro rs
      induction rs with
      | nil => intro z hz _; exact hz
      | cons r t ih => intro z hz h; exact ih r.a ⟨h.1.1.1.1, h.1.1.1.2⟩ h.2
    exact key rs 0 (by omega) hrs
  have hD : decR 0 ⟨(F : Nat), (S : Nat), (M : Nat), [], false, 0⟩ X = some (⟨(F : Nat), (S : Nat), (M : Nat), rs, wh, e⟩, 0) := by
    rw [hX, decR_enc rs 0 _ _ (by omega) rfl hrs]
    unfold endOf
    cases wh with
    | false =>
      obtain rfl : e = 0 := hwe.resolve_left (by simp)
      simp [decR_nil]
    | true =>
      simp only [if_true]
      rw [decR_end hl0.1 rfl (hle rfl) he1]
      simp
  have hmg : (magic ++ (enc F ++ (enc S ++ (enc M ++ X)))).take 4 = magic := take_app (n := 4) (l := magic) rfl
  rw [hE, decL_ok hmg (by rw [drop_app (n := 4) (l := magic) rfl]; exact h1) h2 h3 hHd, hD]
  simp [dec2]
end Go.Proofs.Ytpoifobhbmhelaa
