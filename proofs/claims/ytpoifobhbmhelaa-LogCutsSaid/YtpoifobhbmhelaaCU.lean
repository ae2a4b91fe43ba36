/- LogCuts: the stage's theorem, plain, and the walk. -/
import Derived.Test.YtpoifobhbmhelaaAH
import Derived.Test.YtpoifobhbmhelaaBA
import Derived.Test.YtpoifobhbmhelaaAK
set_option linter.unusedVariables false
set_option linter.unusedSimpArgs false
namespace Go.Proofs.Ytpoifobhbmhelaa
theorem decB_enc {b : List UInt8} {z : Int} {r : Rc} (h : decB b z = some r) : b = bodyOf z r.k r.a r.n r.b := by
  cases b with
  | nil => simp [decB] at h
  | cons c t =>
    cases ht : take t with
    | no => simp [decB, ht] at h
    | soon => simp [decB, ht] at h
    | num y u =>
      cases hu : take u with
      | no => simp [decB, ht, hu] at h
      | soon => simp [decB, ht, hu] at h
      | num n v =>
        simp only [decB, ht, hu] at h
        split at h
        · cases h
          have e1 := (take_inv ht).1
          have e2 := (take_inv hu).1
          unfold bodyOf
          rw [show z + (y : Int) - z = (y : Nat) from by omega]
          simp only [Int.toNat_natCast, UInt8.ofNat_toNat]
          rw [e1, e2]
        · cases h
theorem decR_inv : ∀ (N : Nat) (left : List UInt8) (z : Int) (l l' : Lg) (k : Nat), left.length ≤ N → (0 ≤ z ∧ z ≤ 4611686018427387904) → l.wh = false → decR z l left = some (l', k) →
    ∃ (rs : List Rc) (p q : List UInt8), left = p ++ q ∧ q.length = k ∧ RsOk z rs ∧ ((l' = { l with rs := l.rs ++ rs } ∧ p = recsOf z rs) ∨ (∃ e : Int, lastOf z rs ≤ e ∧ (0 ≤ e ∧ e ≤ 4611686018427387904) ∧ l' = { l with rs := l.rs ++ rs, wh := true, e := e } ∧ p = recsOf z rs ++ recOf (lastOf z rs) 8 e 0 [])) := by
  intro N
  induction N with
  | zero =>
    intro left z l l' k hn hz hw h
    obtain rfl := List.eq_nil_of_length_eq_zero (Nat.le_zero.1 hn)
    rw [decR_nil] at h
    cases h
    exact ⟨[], [], [], rfl, rfl, trivial, .inl ⟨by simp, rfl⟩⟩
  | succ N ih =>
    intro left z l l' k hn hz hw h
    by_cases hne : left = []
    · subst hne
      rw [decR_nil] at h
      cases h
      exact ⟨[], [], [], rfl, rfl, trivial, .inl ⟨by simp, rfl⟩⟩
    · cases ht : take left with
      | no => rw [decR_no hne ht] at h; cases h
      | soon =>
        rw [decR_soon hne hw ht] at h
        cases h
        exact ⟨[], [], left, rfl, rfl, trivial, .inl ⟨by simp, rfl⟩⟩
      | num y rest =>
        have hlt := take_lt ht
        by_cases hy : y ≤ rest.length
        · cases hb : decB (rest.take y) z with
          | none => rw [decR_bad hne hw ht hy hb] at h; cases h
          | some r =>
            have hbb := decB_bd hb hz
            have hen := decB_enc hb
            have e1 := (take_inv ht).1
            have hyl : (rest.take y).length = y := by rw [List.length_take]; omega
            have hleft : left = recOf z r.k r.a r.n r.b ++ rest.drop y := by
              unfold recOf
              rw [← hen, hyl, List.append_assoc, List.take_append_drop]
              exact e1
            have hd : (rest.drop y).length ≤ N := by rw [List.length_drop]; omega
            by_cases h8 : r.k = 8
            · rw [decR_8 hne hw ht hy hb h8] at h
              by_cases hdn : rest.drop y = []
              · rw [hdn, decR_nil] at h
                cases h
                have h9 : r.n = 0 ∧ r.b = [] := by
                  rcases hbb.2.2 with h9 | h9
                  · exact h9.2
                  · exact absurd h8 h9.2
                refine ⟨[], recOf z 8 r.a 0 [], [], ?_, rfl, trivial, .inr ⟨r.a, hbb.1, ⟨by omega, hbb.2.1⟩, by simp, by simp [recsOf, lastOf]⟩⟩
                rw [hleft, hdn, h8, h9.1, h9.2]
              · rw [decR_wh hdn rfl] at h
                cases h
            · rw [decR_ok hne hw ht hy hb h8] at h
              obtain ⟨rs, p, q, hp, hq, hrs, hcase⟩ := ih _ r.a { l with rs := l.rs ++ [r] } l' k hd ⟨by omega, hbb.2.1⟩ hw h
              have hro : r.Ok := by
                rcases hbb.2.2 with h9 | h9
                · exact absurd h9.1 h8
                · exact h9.1
              refine ⟨r :: rs, recOf z r.k r.a r.n r.b ++ p, q, by rw [hleft, hp, List.append_assoc], hq, ⟨⟨hro, hbb.1⟩, hrs⟩, ?_⟩
              rcases hcase with ⟨hl, hpp⟩ | ⟨e, he1, he2, hl, hpp⟩
              · refine .inl ⟨by rw [hl]; simp, by rw [hpp]; rfl⟩
              · refine .inr ⟨e, he1, he2, by rw [hl]; simp, ?_⟩
                rw [hpp]
                simp [recsOf, lastOf]
        · rw [decR_short hne hw ht hy] at h
          cases h
          exact ⟨[], [], left, rfl, rfl, trivial, .inl ⟨by simp, rfl⟩⟩
/-- What is read may be, and is told in the same bytes. -/
theorem decL_inv {b : List UInt8} {x : Lg} {n : Nat} (h : decL b = (x, n, 0)) : x.Ok ∧ n ≤ b.length ∧ encL x = b.take n := by
  have hz : ∀ e : Int, e ≠ 0 → ∀ l : Lg, (l, 0, e) ≠ ((x, n, 0) : Lg × Nat × Int) := fun e he l hh => he (by have := congrArg (fun t : Lg × Nat × Int => t.2.2) hh; exact this)
  by_cases hm : b.take 4 = magic
  · cases h1 : take (b.drop 4) with
    | no => rw [decL_f (fun n r e => by rw [h1] at e; cases e)] at h; exact absurd h (hz _ (by decide) _)
    | soon => rw [decL_f (fun n r e => by rw [h1] at e; cases e)] at h; exact absurd h (hz _ (by decide) _)
    | num f u =>
      cases h2 : take u with
      | no => rw [decL_s h1 (fun n r e => by rw [h2] at e; cases e)] at h; exact absurd h (hz _ (by decide) _)
      | soon => rw [decL_s h1 (fun n r e => by rw [h2] at e; cases e)] at h; exact absurd h (hz _ (by decide) _)
      | num s v =>
        cases h3 : take v with
        | no => rw [decL_m h1 h2 (fun n r e => by rw [h3] at e; cases e)] at h; exact absurd h (hz _ (by decide) _)
        | soon => rw [decL_m h1 h2 (fun n r e => by rw [h3] at e; cases e)] at h; exact absurd h (hz _ (by decide) _)
        | num m w =>
          by_cases hH : Hd f s m
          · rw [decL_ok hm h1 h2 h3 hH] at h
            cases hR : decR 0 ⟨f, s, m, [], false, 0⟩ w with
            | none => rw [hR] at h; exact absurd h (hz _ (by decide) _)
            | some lk =>
              obtain ⟨l, k⟩ := lk
              rw [hR] at h
              have hx : l = x := congrArg (fun t : Lg × Nat × Int => t.1) h
              have hn : b.length - k = n := congrArg (fun t : Lg × Nat × Int => t.2.1) h
              subst hx
              obtain ⟨rs, p, q, hp, hq, hrs, hcase⟩ := decR_inv _ w 0 _ l k (Nat.le_refl _) (by decide) rfl hR
              have e1 := (take_inv h1).1
              have e2 := (take_inv h2).1
              have e3 := (take_inv h3).1
              have hb : b = (magic ++ (enc f ++ (enc s ++ (enc m ++ p)))) ++ q := by
                rw [← List.take_append_drop 4 b, hm, e1, e2, e3, hp]
                simp only [List.append_assoc]
              have hnp : n = (magic ++ (enc f ++ (enc s ++ (enc m ++ p)))).length := by
                have := congrArg List.length hb
                rw [List.length_append, hq] at this
                omega
              have hk : encL l = magic ++ (enc f ++ (enc s ++ (enc m ++ p))) ∧ l.Ok := by
                rcases hcase with ⟨hl, hpp⟩ | ⟨e, he1, he2, hl, hpp⟩
                · subst hl
                  refine ⟨?_, ⟨⟨hH, ⟨Int.le_refl 0, (by decide : (0 : Int) ≤ 4611686018427387904)⟩⟩, .inr rfl⟩, hrs, fun e => by cases e⟩
                  rw [hpp]
                  simp [encL, headOf, endOf]
                · subst hl
                  refine ⟨?_, ⟨⟨hH, he2⟩, .inl rfl⟩, hrs, fun _ => he1⟩
                  rw [hpp]
                  simp [encL, headOf, endOf]
              refine ⟨hk.2, by have h7 := congrArg List.length hb; rw [List.length_append] at h7; omega, ?_⟩
              rw [hk.1, hb, hnp, List.take_left]
          · rw [decL_hd h1 h2 h3 hH] at h
            exact absurd h (hz _ (by decide) _)
  · rw [decL_nm hm] at h
    exact absurd h (hz _ (by decide) _)
/-- A record cut off. -/
theorem rec_cut (bd : List UInt8) (c : Nat) (l : Lg) (z : Int) (hb : bd.length ≤ 2100) (hw : l.wh = false) (hc : c < (enc bd.length ++ bd).length) : ∃ k, decR z l ((enc bd.length ++ bd).take c) = some (l, k) := by
  by_cases h0 : c = 0
  · subst h0
    exact ⟨0, by rw [List.take_zero, decR_nil]⟩
  · have hne : (enc bd.length ++ bd).take c ≠ [] := fun e => by
      have := congrArg List.length e
      rw [List.length_take] at this
      simp only [List.length_nil] at this
      omega
    by_cases h1 : c < (enc bd.length).length
    · have ht : take ((enc bd.length ++ bd).take c) = .soon := by
        rw [List.take_append_of_le_length (Nat.le_of_lt h1)]
        exact take_cut (by omega) h1
      exact ⟨_, decR_soon hne hw ht⟩
    · have e : (enc bd.length ++ bd).take c = enc bd.length ++ bd.take (c - (enc bd.length).length) := by
        rw [List.take_append, List.take_of_length_le (by omega)]
      have ht := take_enc bd.length (bd.take (c - (enc bd.length).length)) (by omega)
      rw [← e] at ht
      exact ⟨_, decR_short hne hw ht (by rw [List.length_append] at hc; rw [List.length_take]; omega)⟩
theorem body_len {z : Int} {r : Rc} (h : r.Ok) (hz : 0 ≤ z) : (bodyOf z r.k r.a r.n r.b).length ≤ 2100 := by
  obtain ⟨⟨k, hk, hk1, hk2⟩, ⟨n, hn, hn2⟩, hb, ha0, ha1⟩ := rc_ok h
  have e1 := enc_len (n := (r.a - z).toNat) (by omega)
  have e2 := enc_short (n := r.n.toNat) (by omega)
  simp only [bodyOf, List.length_cons, List.length_append]
  omega
theorem end_len {z e : Int} (hz : 0 ≤ z) (he : e ≤ 4611686018427387904) : (bodyOf z 8 e 0 []).length ≤ 2100 := by
  have e1 := enc_len (n := (e - z).toNat) (by omega)
  have e2 := enc_short (n := (0 : Int).toNat) (by decide)
  simp only [bodyOf, List.length_cons, List.length_append, List.length_nil]
  omega
theorem decR_cut : ∀ (rs : List Rc) (z : Int) (l : Lg) (c : Nat) (E : List UInt8), 0 ≤ z → l.wh = false → RsOk z rs → (E = [] ∨ ∃ bd : List UInt8, E = enc bd.length ++ bd ∧ bd.length ≤ 2100) → c < (recsOf z rs ++ E).length → ∃ j k, decR z l ((recsOf z rs ++ E).take c) = some ({ l with rs := l.rs ++ rs.take j }, k)
  | [], z, l, c, E, hz, hw, h, hE, hc => by
    rcases hE with rfl | ⟨bd, rfl, hbd⟩
    · simp [recsOf] at hc
    · obtain ⟨k, hk⟩ := rec_cut bd c l z hbd hw (by simpa [recsOf] using hc)
      exact ⟨0, k, by simpa [recsOf] using hk⟩
  | r :: t, z, l, c, E, hz, hw, h, hE, hc => by
    have ha0 : 0 ≤ r.a := h.1.1.1.1
    obtain ⟨B, hB⟩ : ∃ B, B = recOf z r.k r.a r.n r.b := ⟨_, rfl⟩
    have e0 : recsOf z (r :: t) ++ E = B ++ (recsOf r.a t ++ E) := by rw [hB, ← List.append_assoc]; rfl
    rw [e0] at hc ⊢
    by_cases h1 : c < B.length
    · rw [List.take_append_of_le_length (Nat.le_of_lt h1)]
      obtain ⟨k, hk⟩ := rec_cut (bodyOf z r.k r.a r.n r.b) c l z (body_len h.1.1 hz) hw (by rw [hB] at h1; exact h1)
      refine ⟨0, k, ?_⟩
      rw [hB]
      simpa [recOf] using hk
    · have e : (B ++ (recsOf r.a t ++ E)).take c = recsOf z [r] ++ (recsOf r.a t ++ E).take (c - B.length) := by
        rw [List.take_append, List.take_of_length_le (by omega), hB]
        simp [recsOf]
      rw [e, decR_enc [r] z l _ hz hw ⟨h.1, trivial⟩]
      obtain ⟨j, k, hk⟩ := decR_cut t r.a { l with rs := l.rs ++ [r] } (c - B.length) E ha0 hw h.2 hE (by rw [List.length_append] at hc; omega)
      exact ⟨j + 1, k, by rw [show lastOf z [r] = r.a from rfl, hk]; simp⟩
/-- A log's bytes, cut off. -/
theorem decL_cut {l : Lg} (h : l.Ok) {c : Nat} (hc : c < (encL l).length) : (decL ((encL l).take c) = (.zero, 0, 261) ∧ c < 16) ∨ ∃ j m, decL ((encL l).take c) = (⟨l.f, l.s, l.m, l.rs.take j, false, 0⟩, m, 0) ∧ m ≤ c := by
  obtain ⟨f, s, m, rs, wh, e⟩ := l
  obtain ⟨⟨⟨hHd, he0, he1⟩, hwe⟩, hrs, hle⟩ := h
  simp only at hHd he0 he1 hwe hrs hle
  obtain ⟨F, rfl⟩ : ∃ F : Nat, f = (F : Nat) := ⟨f.toNat, by have := hHd.1.1.1; omega⟩
  obtain ⟨S, rfl⟩ : ∃ S : Nat, s = (S : Nat) := ⟨s.toNat, by have := hHd.1.2.1; omega⟩
  obtain ⟨M, rfl⟩ : ∃ M : Nat, m = (M : Nat) := ⟨m.toNat, by have := hHd.2.1; omega⟩
  have hF : F ≤ 32 := by have := hHd.1.1.2; omega
  have hS : S ≤ 32 := by have := hHd.1.2.2; omega
  have hM : M ≤ 65536 := by have := hHd.2.2; omega
  obtain ⟨E, hEE⟩ : ∃ E, E = endOf ⟨(F : Nat), (S : Nat), (M : Nat), rs, wh, e⟩ := ⟨_, rfl⟩
  have hl0 : 0 ≤ lastOf 0 rs := by
    have key : ∀ (rs : List Rc) (z : Int), 0 ≤ z → RsOk z rs → 0 ≤ lastOf z rs := by
      intro rs
      induction rs with
      | nil => intro z hz _; exact hz
      | cons r t ih => intro z hz h; exact ih r.a h.1.1.1.1 h.2
    exact key rs 0 (by omega) hrs
  have hE : E = [] ∨ ∃ bd : List UInt8, E = enc bd.length ++ bd ∧ bd.length ≤ 2100 := by
    rw [hEE]
    unfold endOf
    cases wh with
    | false => exact .inl rfl
    | true => exact .inr ⟨_, rfl, end_len hl0 he1⟩
  obtain ⟨X, hX⟩ : ∃ X, X = recsOf 0 rs ++ E := ⟨_, rfl⟩
  have hen : encL ⟨(F : Nat), (S : Nat), (M : Nat), rs, wh, e⟩ = magic ++ (enc F ++ (enc S ++ (enc M ++ X))) := by
    unfold encL headOf
    simp only [Int.toNat_natCast, ← hEE, ← hX, List.append_assoc]
  rw [hen] at hc ⊢
  have l1 := enc_len_le 0 F (by omega)
  have l2 := enc_len_le 0 S (by omega)
  have l3 := enc_short hM
  have l4 : magic.length = 4 := rfl
  have cutF := fun k => take_cut (m := F) (k := k) (by omega)
  have cutS := fun k => take_cut (m := S) (k := k) (by omega)
  have cutM := fun k => take_cut (m := M) (k := k) (by omega)
  by_cases c0 : c < 4
  · refine .inl ⟨decL_nm (fun hh => ?_), by omega⟩
    have := congrArg List.length hh
    rw [List.length_take, List.length_take] at this
    omega
  have e4 : (magic ++ (enc F ++ (enc S ++ (enc M ++ X)))).take c = magic ++ (enc F ++ (enc S ++ (enc M ++ X))).take (c - 4) := by
    rw [List.take_append, List.take_of_length_le (by omega), l4]
  have d4 : ∀ Y : List UInt8, (magic ++ Y).drop 4 = Y := fun Y => drop_app (n := 4) (l := magic) rfl
  rw [e4]
  obtain ⟨c1, hc1⟩ : ∃ c1, c1 = c - 4 := ⟨_, rfl⟩
  rw [← hc1]
  simp only [List.length_append, l4] at hc
  by_cases hcF : c1 < (enc F).length
  · refine .inl ⟨decL_f (fun n r => ?_), by omega⟩
    rw [d4, List.take_append_of_le_length (Nat.le_of_lt hcF), cutF c1 hcF]
    exact fun e => by cases e
  have eF : (enc F ++ (enc S ++ (enc M ++ X))).take c1 = enc F ++ (enc S ++ (enc M ++ X)).take (c1 - (enc F).length) := by
    rw [List.take_append, List.take_of_length_le (by omega)]
  rw [eF]
  obtain ⟨c2, hc2⟩ : ∃ c2, c2 = c1 - (enc F).length := ⟨_, rfl⟩
  rw [← hc2]
  have tF := take_enc F ((enc S ++ (enc M ++ X)).take c2) (by omega)
  by_cases hcS : c2 < (enc S).length
  · refine .inl ⟨decL_s (by rw [d4]; exact tF) (fun n r => ?_), by omega⟩
    rw [List.take_append_of_le_length (Nat.le_of_lt hcS), cutS c2 hcS]
    exact fun e => by cases e
  have eS : (enc S ++ (enc M ++ X)).take c2 = enc S ++ (enc M ++ X).take (c2 - (enc S).length) := by
    rw [List.take_append, List.take_of_length_le (by omega)]
  rw [eS] at tF ⊢
  obtain ⟨c3, hc3⟩ : ∃ c3, c3 = c2 - (enc S).length := ⟨_, rfl⟩
  rw [← hc3] at tF ⊢
  have tS := take_enc S ((enc M ++ X).take c3) (by omega)
  by_cases hcM : c3 < (enc M).length
  · refine .inl ⟨decL_m (by rw [d4]; exact tF) tS (fun n r => ?_), by omega⟩
    rw [List.take_append_of_le_length (Nat.le_of_lt hcM), cutM c3 hcM]
    exact fun e => by cases e
  have eM : (enc M ++ X).take c3 = enc M ++ X.take (c3 - (enc M).length) := by
    rw [List.take_append, List.take_of_length_le (by omega)]
  rw [eM] at tF tS ⊢
  obtain ⟨c4, hc4⟩ : ∃ c4, c4 = c3 - (enc M).length := ⟨_, rfl⟩
  rw [← hc4] at tF tS ⊢
  have tM := take_enc M (X.take c4) (by omega)
  obtain ⟨j, k, hk⟩ := decR_cut rs 0 ⟨(F : Nat), (S : Nat), (M : Nat), [], false, 0⟩ c4 E (by omega) rfl hrs hE (by rw [← hX]; omega)
  rw [← hX] at hk
  have hmg : (magic ++ (enc F ++ (enc S ++ (enc M ++ X.take c4)))).take 4 = magic := take_app (n := 4) (l := magic) rfl
  refine .inr ⟨j, _, by rw [decL_ok hmg (by rw [d4]; exact tF) tS tM hHd, hk]; simp only [dec2, List.nil_append]; rfl, ?_⟩
  simp only [List.length_append, List.length_take, l4]
  omega
end Go.Proofs.Ytpoifobhbmhelaa
set_option linter.unusedVariables false
set_option linter.unusedSimpArgs false
namespace Go.Proofs.Ytpoifobhbmhelaa
open Go.RowKit
theorem few_yes {f s m : Int} {a : Option Addr} {n c : Nat} {ts : List Rv} {wh : Bool} {e : Int} {w : World} (hn : n = ts.length) (hs : RL w a ts) (h : fewS ts ≤ 20000) : Calls Try.prog 19 #[lgV f s m a n c wh e] w fun e' w' => e' = .returned (.bool true) ∧ w.grownBy w' none := by
  have h1 := few_any f s m a c ts wh e w hs (by have := fewS_len ts; omega)
  rw [decide_eq_true h, ← hn] at h1
  exact h1
theorem few_no {f s m : Int} {a : Option Addr} {n c : Nat} {ts : List Rv} {wh : Bool} {e : Int} {w : World} (hn : n = ts.length) (hs : RL w a ts) (hm : n ≤ 9223372036854775807) (h : ¬ fewS ts ≤ 20000) : Calls Try.prog 19 #[lgV f s m a n c wh e] w fun e' w' => e' = .returned (.bool false) ∧ w.grownBy w' none := by
  have h1 := few_any f s m a c ts wh e w hs (by omega)
  rw [decide_eq_false h, ← hn] at h1
  exact h1
theorem few_len {ts : List Rv} (h : fewS ts ≤ 20000) : ts.length ≤ 400 := by have := fewS_len ts; omega
theorem few_bytes : ∀ {ts : List Rv}, fewS ts ≤ 20000 → ∀ t ∈ ts, t.b.length ≤ 1000000
  | [], _, t, ht => by cases ht
  | u :: r, h, t, ht => by
    simp only [fewS] at h
    rcases List.mem_cons.1 ht with rfl | ht
    · omega
    · exact few_bytes (by omega) t ht
theorem decR_few : ∀ (n : Nat) (left : List UInt8) (z : Int) (l l' : Lg) (k : Nat), left.length ≤ n → decR z l left = some (l', k) → l'.rs.length ≤ l.rs.length + left.length := by
  intro n
  induction n with
  | zero =>
    intro left z l l' k hn h
    obtain rfl := List.eq_nil_of_length_eq_zero (Nat.le_zero.1 hn)
    rw [decR_nil] at h
    cases h
    exact Nat.le_refl _
  | succ n ih =>
    intro left z l l' k hn h
    by_cases hne : left = []
    · subst hne
      rw [decR_nil] at h
      cases h
      exact Nat.le_refl _
    · cases hw : l.wh with
      | true => rw [decR_wh hne hw] at h; cases h
      | false =>
        cases ht : take left with
        | no => rw [decR_no hne ht] at h; cases h
        | soon => rw [decR_soon hne hw ht] at h; cases h; omega
        | num y rest =>
          have hlt := take_lt ht
          by_cases hy : y ≤ rest.length
          · cases hb : decB (rest.take y) z with
            | none => rw [decR_bad hne hw ht hy hb] at h; cases h
            | some r =>
              have hd : (rest.drop y).length ≤ rest.length := by rw [List.length_drop]; omega
              by_cases h8 : r.k = 8
              · rw [decR_8 hne hw ht hy hb h8] at h
                have := ih _ _ _ _ _ (by omega) h
                simp only at this
                omega
              · rw [decR_ok hne hw ht hy hb h8] at h
                have := ih _ _ _ _ _ (by omega) h
                simp only [List.length_append, List.length_cons, List.length_nil] at this
                omega
          · rw [decR_short hne hw ht hy] at h
            cases h
            omega
theorem decL_few (b : List UInt8) : (decL b).1.rs.length ≤ b.length := by
  have hz : ∀ n : Nat, Lg.zero.rs.length ≤ n := fun n => Nat.zero_le _
  unfold decL
  split
  · split
    · rename_i h1
      split
      · rename_i h2
        split
        · rename_i h3
          split
          · split
            · exact hz _
            · rename_i h4
              have e := decR_few _ _ _ _ _ _ (Nat.le_refl _) h4
              have e1 := take_lt h1
              have e2 := take_lt h2
              have e3 := take_lt h3
              simp only [List.length_nil, List.length_drop] at e e1
              simp only
              omega
          · exact hz _
        · exact hz _
      · exact hz _
    · exact hz _
  · exact hz _
set_option maxRecDepth 100000 in
set_option maxHeartbeats 16000000 in
theorem cuts_many1 (f s m : Int) (a : Option Addr) (n c : Nat) (ts : List Rv) (wh : Bool) (e : Int) (cut : Int) (x : Option Addr) (q cap : Nat) (lb : List UInt8) (w : World) (hn : n = ts.length) (hs : RL w a ts) (hq : q = lb.length) (hsb : Go.Proofs.Ytpoifobhbmhelaa.Src w x lb) (hqc : q ≤ cap) (hm : n ≤ 9223372036854775807) (hf : ¬ fewS ts ≤ 20000) : Calls Try.prog 8 #[lgV f s m a n c wh e, .int .i64 cut, .slice x q cap] w fun e w' => e = .returned (.bool true) ∧ w.grownBy w' none := by
  have HA := Lib.hid (World.grownBy_alloc w (boxL f s m a n c wh e) none)
  have HC := Lib.hid (few_no (f := f) (s := s) (m := m) (c := c) (wh := wh) (e := e) hn (hs.kept HA.out) hm hf)
  clear hn hs hm hf hq hsb hqc
  go_enter Try.func8, Try.ntmps8
  go_wp2_with fail
  refine HC.out.mono ?_; rintro e1 w1 ⟨rfl, hg1⟩
  have HG1 := Lib.hid (HA.out.trans hg1)
  clear hg1
  go_wp2_with fail
  refine (works_any _).mono ?_; rintro ez wz ⟨rfl, hgz⟩
  have HGZ := Lib.hid (HG1.out.trans hgz)
  clear hgz
  go_wp2
  go_ret
  exact ⟨rfl, HGZ.out⟩
set_option maxRecDepth 100000 in
set_option maxHeartbeats 16000000 in
theorem cuts_many2 (f s m : Int) (a : Option Addr) (n c : Nat) (ts : List Rv) (wh : Bool) (e : Int) (cut : Int) (x : Option Addr) (q cap : Nat) (lb : List UInt8) (w : World) (hn : n = ts.length) (hs : RL w a ts) (hq : q = lb.length) (hsb : Go.Proofs.Ytpoifobhbmhelaa.Src w x lb) (hqc : q ≤ cap) (hf : fewS ts ≤ 20000) (h5 : 5000 < q) : Calls Try.prog 8 #[lgV f s m a n c wh e, .int .i64 cut, .slice x q cap] w fun e w' => e = .returned (.bool true) ∧ w.grownBy w' none := by
  have HA := Lib.hid (World.grownBy_alloc w (boxL f s m a n c wh e) none)
  have HC := Lib.hid (few_yes (f := f) (s := s) (m := m) (c := c) (wh := wh) (e := e) hn (hs.kept HA.out) hf)
  clear hn hs hf hq hsb hqc
  go_enter Try.func8, Try.ntmps8
  go_wp2_with fail
  refine HC.out.mono ?_; rintro e1 w1 ⟨rfl, hg1⟩
  have HG1 := Lib.hid (HA.out.trans hg1)
  clear hg1
  go_wp2_with fail
  refine (works_any _).mono ?_; rintro ez wz ⟨rfl, hgz⟩
  have HGZ := Lib.hid (HG1.out.trans hgz)
  clear hgz
  go_wp2
  go_ret
  exact ⟨rfl, HGZ.out⟩
set_option maxRecDepth 100000 in
set_option maxHeartbeats 16000000 in
theorem cuts_A (f s m : Int) (a : Option Addr) (n c : Nat) (ts : List Rv) (wh : Bool) (e : Int) (cut : Int) (x : Option Addr) (q cap : Nat) (lb : List UInt8) (w : World) (hn : n = ts.length) (hs : RL w a ts) (hq : q = lb.length) (hsb : Go.Proofs.Ytpoifobhbmhelaa.Src w x lb) (hqc : q ≤ cap) (hf : fewS ts ≤ 20000) (h5 : ¬ 5000 < q) (hno : ¬ (decL lb).2.2 = 0) : Calls Try.prog 8 #[lgV f s m a n c wh e, .int .i64 cut, .slice x q cap] w fun e w' => e = .returned (.bool true) ∧ w.grownBy w' none := by
  have HA := Lib.hid (World.grownBy_alloc w (boxL f s m a n c wh e) none)
  have HB := Lib.hid (heap_alloc_new w (boxL f s m a n c wh e))
  have HS := Lib.hid (hs.kept HA.out)
  have HSB := Lib.hid (hsb.keptNone HA.out)
  have HC := Lib.hid (few_yes (f := f) (s := s) (m := m) (c := c) (wh := wh) (e := e) hn HS.out hf)
  have HN := Lib.hid hn
  have HQ := Lib.hid hq
  have HQC := Lib.hid hqc
  have HQ5 := Lib.hid (show q ≤ 5000 from by omega)
  have HNL := Lib.hid (show ts.length ≤ 400 from few_len hf)
  have HBD := Lib.hid (show bdS ts ≤ 20000 from Nat.le_trans (bdS_few ts hf) hf)
  obtain ⟨⟨⟨F, S, M, rs, WH, E⟩, N, no⟩, hD⟩ : ∃ D, D = decL lb := ⟨_, rfl⟩
  have hdec := fun (W : World) (h : Go.Proofs.Ytpoifobhbmhelaa.Src W x lb) => decode_any x cap lb W h (by rw [← hq]; exact hqc) (by omega)
  simp only [← hq, ← hD] at hdec
  have HDEC := Lib.hid hdec
  have HD := Lib.hid hD
  rw [← hD] at hno
  have hno : ¬ no = 0 := hno
  clear hn hs hf hq hsb hqc hdec hD
  go_enter Try.func8, Try.ntmps8
  go_wp2_with fail
  refine HC.out.mono ?_; rintro e1 w1 ⟨rfl, hg1⟩
  have HG1 := Lib.hid (HA.out.trans hg1)
  have HB1 := Lib.hid (keep_blk hg1 HB.out)
  have HS1 := Lib.hid (HS.out.kept hg1)
  have HSB1 := Lib.hid (HSB.out.keptNone hg1)
  clear hg1 HC
  go_wp2_with fail
  refine (HDEC.out _ HSB1.out).mono ?_; rintro e2 w2 ⟨a2, c2, ts2, rfl, hts2, hrl2, hg2⟩
  simp only at hts2
  have hn2 : ts2.length = rs.length := by rw [← hts2]; simp [rsOf]
  obtain ⟨q2, hq2⟩ : ∃ q2, q2 = rs.length := ⟨_, rfl⟩
  simp only [hn2, ← hq2]
  have HGt := Lib.hid (HG1.out.trans (hg2.trans (World.grownBy_alloc w2 (boxL F S M a2 q2 c2 WH E) none)))
  have HBt := Lib.hid (keep_blk (hg2.trans (World.grownBy_alloc w2 (boxL F S M a2 q2 c2 WH E) none)) HB1.out)
  have HSt := Lib.hid (HS1.out.kept (hg2.trans (World.grownBy_alloc w2 (boxL F S M a2 q2 c2 WH E) none)))
  clear hts2 hrl2 hg2 hn2 hq2
  have k0 := cells_all HBt.out 0
  have k1 := cells_all HBt.out 1
  have k2 := cells_all HBt.out 2
  have k3 := cells_all HBt.out 3
  have k4 := cells_all HBt.out 4
  have k5 := cells_all HBt.out 5
  simp only [List.getElem?_toArray, List.getElem?_cons_zero, List.getElem?_cons_succ] at k0 k1 k2 k3 k4 k5
  go_wp2_with fail
  refine (num_any no _).mono ?_; rintro e3 w3 ⟨rfl, rfl⟩
  go_wp2_with fail
  clear hno
  by_cases hok : (⟨f, s, m, rsOf ts, wh, e⟩ : Lg).Ok
  · have HOK := Lib.hid hok
    obtain ⟨R, hR⟩ : ∃ R, R = encL ⟨f, s, m, rsOf ts, wh, e⟩ := ⟨_, rfl⟩
    have HR := Lib.hid hR
    obtain ⟨NC, hNC⟩ : ∃ N, N = R.length := ⟨_, rfl⟩
    have HNR := Lib.hid hNC
    obtain ⟨DD, hDD⟩ : ∃ D, D = 32 + bdS ts := ⟨_, rfl⟩
    have HDD := Lib.hid hDD
    have HLE := Lib.hid (show NC ≤ DD from by rw [hNC, hR, hDD]; exact encL_len hok)
    have HNB := Lib.hid (show NC ≤ 30000 from by have := HLE.out; have := HBD.out; omega)
    have HDL := Lib.hid (show decL R = (⟨f, s, m, rsOf ts, wh, e⟩, NC, 0) from by rw [hNC, hR]; exact decL_encL hok)
    have hC := encode_yes f s m a c ts wh e _ HSt.out HNL.out hok
    rw [← HN.out, ← hR] at hC
    have HC4 := Lib.hid hC
    clear hC hok hR hNC hDD
    clear k0 k1 k2 k3 k4 k5
    refine HC4.out.mono ?_; rintro e4 w4 ⟨v4, rfl, hv, hg4⟩
    obtain ⟨b4, c4, rfl, hbc⟩ := hv.shape
    rw [← HNR.out] at hbc ⊢
    have HBC := Lib.hid hbc
    have HSR4 := Lib.hid (Gs.toSrc hv.1 : Go.Proofs.Ytpoifobhbmhelaa.Src w4 b4 R)
    have HG4 := Lib.hid (HGt.out.trans hg4)
    have HB4 := Lib.hid (keep_blk hg4 HBt.out)
    have HS4 := Lib.hid (HSt.out.kept hg4)
    clear hv hbc hg4 HC4 HGt HBt HSt
    go_wp2_with fail
    refine (num_any 0 _).mono ?_; rintro e5 w5 ⟨rfl, rfl⟩
    have k0 := cells_all HB4.out 0
    have k1 := cells_all HB4.out 1
    have k2 := cells_all HB4.out 2
    have k3 := cells_all HB4.out 3
    have k4 := cells_all HB4.out 4
    have k5 := cells_all HB4.out 5
    simp only [List.getElem?_toArray, List.getElem?_cons_zero, List.getElem?_cons_succ] at k0 k1 k2 k3 k4 k5
    have hC := bound_yes f s m a c ts wh e w4 HS4.out (by have := HNL.out; omega) HOK.out
    rw [← HN.out, ← HDD.out] at hC
    have HC5 := Lib.hid hC
    clear hC
    go_wp2_with fail
    refine HC5.out.mono ?_; rintro e5 w5 ⟨rfl, hg5⟩
    have HG5 := Lib.hid (HG4.out.trans hg5)
    have HB5 := Lib.hid (keep_blk hg5 HB4.out)
    have HS5 := Lib.hid (HS4.out.kept hg5)
    have HSR5 := Lib.hid (HSR4.out.keptNone hg5)
    clear hg5 HC5 HG4 HB4 HS4 HSR4
    clear k0 k1 k2 k3 k4 k5
    have hC := decode_any b4 c4 R w5 HSR5.out (by rw [← HNR.out]; exact HBC.out) (by rw [← HNR.out]; have := HNB.out; omega)
    rw [HDL.out, ← HNR.out] at hC
    have HC6 := Lib.hid hC
    clear hC
    go_wp2_with fail
    refine HC6.out.mono ?_; rintro e6 w6 ⟨a6, c6, ts6, rfl, hts6, hrl6, hg6⟩
    simp only at hts6
    have hn6 : ts6.length = n := by rw [HN.out, ← rsOf_len ts6, hts6, rsOf_len]
    simp only [hn6]
    have HT6 := Lib.hid hts6
    have HN6 := Lib.hid hn6
    have hg6a := hg6.trans (World.grownBy_alloc w6 (boxL f s m a6 n c6 wh e) none)
    have HG6 := Lib.hid (HG5.out.trans hg6a)
    have HB6 := Lib.hid (keep_blk hg6a HB5.out)
    have HS6 := Lib.hid (HS5.out.kept hg6a)
    have HSR6 := Lib.hid (HSR5.out.keptNone hg6a)
    have HRL6 := Lib.hid (hrl6.kept (World.grownBy_alloc w6 (boxL f s m a6 n c6 wh e) none))
    have HX6 := Lib.hid (heap_alloc_new w6 (boxL f s m a6 n c6 wh e))
    clear hts6 hrl6 hg6 hg6a hn6 HC6 HG5 HB5 HS5 HSR5
    have k0 := cells_all HB6.out 0
    have k1 := cells_all HB6.out 1
    have k2 := cells_all HB6.out 2
    have k3 := cells_all HB6.out 3
    have k4 := cells_all HB6.out 4
    have k5 := cells_all HB6.out 5
    simp only [List.getElem?_toArray, List.getElem?_cons_zero, List.getElem?_cons_succ] at k0 k1 k2 k3 k4 k5
    have r0 := cells_all HX6.out 0
    have r1 := cells_all HX6.out 1
    have r2 := cells_all HX6.out 2
    have r3 := cells_all HX6.out 3
    have r4 := cells_all HX6.out 4
    have r5 := cells_all HX6.out 5
    simp only [List.getElem?_toArray, List.getElem?_cons_zero, List.getElem?_cons_succ] at r0 r1 r2 r3 r4 r5
    have hD := rsame_any f s m a6 c6 ts6 wh e f s m a c ts wh e _ HRL6.out HS6.out (by rw [HN6.out, HN.out]; have := HNL.out; omega)
    rw [decide_eq_true (show LgEq f s m ts6 wh e f s m ts wh e from by unfold LgEq; rw [HT6.out])] at hD
    rw [HN6.out, ← HN.out] at hD
    have HD7 := Lib.hid hD
    clear hD
    have hle1 : ¬ DD < NC := by have := HLE.out; omega
    have hle2 : ¬ (DD : Int) < (NC : Int) := by omega
    go_wp2_with fail
    refine (num_any 0 _).mono ?_; rintro e7 w7 ⟨rfl, rfl⟩
    go_wp2_with fail
    refine (num_any 0 _).mono ?_; rintro e7 w7 ⟨rfl, rfl⟩
    go_wp2_with fail
    refine HD7.out.mono ?_; rintro e7 w7 ⟨rfl, hg7⟩
    have HG7 := Lib.hid (HG6.out.trans hg7)
    have HB7 := Lib.hid (keep_blk hg7 HB6.out)
    have HS7 := Lib.hid (HS6.out.kept hg7)
    have HSR7 := Lib.hid (HSR6.out.keptNone hg7)
    clear hg7 hle1 hle2 HD7 HG6 HB6 HS6 HSR6 HRL6 HX6
    clear k0 k1 k2 k3 k4 k5
    clear r0 r1 r2 r3 r4 r5
    by_cases hneg : cut < 0
    · go_wp2_with fail
      refine (works_any _).mono ?_; rintro ez wz ⟨rfl, hgz⟩
      have HGZ := Lib.hid (HG7.out.trans hgz)
      clear hgz
      go_wp2
      go_ret
      exact ⟨rfl, HGZ.out⟩
    · obtain ⟨k, rfl⟩ : ∃ k : Nat, cut = k := ⟨cut.toNat, by omega⟩
      by_cases hbig : NC ≤ k
      · have hbig2 : (NC : Int) ≤ (k : Int) := by omega
        go_wp2_with fail
        refine (works_any _).mono ?_; rintro ez wz ⟨rfl, hgz⟩
        have HGZ := Lib.hid (HG7.out.trans hgz)
        clear hgz
        go_wp2
        go_ret
        exact ⟨rfl, HGZ.out⟩
      · have hbig2 : ¬ (NC : Int) ≤ (k : Int) := by omega
        have HKC := Lib.hid (show k ≤ c4 from by have := HBC.out; omega)
        have hcut := decL_cut HOK.out (c := k) (by rw [← HR.out, ← HNR.out]; omega)
        rw [← HR.out] at hcut
        have hlk : (R.take k).length = k := by rw [List.length_take, ← HNR.out]; omega
        have hC := decode_any b4 c4 (R.take k) w7 (src_take HSR7.out k) (by rw [hlk]; exact HKC.out) (by rw [hlk]; have := HNB.out; omega)
        rw [hlk] at hC
        clear hlk
        have HCU := Lib.hid hcut
        have HC8 := Lib.hid hC
        clear hcut hC
        go_wp2_with (with_reducible refine hold_sl 23 _ _ _ _ rfl ?_)
        apply Lib.hid
        refine wpList_val (by rfl) (exec_sl_hi eB elemB (x := .tmp 127) (y := .tmp 128) rfl b4 NC c4 k rfl rfl HKC.out _) ?_
        clear hbig hbig2 hneg
        go_wp2_with fail
        rcases HCU.out with ⟨hz, h16⟩ | ⟨j, mm, hz, hmk⟩
        · have hC := HC8.out
          rw [hz] at hC
          have HC9 := Lib.hid hC
          clear hC hz HC8 HCU
          refine HC9.out.mono ?_; rintro e8 w8 ⟨a8, c8, ts8, rfl, hts8, hrl8, hg8⟩
          have HG8 := Lib.hid (HG7.out.trans hg8)
          have hn8 : ts8.length = 0 := by rw [← rsOf_len ts8, hts8]; rfl
          simp only [hn8, Lg.zero]
          clear hts8 hrl8 hg8 hn8 HC9
          have HGA := Lib.hid (HG8.out.trans (World.grownBy_alloc w8 (boxL 0 0 0 a8 0 c8 false 0) none))
          have h16i : (k : Int) < 16 := by omega
          go_wp2_with fail
          refine (num_any 261 _).mono ?_; rintro e9 w9 ⟨rfl, rfl⟩
          go_wp2_with fail
          refine (num_any 261 _).mono ?_; rintro e9 w9 ⟨rfl, rfl⟩
          go_wp2_with fail
          refine (works_any _).mono ?_; rintro ez wz ⟨rfl, hgz⟩
          have HGZ := Lib.hid (HGA.out.trans hgz)
          clear hgz
          go_wp2
          go_ret
          exact ⟨rfl, HGZ.out⟩
        · have hC := HC8.out
          rw [hz] at hC
          have HC9 := Lib.hid hC
          clear hC hz HC8 HCU
          refine HC9.out.mono ?_; rintro e8 w8 ⟨a8, c8, ts8, rfl, hts8, hrl8, hg8⟩
          simp only at hts8
          obtain ⟨J, hJ⟩ : ∃ J, J = ts8.length := ⟨_, rfl⟩
          rw [← hJ]
          have HJ := Lib.hid hJ
          have HT8 := Lib.hid hts8
          have HJN := Lib.hid (show J ≤ n from by rw [hJ, ← rsOf_len ts8, hts8, List.length_take, rsOf_len, HN.out]; omega)
          have HGA := Lib.hid (HG7.out.trans (hg8.trans (World.grownBy_alloc w8 (boxL f s m a8 J c8 false 0) none)))
          have HB8 := Lib.hid (keep_blk (hg8.trans (World.grownBy_alloc w8 (boxL f s m a8 J c8 false 0) none)) HB7.out)
          have HS8 := Lib.hid (HS7.out.kept (hg8.trans (World.grownBy_alloc w8 (boxL f s m a8 J c8 false 0) none)))
          have HRL8 := Lib.hid (hrl8.kept (World.grownBy_alloc w8 (boxL f s m a8 J c8 false 0) none))
          have HX8 := Lib.hid (heap_alloc_new w8 (boxL f s m a8 J c8 false 0))
          clear hts8 hrl8 hg8 hJ HC9 HG7 HB7 HS7 HSR7
          have k0 := cells_all HB8.out 0
          have k1 := cells_all HB8.out 1
          have k2 := cells_all HB8.out 2
          have k3 := cells_all HB8.out 3
          have k4 := cells_all HB8.out 4
          have k5 := cells_all HB8.out 5
          simp only [List.getElem?_toArray, List.getElem?_cons_zero, List.getElem?_cons_succ] at k0 k1 k2 k3 k4 k5
          have r0 := cells_all HX8.out 0
          have r1 := cells_all HX8.out 1
          have r2 := cells_all HX8.out 2
          have r3 := cells_all HX8.out 3
          have r4 := cells_all HX8.out 4
          have r5 := cells_all HX8.out 5
          simp only [List.getElem?_toArray, List.getElem?_cons_zero, List.getElem?_cons_succ] at r0 r1 r2 r3 r4 r5
          have hm1 : ¬ k < mm := by omega
          have hm2 : ¬ (k : Int) < (mm : Int) := by omega
          have hj1 : ¬ n < J := by have := HJN.out; omega
          have hj2 : ¬ (n : Int) < (J : Int) := by omega
          go_wp2_with fail
          refine (num_any 0 _).mono ?_; rintro e9 w9 ⟨rfl, rfl⟩
          go_wp2
          clear hm1 hm2 hj1 hj2 hmk
          have HR3 := Lib.hid r3
          have HK3 := Lib.hid k3
          clear k0 k1 k2 k3 k4 k5
          clear r0 r1 r2 r3 r4 r5
          obtain ⟨z8, hz8⟩ : ∃ z, z = w8.heap.size := ⟨_, rfl⟩
          obtain ⟨W8, hW8⟩ : ∃ W, W = w8.alloc (boxL f s m a8 J c8 false 0) := ⟨_, rfl⟩
          rw [← hW8, ← hz8] at HR3
          rw [← hW8] at HK3 HGA HS8 HRL8
          rw [← hW8, ← hz8]
          clear hW8 hz8 HX8 HB8
          go_loopw [22] (fun i wr => ∃ p : Nat, p ≤ J ∧ i = .int .i64 p ∧ W8.grownBy wr none) (fun i _ => J - (intOf i).toNat)
          case atStart => exact ⟨0, Nat.zero_le _, rfl, World.grownBy.refl _ _⟩
          case round =>
            obtain ⟨p, hp, rfl, hg⟩ := hrel
            have HGR := Lib.hid hg
            clear hg
            have k1 := keep_cell HGR.out HR3.out
            have k2 := keep_cell HGR.out HK3.out
            by_cases hlt : p < J
            · have hk1 : p < ts8.length := by have := HJ.out; omega
              have hk2 : p < ts.length := by have := HJN.out; have := HN.out; omega
              have he : ts8[p].r = ts[p].r := by
                have h9 := congrArg (fun l => l[p]?) HT8.out
                have hpj : p < j := by have h8 := congrArg List.length HT8.out; rw [rsOf_len, List.length_take] at h8; omega
                simp only [rsOf, List.getElem?_map, List.getElem?_eq_getElem hk1, List.getElem?_take, if_pos hpj, List.getElem?_eq_getElem hk2, Option.map_some] at h9
                exact Option.some.inj h9
              obtain ⟨g1, o1, rfl, hat1⟩ := (HRL8.out.kept HGR.out).at p hk1
              obtain ⟨g2, o2, rfl, hat2⟩ := (HS8.out.kept HGR.out).at p hk2
              obtain ⟨s1, hs1⟩ : ∃ s, s = ts8[p] := ⟨_, rfl⟩
              obtain ⟨t1, ht1⟩ : ∃ t, t = ts[p] := ⟨_, rfl⟩
              rw [← hs1] at hat1 he
              rw [← ht1] at hat2 he
              clear hs1 ht1
              have hlt' : (p : Int) < (J : Nat) := by omega
              have hwk : IntKind.i64.wrap ((p : Int) + 1) = ((p + 1 : Nat) : Int) := by rw [IntKind.wrap_i64]; have := HJN.out; have := HN.out; have := HNL.out; omega
              obtain ⟨p0, p1, p2, p3, p4, p5⟩ := hat1
              obtain ⟨q0, q1, q2, q3, q4, q5⟩ := hat2
              have HP := Lib.hid (show Go.Proofs.Ytpoifobhbmhelaa.Src wr.drew s1.x s1.b from p4)
              have HQ2 := Lib.hid (show Go.Proofs.Ytpoifobhbmhelaa.Src wr.drew t1.x t1.b from q4)
              have HJ1 := Lib.hid hk1
              have HPN := Lib.hid (show (p : Int) < (n : Nat) from by have := HJN.out; omega)
              have hlt2 := HPN.out
              clear p4 p5 q4 q5 hk1 hk2
              have HY := Lib.hid (sameRec_yes s1 t1 wr.drew HP.out HQ2.out he)
              clear he HP HQ2
              go_wp2
              refine reg_open (none) (n := 12) rfl (by kernel_rfl) ?_
              refine reg_take 0 (some 189) (v := ?_) rfl rfl (by kernel_rfl) (by kernel_rfl) (by kernel_rfl) (fun _ _ _ h => h) (by rfl) ?_ ?_
              rotate_left
              · intro W hW; go_simp; first | done | with_reducible rfl
              try simp only [Act.put, List.setIfInBounds_toArray, List.set_cons_zero, List.set_cons_succ]
              refine reg_take 1 (some 190) (v := ?_) rfl rfl (by kernel_rfl) (by kernel_rfl) (by kernel_rfl) (fun _ _ _ h => h) (by rfl) ?_ ?_
              rotate_left
              · intro W hW; have kk := keep_cell (drewl hW) k1; go_simp; first | done | with_reducible rfl
              try simp only [Act.put, List.setIfInBounds_toArray, List.set_cons_zero, List.set_cons_succ]
              refine reg_take 2 (some 191) (v := ?_) rfl rfl (by kernel_rfl) (by kernel_rfl) (by kernel_rfl) (fun _ _ _ h => h) (by rfl) ?_ ?_
              rotate_left
              · intro W hW; go_simp; first | done | with_reducible rfl
              try simp only [Act.put, List.setIfInBounds_toArray, List.set_cons_zero, List.set_cons_succ]
              refine reg_take 3 (some 192) (v := ?_) rfl rfl (by kernel_rfl) (by kernel_rfl) (by kernel_rfl) (fun _ _ _ h => h) (by rfl) ?_ ?_
              rotate_left
              · intro W hW; go_simp; first | done | with_reducible rfl
              try simp only [Act.put, List.setIfInBounds_toArray, List.set_cons_zero, List.set_cons_succ]
              refine reg_take 4 (some 193) (v := ?_) rfl rfl (by kernel_rfl) (by kernel_rfl) (by kernel_rfl) (fun _ _ _ h => h) (by rfl) ?_ ?_
              rotate_left
              · intro W hW; have k0 := keep_cell (drewl hW) p0; have k3 := keep_cell (drewl hW) p1; have k4 := keep_cell (drewl hW) p2; have k5 := keep_cell (drewl hW) p3; go_simp; first | done | with_reducible rfl
              try simp only [Act.put, List.setIfInBounds_toArray, List.set_cons_zero, List.set_cons_succ]
              refine reg_take 5 (some 194) (v := ?_) rfl rfl (by kernel_rfl) (by kernel_rfl) (by kernel_rfl) (fun _ _ _ h => h) (by rfl) ?_ ?_
              rotate_left
              · intro W hW; go_simp; first | done | with_reducible rfl
              try simp only [Act.put, List.setIfInBounds_toArray, List.set_cons_zero, List.set_cons_succ]
              refine reg_take 6 (some 195) (v := ?_) rfl rfl (by kernel_rfl) (by kernel_rfl) (by kernel_rfl) (fun _ _ _ h => h) (by rfl) ?_ ?_
              rotate_left
              · intro W hW; have kk := keep_cell (drewl hW) k2; go_simp; first | done | with_reducible rfl
              try simp only [Act.put, List.setIfInBounds_toArray, List.set_cons_zero, List.set_cons_succ]
              refine reg_take 7 (some 196) (v := ?_) rfl rfl (by kernel_rfl) (by kernel_rfl) (by kernel_rfl) (fun _ _ _ h => h) (by rfl) ?_ ?_
              rotate_left
              · intro W hW; go_simp; first | done | with_reducible rfl
              try simp only [Act.put, List.setIfInBounds_toArray, List.set_cons_zero, List.set_cons_succ]
              refine reg_take 8 (some 197) (v := ?_) rfl rfl (by kernel_rfl) (by kernel_rfl) (by kernel_rfl) (fun _ _ _ h => h) (by rfl) ?_ ?_
              rotate_left
              · intro W hW; go_simp; first | done | with_reducible rfl
              try simp only [Act.put, List.setIfInBounds_toArray, List.set_cons_zero, List.set_cons_succ]
              refine reg_take 9 (some 198) (v := ?_) rfl rfl (by kernel_rfl) (by kernel_rfl) (by kernel_rfl) (fun _ _ _ h => h) (by rfl) ?_ ?_
              rotate_left
              · intro W hW; have k0 := keep_cell (drewl hW) q0; have k3 := keep_cell (drewl hW) q1; have k4 := keep_cell (drewl hW) q2; have k5 := keep_cell (drewl hW) q3; go_simp; first | done | with_reducible rfl
              try simp only [Act.put, List.setIfInBounds_toArray, List.set_cons_zero, List.set_cons_succ]
              refine wpAnyH_ready (rs := [10]) (by kernel_rfl) (by simp) ?_
              refine (AllReadyH.cons (o := { dst := some 199, op := Op.call { callee := Callee.value (Operand.func 22), args := #[Operand.tmp 193, Operand.tmp 198], argTypes := #[25, 25] }, type := 4, pos := "law.go:136", after := #[{ on := 4, ground := Ground.data }, { on := 9, ground := Ground.data }], guard := none }) rfl (fun K hK => ?_) AllReadyH.nil)
              go_simp
              refine HY.out.mono ?_; rintro ew w9 ⟨rfl, hw9⟩
              refine reg_next hK hw9 ?_
              clear hK K
              try simp only [Act.put, List.setIfInBounds_toArray, List.set_cons_zero, List.set_cons_succ]
              refine reg_take 11 (some 200) (v := ?_) rfl rfl (by kernel_rfl) (by kernel_rfl) (by kernel_rfl) (fun _ _ _ h => h) (by rfl) ?_ ?_
              rotate_left
              · intro W hW; go_simp; first | done | with_reducible rfl
              try simp only [Act.put, List.setIfInBounds_toArray, List.set_cons_zero, List.set_cons_succ]
              refine wpAnyH_done (by kernel_rfl) ?_ _
              have HW9 := Lib.hid (drewl hw9)
              clear hw9
              go_wp2
              go_roundw
              case rel => exact ⟨p + 1, by omega, rfl, HGR.out.trans HW9.out⟩
              case measure => simp [intOf]; omega
            · have hlt' : ¬ (p : Int) < (J : Nat) := by omega
              have HGB := Lib.hid (HGA.out.trans HGR.out)
              go_wp2_with fail
              refine (works_any _).mono ?_; rintro ez wz ⟨rfl, hgz⟩
              have HGZ := Lib.hid (HGB.out.trans hgz)
              clear hgz
              go_wp2
              go_ret
              exact ⟨rfl, HGZ.out⟩
  · have hC := encode_no f s m a c ts wh e _ HSt.out (by have := HNL.out; omega) hok
    rw [← HN.out] at hC
    have HC4 := Lib.hid hC
    clear hC hok
    clear k0 k1 k2 k3 k4 k5
    refine HC4.out.mono ?_; rintro e4 w4 ⟨rfl, hg4⟩
    have HG4 := Lib.hid (HGt.out.trans hg4)
    clear hg4 HC4
    go_wp2_with fail
    refine (num_any 260 _).mono ?_; rintro e5 w5 ⟨rfl, rfl⟩
    go_wp2_with fail
    refine (works_any _).mono ?_; rintro ez wz ⟨rfl, hgz⟩
    have HGZ := Lib.hid (HG4.out.trans hgz)
    clear hgz
    go_wp2
    go_ret
    exact ⟨rfl, HGZ.out⟩
end Go.Proofs.Ytpoifobhbmhelaa
set_option linter.unusedVariables false
set_option linter.unusedSimpArgs false
namespace Go.Proofs.Ytpoifobhbmhelaa
open Go.RowKit
set_option maxRecDepth 100000 in
set_option maxHeartbeats 16000000 in
theorem cuts_B (f s m : Int) (a : Option Addr) (n c : Nat) (ts : List Rv) (wh : Bool) (e : Int) (cut : Int) (x : Option Addr) (q cap : Nat) (lb : List UInt8) (w : World) (hn : n = ts.length) (hs : RL w a ts) (hq : q = lb.length) (hsb : Go.Proofs.Ytpoifobhbmhelaa.Src w x lb) (hqc : q ≤ cap) (hf : fewS ts ≤ 20000) (h5 : ¬ 5000 < q) (hno : (decL lb).2.2 = 0) : Calls Try.prog 8 #[lgV f s m a n c wh e, .int .i64 cut, .slice x q cap] w fun e w' => e = .returned (.bool true) ∧ w.grownBy w' none := by
  have HA := Lib.hid (World.grownBy_alloc w (boxL f s m a n c wh e) none)
  have HB := Lib.hid (heap_alloc_new w (boxL f s m a n c wh e))
  have HS := Lib.hid (hs.kept HA.out)
  have HSB := Lib.hid (hsb.keptNone HA.out)
  have HC := Lib.hid (few_yes (f := f) (s := s) (m := m) (c := c) (wh := wh) (e := e) hn HS.out hf)
  have HN := Lib.hid hn
  have HQ := Lib.hid hq
  have HQC := Lib.hid hqc
  have HQ5 := Lib.hid (show q ≤ 5000 from by omega)
  have HNL := Lib.hid (show ts.length ≤ 400 from few_len hf)
  have HBD := Lib.hid (show bdS ts ≤ 20000 from Nat.le_trans (bdS_few ts hf) hf)
  obtain ⟨⟨⟨F, S, M, rs, WH, E⟩, N, no⟩, hD⟩ : ∃ D, D = decL lb := ⟨_, rfl⟩
  have hdec := fun (W : World) (h : Go.Proofs.Ytpoifobhbmhelaa.Src W x lb) => decode_any x cap lb W h (by rw [← hq]; exact hqc) (by omega)
  simp only [← hq, ← hD] at hdec
  have HDEC := Lib.hid hdec
  have HD := Lib.hid hD
  rw [← hD] at hno
  obtain rfl : no = 0 := hno
  clear hn hs hf hq hsb hqc hdec hD
  go_enter Try.func8, Try.ntmps8
  go_wp2_with fail
  refine HC.out.mono ?_; rintro e1 w1 ⟨rfl, hg1⟩
  have HG1 := Lib.hid (HA.out.trans hg1)
  have HB1 := Lib.hid (keep_blk hg1 HB.out)
  have HS1 := Lib.hid (HS.out.kept hg1)
  have HSB1 := Lib.hid (HSB.out.keptNone hg1)
  clear hg1 HC
  go_wp2_with fail
  refine (HDEC.out _ HSB1.out).mono ?_; rintro e2 w2 ⟨a2, c2, ts2, rfl, hts2, hrl2, hg2⟩
  simp only at hts2
  have hn2 : ts2.length = rs.length := by rw [← hts2]; simp [rsOf]
  obtain ⟨q2, hq2⟩ : ∃ q2, q2 = rs.length := ⟨_, rfl⟩
  simp only [hn2, ← hq2]
  have HGt := Lib.hid (HG1.out.trans (hg2.trans (World.grownBy_alloc w2 (boxL F S M a2 q2 c2 WH E) none)))
  have HBt := Lib.hid (keep_blk (hg2.trans (World.grownBy_alloc w2 (boxL F S M a2 q2 c2 WH E) none)) HB1.out)
  have HSt := Lib.hid (HS1.out.kept (hg2.trans (World.grownBy_alloc w2 (boxL F S M a2 q2 c2 WH E) none)))
  obtain ⟨hxo, hNq, hxe⟩ := decL_inv HD.out.symm
  rw [← hts2] at hxo hxe
  obtain ⟨R2, hR2⟩ : ∃ R2, R2 = lb.take N := ⟨_, rfl⟩
  rw [← hR2] at hxe
  have HR2 := Lib.hid hR2
  have HNq := Lib.hid (show N ≤ q from by rw [HQ.out]; exact hNq)
  have HN2 := Lib.hid (show N = R2.length from by rw [hR2, List.length_take]; omega)
  have HX2 := Lib.hid (heap_alloc_new w2 (boxL F S M a2 q2 c2 WH E))
  have HSBt := Lib.hid (HSB1.out.keptNone (hg2.trans (World.grownBy_alloc w2 (boxL F S M a2 q2 c2 WH E) none)))
  have hl2 : ts2.length ≤ 40000 := by have h9 := decL_few lb; rw [← HD.out, ← HQ.out] at h9; have := HQ5.out; have h8 : rs.length ≤ q := h9; omega
  have hC := encode_yesL F S M a2 c2 ts2 WH E _ (hrl2.kept (World.grownBy_alloc w2 (boxL F S M a2 q2 c2 WH E) none)) hl2 hxo
  rw [hxe, hn2, ← hq2] at hC
  have HC3 := Lib.hid hC
  clear hts2 hrl2 hg2 hn2 hq2 hC hl2 hxo hNq hxe hR2
  have k0 := cells_all HX2.out 0
  have k1 := cells_all HX2.out 1
  have k2 := cells_all HX2.out 2
  have k3 := cells_all HX2.out 3
  have k4 := cells_all HX2.out 4
  have k5 := cells_all HX2.out 5
  simp only [List.getElem?_toArray, List.getElem?_cons_zero, List.getElem?_cons_succ] at k0 k1 k2 k3 k4 k5
  go_wp2_with fail
  refine (num_any 0 _).mono ?_; rintro e3 w3 ⟨rfl, rfl⟩
  go_wp2_with fail
  refine HC3.out.mono ?_; rintro e3 w3 ⟨v3, rfl, hv, hg3⟩
  obtain ⟨b3, c3, rfl, -⟩ := hv.shape
  rw [← HN2.out]
  have HSX := Lib.hid (Gs.toSrc hv.1 : Go.Proofs.Ytpoifobhbmhelaa.Src w3 b3 R2)
  have HGu := Lib.hid (HGt.out.trans hg3)
  have HBu := Lib.hid (keep_blk hg3 HBt.out)
  have HSu := Lib.hid (HSt.out.kept hg3)
  have HSBu := Lib.hid (HSBt.out.keptNone hg3)
  clear hv hg3 HC3 HGt HBt HSt HSBt HX2
  clear k0 k1 k2 k3 k4 k5
  have HNC := Lib.hid (show N ≤ cap from Nat.le_trans HNq.out HQC.out)
  have hz1 : ¬ (N : Int) < 0 := by omega
  have hz2 : ¬ (q : Int) < (N : Int) := by have := HNq.out; omega
  have hz3 : ¬ q < N := by omega
  go_wp2
  refine reg_open (none) (n := 22) rfl (by kernel_rfl) ?_
  refine reg_take 0 (some 46) (v := ?_) rfl rfl (by kernel_rfl) (by kernel_rfl) (by kernel_rfl) (fun _ _ _ h => h) (by rfl) ?_ ?_
  rotate_left
  · intro W hW; go_simp; first | done | with_reducible rfl
  try simp only [Act.put, List.setIfInBounds_toArray, List.set_cons_zero, List.set_cons_succ]
  refine wpAnyH_ready (rs := [1]) (by kernel_rfl) (by simp) ?_
  refine (AllReadyH.cons (o := { dst := some 47, op := Op.call { callee := Callee.value (Operand.func 13), args := #[Operand.tmp 46], argTypes := #[32] }, type := 3, pos := "law.go:112", after := #[{ on := 0, ground := Ground.data }], guard := none }) rfl (fun K hK => ?_) AllReadyH.nil)
  go_simp
  refine (num_any 0 _).mono ?_; rintro ew y1 ⟨rfl, rfl⟩
  refine reg_same hK ?_
  clear hK K
  try simp only [Act.put, List.setIfInBounds_toArray, List.set_cons_zero, List.set_cons_succ]
  refine reg_take 2 (some 48) (v := ?_) rfl rfl (by kernel_rfl) (by kernel_rfl) (by kernel_rfl) (fun _ _ _ h => h) (by rfl) ?_ ?_
  rotate_left
  · intro W hW; go_simp; first | done | with_reducible rfl
  try simp only [Act.put, List.setIfInBounds_toArray, List.set_cons_zero, List.set_cons_succ]
  refine reg_take 3 (some 49) (v := ?_) rfl rfl (by kernel_rfl) (by kernel_rfl) (by kernel_rfl) (fun _ _ _ h => h) (by rfl) ?_ ?_
  rotate_left
  · intro W hW; go_simp; first | done | with_reducible rfl
  try simp only [Act.put, List.setIfInBounds_toArray, List.set_cons_zero, List.set_cons_succ]
  refine reg_take 4 (some 50) (v := ?_) rfl rfl (by kernel_rfl) (by kernel_rfl) (by kernel_rfl) (fun _ _ _ h => h) (by rfl) ?_ ?_
  rotate_left
  · intro W hW; go_simp; first | done | with_reducible rfl
  try simp only [Act.put, List.setIfInBounds_toArray, List.set_cons_zero, List.set_cons_succ]
  refine reg_take 5 (some 51) (v := ?_) rfl rfl (by kernel_rfl) (by kernel_rfl) (by kernel_rfl) (fun _ _ _ h => h) (by rfl) ?_ ?_
  rotate_left
  · intro W hW; go_simp; first | done | with_reducible rfl
  try simp only [Act.put, List.setIfInBounds_toArray, List.set_cons_zero, List.set_cons_succ]
  refine reg_take 6 (some 52) (v := ?_) rfl rfl (by kernel_rfl) (by kernel_rfl) (by kernel_rfl) (fun _ _ _ h => h) (by rfl) ?_ ?_
  rotate_left
  · intro W hW; go_simp; first | done | with_reducible rfl
  try simp only [Act.put, List.setIfInBounds_toArray, List.set_cons_zero, List.set_cons_succ]
  refine reg_take 7 (some 53) (v := ?_) rfl rfl (by kernel_rfl) (by kernel_rfl) (by kernel_rfl) (fun _ _ _ h => h) (by rfl) ?_ ?_
  rotate_left
  · intro W hW; go_simp; first | done | with_reducible rfl
  try simp only [Act.put, List.setIfInBounds_toArray, List.set_cons_zero, List.set_cons_succ]
  refine reg_take 8 (some 54) (v := ?_) rfl rfl (by kernel_rfl) (by kernel_rfl) (by kernel_rfl) (fun _ _ _ h => h) (by rfl) ?_ ?_
  rotate_left
  · intro W hW; go_simp; first | done | with_reducible rfl
  try simp only [Act.put, List.setIfInBounds_toArray, List.set_cons_zero, List.set_cons_succ]
  refine reg_take 9 (some 55) (v := ?_) rfl rfl (by kernel_rfl) (by kernel_rfl) (by kernel_rfl) (fun _ _ _ h => h) (by rfl) ?_ ?_
  rotate_left
  · intro W hW; go_simp; first | done | with_reducible rfl
  try simp only [Act.put, List.setIfInBounds_toArray, List.set_cons_zero, List.set_cons_succ]
  refine reg_take 10 (some 56) (v := ?_) rfl rfl (by kernel_rfl) (by kernel_rfl) (by kernel_rfl) (fun _ _ _ h => h) (by rfl) ?_ ?_
  rotate_left
  · intro W hW; go_simp; first | done | with_reducible rfl
  try simp only [Act.put, List.setIfInBounds_toArray, List.set_cons_zero, List.set_cons_succ]
  refine reg_take 11 (some 57) (v := ?_) rfl rfl (by kernel_rfl) (by kernel_rfl) (by kernel_rfl) (fun _ _ _ h => h) (by rfl) ?_ ?_
  rotate_left
  · intro W hW; go_simp; first | done | with_reducible rfl
  try simp only [Act.put, List.setIfInBounds_toArray, List.set_cons_zero, List.set_cons_succ]
  refine reg_take 12 (some 58) (v := ?_) rfl rfl (by kernel_rfl) (by kernel_rfl) (by kernel_rfl) (fun _ _ _ h => h) (by rfl) ?_ ?_
  rotate_left
  · intro W hW; go_simp; first | done | with_reducible rfl
  try simp only [Act.put, List.setIfInBounds_toArray, List.set_cons_zero, List.set_cons_succ]
  refine reg_take 13 (some 59) (v := ?_) rfl rfl (by kernel_rfl) (by kernel_rfl) (by kernel_rfl) (fun _ _ _ h => h) (by rfl) ?_ ?_
  rotate_left
  · intro W hW; go_simp; first | done | with_reducible rfl
  try simp only [Act.put, List.setIfInBounds_toArray, List.set_cons_zero, List.set_cons_succ]
  refine reg_take 14 (some 60) (v := ?_) rfl rfl (by kernel_rfl) (by kernel_rfl) (by kernel_rfl) (fun _ _ _ h => h) (by rfl) ?_ ?_
  rotate_left
  · intro W hW; go_simp; first | done | with_reducible rfl
  try simp only [Act.put, List.setIfInBounds_toArray, List.set_cons_zero, List.set_cons_succ]
  refine reg_take 15 (some 61) (v := ?_) rfl rfl (by kernel_rfl) (by kernel_rfl) (by kernel_rfl) (fun _ _ _ h => h) (by rfl) ?_ ?_
  rotate_left
  · intro W hW; have kq := conv_srcn (c := c3) HN2.out (HSX.out.keptNone (drewl hW)); go_simp; first | done | with_reducible rfl
  try simp only [Act.put, List.setIfInBounds_toArray, List.set_cons_zero, List.set_cons_succ]
  refine reg_take 16 (some 62) (v := ?_) rfl rfl (by kernel_rfl) (by kernel_rfl) (by kernel_rfl) (fun _ _ _ h => h) (by rfl) ?_ ?_
  rotate_left
  · intro W hW; go_simp; first | done | with_reducible rfl
  try simp only [Act.put, List.setIfInBounds_toArray, List.set_cons_zero, List.set_cons_succ]
  refine reg_take 17 (some 63) (v := ?_) rfl rfl (by kernel_rfl) (by kernel_rfl) (by kernel_rfl) (fun _ _ _ h => h) (by rfl) ?_ ?_
  rotate_left
  · intro W hW; go_simp; first | done | with_reducible rfl
  try simp only [Act.put, List.setIfInBounds_toArray, List.set_cons_zero, List.set_cons_succ]
  refine reg_take 18 (some 64) (v := ?_) rfl rfl (by kernel_rfl) (by kernel_rfl) (by kernel_rfl) (fun _ _ _ h => h) (by rfl) ?_ ?_
  rotate_left
  · intro W hW; refine exec_sl_hi eB elemB (x := .tmp 62) (y := .tmp 63) ?_ x q cap N ?_ ?_ HNC.out _ <;> rfl
  try simp only [Act.put, List.setIfInBounds_toArray, List.set_cons_zero, List.set_cons_succ]
  refine reg_take 19 (some 65) (v := ?_) rfl rfl (by kernel_rfl) (by kernel_rfl) (by kernel_rfl) (fun _ _ _ h => h) (by rfl) ?_ ?_
  rotate_left
  · intro W hW; have kq := conv_srcn (n := N) (c := cap) (show N = (lb.take N).length from by rw [← HR2.out]; exact HN2.out) (src_take (HSBu.out.keptNone (drewl hW)) N); rw [← HR2.out] at kq; go_simp; first | done | with_reducible rfl
  try simp only [Act.put, List.setIfInBounds_toArray, List.set_cons_zero, List.set_cons_succ]
  refine reg_take 20 (some 66) (v := ?_) rfl rfl (by kernel_rfl) (by kernel_rfl) (by kernel_rfl) (fun _ _ _ h => h) (by rfl) ?_ ?_
  rotate_left
  · intro W hW; go_simp; first | done | with_reducible rfl
  try simp only [Act.put, List.setIfInBounds_toArray, List.set_cons_zero, List.set_cons_succ]
  refine reg_take 21 (some 67) (v := ?_) rfl rfl (by kernel_rfl) (by kernel_rfl) (by kernel_rfl) (fun _ _ _ h => h) (by rfl) ?_ ?_
  rotate_left
  · intro W hW; go_simp; first | done | with_reducible rfl
  try simp only [Act.put, List.setIfInBounds_toArray, List.set_cons_zero, List.set_cons_succ]
  refine wpAnyH_done (by kernel_rfl) ?_ _
  have HGt := Lib.hid (HGu.out.trans (drewl (World.grownBy.refl _ _)))
  have HBt := Lib.hid (keep_blk (drewl (World.grownBy.refl _ _)) HBu.out)
  have HSt := Lib.hid (HSu.out.kept (drewl (World.grownBy.refl _ _)))
  clear hz1 hz2 hz3 HGu HBu HSu HSBu HSX
  have k0 := cells_all HBt.out 0
  have k1 := cells_all HBt.out 1
  have k2 := cells_all HBt.out 2
  have k3 := cells_all HBt.out 3
  have k4 := cells_all HBt.out 4
  have k5 := cells_all HBt.out 5
  simp only [List.getElem?_toArray, List.getElem?_cons_zero, List.getElem?_cons_succ] at k0 k1 k2 k3 k4 k5
  go_wp2_with fail
  by_cases hok : (⟨f, s, m, rsOf ts, wh, e⟩ : Lg).Ok
  · have HOK := Lib.hid hok
    obtain ⟨R, hR⟩ : ∃ R, R = encL ⟨f, s, m, rsOf ts, wh, e⟩ := ⟨_, rfl⟩
    have HR := Lib.hid hR
    obtain ⟨NC, hNC⟩ : ∃ N, N = R.length := ⟨_, rfl⟩
    have HNR := Lib.hid hNC
    obtain ⟨DD, hDD⟩ : ∃ D, D = 32 + bdS ts := ⟨_, rfl⟩
    have HDD := Lib.hid hDD
    have HLE := Lib.hid (show NC ≤ DD from by rw [hNC, hR, hDD]; exact encL_len hok)
    have HNB := Lib.hid (show NC ≤ 30000 from by have := HLE.out; have := HBD.out; omega)
    have HDL := Lib.hid (show decL R = (⟨f, s, m, rsOf ts, wh, e⟩, NC, 0) from by rw [hNC, hR]; exact decL_encL hok)
    have hC := encode_yes f s m a c ts wh e _ HSt.out HNL.out hok
    rw [← HN.out, ← hR] at hC
    have HC4 := Lib.hid hC
    clear hC hok hR hNC hDD
    clear k0 k1 k2 k3 k4 k5
    refine HC4.out.mono ?_; rintro e4 w4 ⟨v4, rfl, hv, hg4⟩
    obtain ⟨b4, c4, rfl, hbc⟩ := hv.shape
    rw [← HNR.out] at hbc ⊢
    have HBC := Lib.hid hbc
    have HSR4 := Lib.hid (Gs.toSrc hv.1 : Go.Proofs.Ytpoifobhbmhelaa.Src w4 b4 R)
    have HG4 := Lib.hid (HGt.out.trans hg4)
    have HB4 := Lib.hid (keep_blk hg4 HBt.out)
    have HS4 := Lib.hid (HSt.out.kept hg4)
    clear hv hbc hg4 HC4 HGt HBt HSt
    go_wp2_with fail
    refine (num_any 0 _).mono ?_; rintro e5 w5 ⟨rfl, rfl⟩
    have k0 := cells_all HB4.out 0
    have k1 := cells_all HB4.out 1
    have k2 := cells_all HB4.out 2
    have k3 := cells_all HB4.out 3
    have k4 := cells_all HB4.out 4
    have k5 := cells_all HB4.out 5
    simp only [List.getElem?_toArray, List.getElem?_cons_zero, List.getElem?_cons_succ] at k0 k1 k2 k3 k4 k5
    have hC := bound_yes f s m a c ts wh e w4 HS4.out (by have := HNL.out; omega) HOK.out
    rw [← HN.out, ← HDD.out] at hC
    have HC5 := Lib.hid hC
    clear hC
    go_wp2_with fail
    refine HC5.out.mono ?_; rintro e5 w5 ⟨rfl, hg5⟩
    have HG5 := Lib.hid (HG4.out.trans hg5)
    have HB5 := Lib.hid (keep_blk hg5 HB4.out)
    have HS5 := Lib.hid (HS4.out.kept hg5)
    have HSR5 := Lib.hid (HSR4.out.keptNone hg5)
    clear hg5 HC5 HG4 HB4 HS4 HSR4
    clear k0 k1 k2 k3 k4 k5
    have hC := decode_any b4 c4 R w5 HSR5.out (by rw [← HNR.out]; exact HBC.out) (by rw [← HNR.out]; have := HNB.out; omega)
    rw [HDL.out, ← HNR.out] at hC
    have HC6 := Lib.hid hC
    clear hC
    go_wp2_with fail
    refine HC6.out.mono ?_; rintro e6 w6 ⟨a6, c6, ts6, rfl, hts6, hrl6, hg6⟩
    simp only at hts6
    have hn6 : ts6.length = n := by rw [HN.out, ← rsOf_len ts6, hts6, rsOf_len]
    simp only [hn6]
    have HT6 := Lib.hid hts6
    have HN6 := Lib.hid hn6
    have hg6a := hg6.trans (World.grownBy_alloc w6 (boxL f s m a6 n c6 wh e) none)
    have HG6 := Lib.hid (HG5.out.trans hg6a)
    have HB6 := Lib.hid (keep_blk hg6a HB5.out)
    have HS6 := Lib.hid (HS5.out.kept hg6a)
    have HSR6 := Lib.hid (HSR5.out.keptNone hg6a)
    have HRL6 := Lib.hid (hrl6.kept (World.grownBy_alloc w6 (boxL f s m a6 n c6 wh e) none))
    have HX6 := Lib.hid (heap_alloc_new w6 (boxL f s m a6 n c6 wh e))
    clear hts6 hrl6 hg6 hg6a hn6 HC6 HG5 HB5 HS5 HSR5
    have k0 := cells_all HB6.out 0
    have k1 := cells_all HB6.out 1
    have k2 := cells_all HB6.out 2
    have k3 := cells_all HB6.out 3
    have k4 := cells_all HB6.out 4
    have k5 := cells_all HB6.out 5
    simp only [List.getElem?_toArray, List.getElem?_cons_zero, List.getElem?_cons_succ] at k0 k1 k2 k3 k4 k5
    have r0 := cells_all HX6.out 0
    have r1 := cells_all HX6.out 1
    have r2 := cells_all HX6.out 2
    have r3 := cells_all HX6.out 3
    have r4 := cells_all HX6.out 4
    have r5 := cells_all HX6.out 5
    simp only [List.getElem?_toArray, List.getElem?_cons_zero, List.getElem?_cons_succ] at r0 r1 r2 r3 r4 r5
    have hD := rsame_any f s m a6 c6 ts6 wh e f s m a c ts wh e _ HRL6.out HS6.out (by rw [HN6.out, HN.out]; have := HNL.out; omega)
    rw [decide_eq_true (show LgEq f s m ts6 wh e f s m ts wh e from by unfold LgEq; rw [HT6.out])] at hD
    rw [HN6.out, ← HN.out] at hD
    have HD7 := Lib.hid hD
    clear hD
    have hle1 : ¬ DD < NC := by have := HLE.out; omega
    have hle2 : ¬ (DD : Int) < (NC : Int) := by omega
    go_wp2_with fail
    refine (num_any 0 _).mono ?_; rintro e7 w7 ⟨rfl, rfl⟩
    go_wp2_with fail
    refine (num_any 0 _).mono ?_; rintro e7 w7 ⟨rfl, rfl⟩
    go_wp2_with fail
    refine HD7.out.mono ?_; rintro e7 w7 ⟨rfl, hg7⟩
    have HG7 := Lib.hid (HG6.out.trans hg7)
    have HB7 := Lib.hid (keep_blk hg7 HB6.out)
    have HS7 := Lib.hid (HS6.out.kept hg7)
    have HSR7 := Lib.hid (HSR6.out.keptNone hg7)
    clear hg7 hle1 hle2 HD7 HG6 HB6 HS6 HSR6 HRL6 HX6
    clear k0 k1 k2 k3 k4 k5
    clear r0 r1 r2 r3 r4 r5
    by_cases hneg : cut < 0
    · go_wp2_with fail
      refine (works_any _).mono ?_; rintro ez wz ⟨rfl, hgz⟩
      have HGZ := Lib.hid (HG7.out.trans hgz)
      clear hgz
      go_wp2
      go_ret
      exact ⟨rfl, HGZ.out⟩
    · obtain ⟨k, rfl⟩ : ∃ k : Nat, cut = k := ⟨cut.toNat, by omega⟩
      by_cases hbig : NC ≤ k
      · have hbig2 : (NC : Int) ≤ (k : Int) := by omega
        go_wp2_with fail
        refine (works_any _).mono ?_; rintro ez wz ⟨rfl, hgz⟩
        have HGZ := Lib.hid (HG7.out.trans hgz)
        clear hgz
        go_wp2
        go_ret
        exact ⟨rfl, HGZ.out⟩
      · have hbig2 : ¬ (NC : Int) ≤ (k : Int) := by omega
        have HKC := Lib.hid (show k ≤ c4 from by have := HBC.out; omega)
        have hcut := decL_cut HOK.out (c := k) (by rw [← HR.out, ← HNR.out]; omega)
        rw [← HR.out] at hcut
        have hlk : (R.take k).length = k := by rw [List.length_take, ← HNR.out]; omega
        have hC := decode_any b4 c4 (R.take k) w7 (src_take HSR7.out k) (by rw [hlk]; exact HKC.out) (by rw [hlk]; have := HNB.out; omega)
        rw [hlk] at hC
        clear hlk
        have HCU := Lib.hid hcut
        have HC8 := Lib.hid hC
        clear hcut hC
        go_wp2_with (with_reducible refine hold_sl 23 _ _ _ _ rfl ?_)
        apply Lib.hid
        refine wpList_val (by rfl) (exec_sl_hi eB elemB (x := .tmp 127) (y := .tmp 128) rfl b4 NC c4 k rfl rfl HKC.out _) ?_
        clear hbig hbig2 hneg
        go_wp2_with fail
        rcases HCU.out with ⟨hz, h16⟩ | ⟨j, mm, hz, hmk⟩
        · have hC := HC8.out
          rw [hz] at hC
          have HC9 := Lib.hid hC
          clear hC hz HC8 HCU
          refine HC9.out.mono ?_; rintro e8 w8 ⟨a8, c8, ts8, rfl, hts8, hrl8, hg8⟩
          have HG8 := Lib.hid (HG7.out.trans hg8)
          have hn8 : ts8.length = 0 := by rw [← rsOf_len ts8, hts8]; rfl
          simp only [hn8, Lg.zero]
          clear hts8 hrl8 hg8 hn8 HC9
          have HGA := Lib.hid (HG8.out.trans (World.grownBy_alloc w8 (boxL 0 0 0 a8 0 c8 false 0) none))
          have h16i : (k : Int) < 16 := by omega
          go_wp2_with fail
          refine (num_any 261 _).mono ?_; rintro e9 w9 ⟨rfl, rfl⟩
          go_wp2_with fail
          refine (num_any 261 _).mono ?_; rintro e9 w9 ⟨rfl, rfl⟩
          go_wp2_with fail
          refine (works_any _).mono ?_; rintro ez wz ⟨rfl, hgz⟩
          have HGZ := Lib.hid (HGA.out.trans hgz)
          clear hgz
          go_wp2
          go_ret
          exact ⟨rfl, HGZ.out⟩
        · have hC := HC8.out
          rw [hz] at hC
          have HC9 := Lib.hid hC
          clear hC hz HC8 HCU
          refine HC9.out.mono ?_; rintro e8 w8 ⟨a8, c8, ts8, rfl, hts8, hrl8, hg8⟩
          simp only at hts8
          obtain ⟨J, hJ⟩ : ∃ J, J = ts8.length := ⟨_, rfl⟩
          rw [← hJ]
          have HJ := Lib.hid hJ
          have HT8 := Lib.hid hts8
          have HJN := Lib.hid (show J ≤ n from by rw [hJ, ← rsOf_len ts8, hts8, List.length_take, rsOf_len, HN.out]; omega)
          have HGA := Lib.hid (HG7.out.trans (hg8.trans (World.grownBy_alloc w8 (boxL f s m a8 J c8 false 0) none)))
          have HB8 := Lib.hid (keep_blk (hg8.trans (World.grownBy_alloc w8 (boxL f s m a8 J c8 false 0) none)) HB7.out)
          have HS8 := Lib.hid (HS7.out.kept (hg8.trans (World.grownBy_alloc w8 (boxL f s m a8 J c8 false 0) none)))
          have HRL8 := Lib.hid (hrl8.kept (World.grownBy_alloc w8 (boxL f s m a8 J c8 false 0) none))
          have HX8 := Lib.hid (heap_alloc_new w8 (boxL f s m a8 J c8 false 0))
          clear hts8 hrl8 hg8 hJ HC9 HG7 HB7 HS7 HSR7
          have k0 := cells_all HB8.out 0
          have k1 := cells_all HB8.out 1
          have k2 := cells_all HB8.out 2
          have k3 := cells_all HB8.out 3
          have k4 := cells_all HB8.out 4
          have k5 := cells_all HB8.out 5
          simp only [List.getElem?_toArray, List.getElem?_cons_zero, List.getElem?_cons_succ] at k0 k1 k2 k3 k4 k5
          have r0 := cells_all HX8.out 0
          have r1 := cells_all HX8.out 1
          have r2 := cells_all HX8.out 2
          have r3 := cells_all HX8.out 3
          have r4 := cells_all HX8.out 4
          have r5 := cells_all HX8.out 5
          simp only [List.getElem?_toArray, List.getElem?_cons_zero, List.getElem?_cons_succ] at r0 r1 r2 r3 r4 r5
          have hm1 : ¬ k < mm := by omega
          have hm2 : ¬ (k : Int) < (mm : Int) := by omega
          have hj1 : ¬ n < J := by have := HJN.out; omega
          have hj2 : ¬ (n : Int) < (J : Int) := by omega
          go_wp2_with fail
          refine (num_any 0 _).mono ?_; rintro e9 w9 ⟨rfl, rfl⟩
          go_wp2
          clear hm1 hm2 hj1 hj2 hmk
          have HR3 := Lib.hid r3
          have HK3 := Lib.hid k3
          clear k0 k1 k2 k3 k4 k5
          clear r0 r1 r2 r3 r4 r5
          obtain ⟨z8, hz8⟩ : ∃ z, z = w8.heap.size := ⟨_, rfl⟩
          obtain ⟨W8, hW8⟩ : ∃ W, W = w8.alloc (boxL f s m a8 J c8 false 0) := ⟨_, rfl⟩
          rw [← hW8, ← hz8] at HR3
          rw [← hW8] at HK3 HGA HS8 HRL8
          rw [← hW8, ← hz8]
          clear hW8 hz8 HX8 HB8
          go_loopw [22] (fun i wr => ∃ p : Nat, p ≤ J ∧ i = .int .i64 p ∧ W8.grownBy wr none) (fun i _ => J - (intOf i).toNat)
          case atStart => exact ⟨0, Nat.zero_le _, rfl, World.grownBy.refl _ _⟩
          case round =>
            obtain ⟨p, hp, rfl, hg⟩ := hrel
            have HGR := Lib.hid hg
            clear hg
            have k1 := keep_cell HGR.out HR3.out
            have k2 := keep_cell HGR.out HK3.out
            by_cases hlt : p < J
            · have hk1 : p < ts8.length := by have := HJ.out; omega
              have hk2 : p < ts.length := by have := HJN.out; have := HN.out; omega
              have he : ts8[p].r = ts[p].r := by
                have h9 := congrArg (fun l => l[p]?) HT8.out
                have hpj : p < j := by have h8 := congrArg List.length HT8.out; rw [rsOf_len, List.length_take] at h8; omega
                simp only [rsOf, List.getElem?_map, List.getElem?_eq_getElem hk1, List.getElem?_take, if_pos hpj, List.getElem?_eq_getElem hk2, Option.map_some] at h9
                exact Option.some.inj h9
              obtain ⟨g1, o1, rfl, hat1⟩ := (HRL8.out.kept HGR.out).at p hk1
              obtain ⟨g2, o2, rfl, hat2⟩ := (HS8.out.kept HGR.out).at p hk2
              obtain ⟨s1, hs1⟩ : ∃ s, s = ts8[p] := ⟨_, rfl⟩
              obtain ⟨t1, ht1⟩ : ∃ t, t = ts[p] := ⟨_, rfl⟩
              rw [← hs1] at hat1 he
              rw [← ht1] at hat2 he
              clear hs1 ht1
              have hlt' : (p : Int) < (J : Nat) := by omega
              have hwk : IntKind.i64.wrap ((p : Int) + 1) = ((p + 1 : Nat) : Int) := by rw [IntKind.wrap_i64]; have := HJN.out; have := HN.out; have := HNL.out; omega
              obtain ⟨p0, p1, p2, p3, p4, p5⟩ := hat1
              obtain ⟨q0, q1, q2, q3, q4, q5⟩ := hat2
              have HP := Lib.hid (show Go.Proofs.Ytpoifobhbmhelaa.Src wr.drew s1.x s1.b from p4)
              have HQ2 := Lib.hid (show Go.Proofs.Ytpoifobhbmhelaa.Src wr.drew t1.x t1.b from q4)
              have HJ1 := Lib.hid hk1
              have HPN := Lib.hid (show (p : Int) < (n : Nat) from by have := HJN.out; omega)
              have hlt2 := HPN.out
              clear p4 p5 q4 q5 hk1 hk2
              have HY := Lib.hid (sameRec_yes s1 t1 wr.drew HP.out HQ2.out he)
              clear he HP HQ2
              go_wp2
              refine reg_open (none) (n := 12) rfl (by kernel_rfl) ?_
              refine reg_take 0 (some 189) (v := ?_) rfl rfl (by kernel_rfl) (by kernel_rfl) (by kernel_rfl) (fun _ _ _ h => h) (by rfl) ?_ ?_
              rotate_left
              · intro W hW; go_simp; first | done | with_reducible rfl
              try simp only [Act.put, List.setIfInBounds_toArray, List.set_cons_zero, List.set_cons_succ]
              refine reg_take 1 (some 190) (v := ?_) rfl rfl (by kernel_rfl) (by kernel_rfl) (by kernel_rfl) (fun _ _ _ h => h) (by rfl) ?_ ?_
              rotate_left
              · intro W hW; have kk := keep_cell (drewl hW) k1; go_simp; first | done | with_reducible rfl
              try simp only [Act.put, List.setIfInBounds_toArray, List.set_cons_zero, List.set_cons_succ]
              refine reg_take 2 (some 191) (v := ?_) rfl rfl (by kernel_rfl) (by kernel_rfl) (by kernel_rfl) (fun _ _ _ h => h) (by rfl) ?_ ?_
              rotate_left
              · intro W hW; go_simp; first | done | with_reducible rfl
              try simp only [Act.put, List.setIfInBounds_toArray, List.set_cons_zero, List.set_cons_succ]
              refine reg_take 3 (some 192) (v := ?_) rfl rfl (by kernel_rfl) (by kernel_rfl) (by kernel_rfl) (fun _ _ _ h => h) (by rfl) ?_ ?_
              rotate_left
              · intro W hW; go_simp; first | done | with_reducible rfl
              try simp only [Act.put, List.setIfInBounds_toArray, List.set_cons_zero, List.set_cons_succ]
              refine reg_take 4 (some 193) (v := ?_) rfl rfl (by kernel_rfl) (by kernel_rfl) (by kernel_rfl) (fun _ _ _ h => h) (by rfl) ?_ ?_
              rotate_left
              · intro W hW; have k0 := keep_cell (drewl hW) p0; have k3 := keep_cell (drewl hW) p1; have k4 := keep_cell (drewl hW) p2; have k5 := keep_cell (drewl hW) p3; go_simp; first | done | with_reducible rfl
              try simp only [Act.put, List.setIfInBounds_toArray, List.set_cons_zero, List.set_cons_succ]
              refine reg_take 5 (some 194) (v := ?_) rfl rfl (by kernel_rfl) (by kernel_rfl) (by kernel_rfl) (fun _ _ _ h => h) (by rfl) ?_ ?_
              rotate_left
              · intro W hW; go_simp; first | done | with_reducible rfl
              try simp only [Act.put, List.setIfInBounds_toArray, List.set_cons_zero, List.set_cons_succ]
              refine reg_take 6 (some 195) (v := ?_) rfl rfl (by kernel_rfl) (by kernel_rfl) (by kernel_rfl) (fun _ _ _ h => h) (by rfl) ?_ ?_
              rotate_left
              · intro W hW; have kk := keep_cell (drewl hW) k2; go_simp; first | done | with_reducible rfl
              try simp only [Act.put, List.setIfInBounds_toArray, List.set_cons_zero, List.set_cons_succ]
              refine reg_take 7 (some 196) (v := ?_) rfl rfl (by kernel_rfl) (by kernel_rfl) (by kernel_rfl) (fun _ _ _ h => h) (by rfl) ?_ ?_
              rotate_left
              · intro W hW; go_simp; first | done | with_reducible rfl
              try simp only [Act.put, List.setIfInBounds_toArray, List.set_cons_zero, List.set_cons_succ]
              refine reg_take 8 (some 197) (v := ?_) rfl rfl (by kernel_rfl) (by kernel_rfl) (by kernel_rfl) (fun _ _ _ h => h) (by rfl) ?_ ?_
              rotate_left
              · intro W hW; go_simp; first | done | with_reducible rfl
              try simp only [Act.put, List.setIfInBounds_toArray, List.set_cons_zero, List.set_cons_succ]
              refine reg_take 9 (some 198) (v := ?_) rfl rfl (by kernel_rfl) (by kernel_rfl) (by kernel_rfl) (fun _ _ _ h => h) (by rfl) ?_ ?_
              rotate_left
              · intro W hW; have k0 := keep_cell (drewl hW) q0; have k3 := keep_cell (drewl hW) q1; have k4 := keep_cell (drewl hW) q2; have k5 := keep_cell (drewl hW) q3; go_simp; first | done | with_reducible rfl
              try simp only [Act.put, List.setIfInBounds_toArray, List.set_cons_zero, List.set_cons_succ]
              refine wpAnyH_ready (rs := [10]) (by kernel_rfl) (by simp) ?_
              refine (AllReadyH.cons (o := { dst := some 199, op := Op.call { callee := Callee.value (Operand.func 22), args := #[Operand.tmp 193, Operand.tmp 198], argTypes := #[25, 25] }, type := 4, pos := "law.go:136", after := #[{ on := 4, ground := Ground.data }, { on := 9, ground := Ground.data }], guard := none }) rfl (fun K hK => ?_) AllReadyH.nil)
              go_simp
              refine HY.out.mono ?_; rintro ew w9 ⟨rfl, hw9⟩
              refine reg_next hK hw9 ?_
              clear hK K
              try simp only [Act.put, List.setIfInBounds_toArray, List.set_cons_zero, List.set_cons_succ]
              refine reg_take 11 (some 200) (v := ?_) rfl rfl (by kernel_rfl) (by kernel_rfl) (by kernel_rfl) (fun _ _ _ h => h) (by rfl) ?_ ?_
              rotate_left
              · intro W hW; go_simp; first | done | with_reducible rfl
              try simp only [Act.put, List.setIfInBounds_toArray, List.set_cons_zero, List.set_cons_succ]
              refine wpAnyH_done (by kernel_rfl) ?_ _
              have HW9 := Lib.hid (drewl hw9)
              clear hw9
              go_wp2
              go_roundw
              case rel => exact ⟨p + 1, by omega, rfl, HGR.out.trans HW9.out⟩
              case measure => simp [intOf]; omega
            · have hlt' : ¬ (p : Int) < (J : Nat) := by omega
              have HGB := Lib.hid (HGA.out.trans HGR.out)
              go_wp2_with fail
              refine (works_any _).mono ?_; rintro ez wz ⟨rfl, hgz⟩
              have HGZ := Lib.hid (HGB.out.trans hgz)
              clear hgz
              go_wp2
              go_ret
              exact ⟨rfl, HGZ.out⟩
  · have hC := encode_no f s m a c ts wh e _ HSt.out (by have := HNL.out; omega) hok
    rw [← HN.out] at hC
    have HC4 := Lib.hid hC
    clear hC hok
    clear k0 k1 k2 k3 k4 k5
    refine HC4.out.mono ?_; rintro e4 w4 ⟨rfl, hg4⟩
    have HG4 := Lib.hid (HGt.out.trans hg4)
    clear hg4 HC4
    go_wp2_with fail
    refine (num_any 260 _).mono ?_; rintro e5 w5 ⟨rfl, rfl⟩
    go_wp2_with fail
    refine (works_any _).mono ?_; rintro ez wz ⟨rfl, hgz⟩
    have HGZ := Lib.hid (HG4.out.trans hgz)
    clear hgz
    go_wp2
    go_ret
    exact ⟨rfl, HGZ.out⟩
theorem logCuts_walk (f s m : Int) (a : Option Addr) (c : Nat) (ts : List Rv) (wh : Bool) (e : Int) (cut : Int) (x : Option Addr) (cap : Nat) (lb : List UInt8) (w : World) (hs : RL w a ts) (hm : ts.length ≤ 9223372036854775807) (hsb : Go.Proofs.Ytpoifobhbmhelaa.Src w x lb) (hqc : lb.length ≤ cap) : Calls Try.prog 8 #[lgV f s m a ts.length c wh e, .int .i64 cut, .slice x lb.length cap] w fun e w' => e = .returned (.bool true) ∧ w.grownBy w' none := by
  by_cases hf : fewS ts ≤ 20000
  · by_cases h5 : 5000 < lb.length
    · exact cuts_many2 f s m a _ c ts wh e cut x _ cap lb w rfl hs rfl hsb hqc hf h5
    · by_cases hno : (decL lb).2.2 = 0
      · exact cuts_B f s m a _ c ts wh e cut x _ cap lb w rfl hs rfl hsb hqc hf h5 hno
      · exact cuts_A f s m a _ c ts wh e cut x _ cap lb w rfl hs rfl hsb hqc hf h5 hno
  · exact cuts_many1 f s m a _ c ts wh e cut x _ cap lb w rfl hs rfl hsb hqc hm hf
end Go.Proofs.Ytpoifobhbmhelaa
