/- ref.body whole; records in memory that can be read. -/
import Derived.Test.YtpoifobhbmhelaaL
import Derived.Test.YtpoifobhbmhelaaI
set_option linter.unusedVariables false
set_option linter.unusedSimpArgs false
namespace Go.Proofs.Ytpoifobhbmhelaa
open Go.RowKit
theorem rbody_any (x : Option Addr) (cap : Nat) (l : List UInt8) (last : Int) (w : World) (hs : Go.Proofs.Ytpoifobhbmhelaa.Src w x l) (hcap : l.length ≤ cap) (hl : l.length ≤ 1000000) (h0 : 0 ≤ last) (h1 : last ≤ 4611686018427387904) : Calls Try.prog 39 #[.slice x l.length cap, .int .i64 last] w fun e w' => BodyDo w (decB l last) e w' := by
  by_cases h3 : l.length < 3
  · exact rbody_short x cap l last w hs hcap hl h0 h1 h3
  · obtain ⟨c, t, hlt⟩ : ∃ c t, l = c :: t := by cases l with | nil => simp at h3 | cons c t => exact ⟨c, t, rfl⟩
    cases ht : take t with
    | no => exact rbody_b1no x cap l last w hs hcap hl h0 h1 c t hlt h3 ht
    | soon => exact rbody_b1soon x cap l last w hs hcap hl h0 h1 c t hlt h3 ht
    | num y u =>
      by_cases hy : (y : Int) ≤ 4611686018427387904 - last
      · cases hu : take u with
        | no => exact rbody_b2no x cap l last w hs hcap hl h0 h1 c t hlt h3 y u ht hy hu
        | soon => exact rbody_b2soon x cap l last w hs hcap hl h0 h1 c t hlt h3 y u ht hy hu
        | num n0 v0 =>
          by_cases hn0 : n0 < 65536
          · by_cases hR : Rt (last + y) c.toNat n0 v0.length
            · exact rbody_okR x cap l last w hs hcap hl h0 h1 c t hlt h3 y u ht hy n0 v0 hu hn0 hR
            · by_cases h8 : c.toNat = 8
              · by_cases hn8 : n0 = 0
                · by_cases hv8 : v0.length = 0
                  · exact rbody_ok8 x cap l last w hs hcap hl h0 h1 c t hlt h3 y u ht hy n0 v0 hu hn0 hR h8 hn8 hv8
                  · exact rbody_b4v x cap l last w hs hcap hl h0 h1 c t hlt h3 y u ht hy n0 v0 hu hn0 hR h8 hn8 hv8
                · exact rbody_b4n x cap l last w hs hcap hl h0 h1 c t hlt h3 y u ht hy n0 v0 hu hn0 hR h8 hn8
              · exact rbody_b4k x cap l last w hs hcap hl h0 h1 c t hlt h3 y u ht hy n0 v0 hu hn0 hR h8
          · exact rbody_b3n x cap l last w hs hcap hl h0 h1 c t hlt h3 y u ht hy n0 v0 hu hn0
      · exact rbody_b3y x cap l last w hs hcap hl h0 h1 c t hlt h3 y u ht hy
/-- A record and where its bytes lie. -/
structure Rv where
  a : Int
  k : Int
  n : Int
  b : List UInt8
  x : Option Addr
  c : Nat
abbrev Rv.r (t : Rv) : Rc := ⟨t.a, t.k, t.n, t.b⟩
abbrev Rv.val (t : Rv) : Value := rV t.a t.k t.n t.x t.b.length t.c
abbrev Rv.cells (t : Rv) : List Value := [.int .i64 t.a, .int .i64 t.k, .int .i64 t.n, .slice t.x t.b.length t.c]
structure RvAt (w : World) (b o : Nat) (t : Rv) : Prop where
  c0 : w.cell? ⟨b, o, none⟩ = some (.int .i64 t.a)
  c1 : w.cell? ⟨b, o + 1, none⟩ = some (.int .i64 t.k)
  c2 : w.cell? ⟨b, o + 2, none⟩ = some (.int .i64 t.n)
  c3 : w.cell? ⟨b, o + 3, none⟩ = some (.slice t.x t.b.length t.c)
  s : Go.Proofs.Ytpoifobhbmhelaa.Src w t.x t.b
  le : t.b.length ≤ t.c
theorem RvAt.kept {w w' : World} {b o : Nat} {t : Rv} (h : RvAt w b o t) (hg : w.grownBy w' none) : RvAt w' b o t :=
  ⟨keep_cell hg h.c0, keep_cell hg h.c1, keep_cell hg h.c2, keep_cell hg h.c3, h.s.keptNone hg, h.le⟩
theorem RvAt.ofEq {w : World} {b o o' : Nat} {t : Rv} (h : RvAt w b o t) (e : o = o') : RvAt w b o' t := e ▸ h
/-- A list of records that can be read. -/
def RL (w : World) (a : Option Addr) (ts : List Rv) : Prop :=
  ts = [] ∨ ∃ b o, a = some ⟨b, o, none⟩ ∧ ∀ j (h : j < ts.length), RvAt w b (o + j * 4) ts[j]
theorem RL.kept {w w' : World} {a : Option Addr} {ts : List Rv} (h : RL w a ts) (hg : w.grownBy w' none) : RL w' a ts := by
  rcases h with h | ⟨b, o, ha, h⟩
  · exact .inl h
  · exact .inr ⟨b, o, ha, fun j hj => (h j hj).kept hg⟩
theorem RL.at {w : World} {a : Option Addr} {ts : List Rv} (h : RL w a ts) (j : Nat) (hj : j < ts.length) : ∃ b o, a = some ⟨b, o, none⟩ ∧ RvAt w b (o + j * 4) ts[j] := by
  rcases h with h | ⟨b, o, ha, h⟩
  · subst h; simp at hj
  · exact ⟨b, o, ha, h j hj⟩
theorem RL.nil (w : World) (a : Option Addr) : RL w a [] := .inl rfl
/-- A log's value; a log. -/
abbrev lgV (f s m : Int) (a : Option Addr) (n c : Nat) (wh : Bool) (e : Int) : Value := .agg #[.int .i64 f, .int .i64 s, .int .i64 m, .slice a n c, .bool wh, .int .i64 e]
abbrev rsOf (ts : List Rv) : List Rc := ts.map Rv.r
theorem rsOf_len (ts : List Rv) : (rsOf ts).length = ts.length := List.length_map _
theorem right_yes {a k n : Int} {c : Nat} (h : Rt a k n c) (x : Option Addr) (cap : Nat) (w : World) : Calls Try.prog 40 #[.agg #[.int .i64 a, .int .i64 k, .int .i64 n, .slice x c cap]] w fun e w' => e = .returned (.bool true) ∧ w.grownBy w' none :=
  (right_any a k n x c cap w).mono (fun e w' h' => ⟨by rw [h'.1, decide_eq_true h], h'.2⟩)
theorem right_no {a k n : Int} {c : Nat} (h : ¬ Rt a k n c) (x : Option Addr) (cap : Nat) (w : World) : Calls Try.prog 40 #[.agg #[.int .i64 a, .int .i64 k, .int .i64 n, .slice x c cap]] w fun e w' => e = .returned (.bool false) ∧ w.grownBy w' none :=
  (right_any a k n x c cap w).mono (fun e w' h' => ⟨by rw [h'.1, decide_eq_false h], h'.2⟩)
theorem rright_yes {a k n : Int} {c : Nat} (h : Rt a k n c) (x : Option Addr) (cap : Nat) (w : World) : Calls Try.prog 12 #[.agg #[.int .i64 a, .int .i64 k, .int .i64 n, .slice x c cap]] w fun e w' => e = .returned (.bool true) ∧ w.grownBy w' none :=
  (rright_any a k n x c cap w).mono (fun e w' h' => ⟨by rw [h'.1, decide_eq_true h], h'.2⟩)
theorem rright_no {a k n : Int} {c : Nat} (h : ¬ Rt a k n c) (x : Option Addr) (cap : Nat) (w : World) : Calls Try.prog 12 #[.agg #[.int .i64 a, .int .i64 k, .int .i64 n, .slice x c cap]] w fun e w' => e = .returned (.bool false) ∧ w.grownBy w' none :=
  (rright_any a k n x c cap w).mono (fun e w' h' => ⟨by rw [h'.1, decide_eq_false h], h'.2⟩)
end Go.Proofs.Ytpoifobhbmhelaa
