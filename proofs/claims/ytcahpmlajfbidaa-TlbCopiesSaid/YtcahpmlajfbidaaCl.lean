import Derived.Test.YtcahpmlajfbidaaUq
namespace Go.Proofs.Ytcahpmlajfbidaa
open Go.RowKit
/-- What is not there is nothing. -/
def Ent.clean (e : Ent) : Prop := e.th = false → e = .no
def Tl.clean (T : Tl) : Prop := T.a.clean ∧ T.b.clean ∧ T.c.clean ∧ T.d.clean
theorem clean_no : Ent.no.clean := fun _ => rfl
theorem clean_new {p f : Int} {w : Bool} : Ent.clean ⟨true, p, f, w⟩ := fun h => by cases h
theorem clean_set {T : Tl} (h : T.clean) (i : Int) {e : Ent} (he : e.clean) : (T.set i e).clean := by
  obtain ⟨h1, h2, h3, h4⟩ := h
  unfold Tl.set
  repeat' split
  · exact ⟨he, h2, h3, h4⟩
  · exact ⟨h1, he, h3, h4⟩
  · exact ⟨h1, h2, he, h4⟩
  · exact ⟨h1, h2, h3, he⟩
  · exact ⟨h1, h2, h3, h4⟩
theorem clean_fill {T : Tl} (h : T.clean) (p f : Int) (w : Bool) : (T.fill p f w).clean := by
  unfold Tl.fill
  split
  · exact clean_set (T := { T with next := (T.next + 1) % 4 }) h _ clean_new
  · exact clean_set h _ clean_new
theorem clean_drop {T : Tl} (h : T.clean) (p : Int) : (T.drop p).clean := by
  unfold Tl.drop
  split
  · exact h
  · exact clean_set h _ clean_no
theorem clean_none : Tl.no.clean := ⟨clean_no, clean_no, clean_no, clean_no⟩
theorem clean_act {T : Tl} (h : T.clean) (what p f : Int) (w : Bool) : (T.act what p f w).clean := by
  unfold Tl.act
  repeat' split
  · exact clean_fill h _ _ _
  · exact clean_drop h _
  · exact clean_none
theorem clean_run (l : Nat → Ac) : ∀ k, (Tl.run l k).clean
  | 0 => clean_none
  | k + 1 => clean_act (clean_run l k) _ _ _ _
def hadL (l : List (Nat × Ent)) : Tl := l.foldl (fun U x => U.set (x.1 : Int) x.2) .no
def hadOf {T : Tl} (pre : List T.Item) : Tl := hadL (pre.map (·.1))
theorem hadOf_snoc {T : Tl} (pre : List T.Item) (x : T.Item) : hadOf (pre ++ [x]) = (hadOf pre).set (x.1.1 : Int) x.1.2 := by
  simp [hadOf, hadL, List.foldl_append]
theorem hadL_next : ∀ (l : List (Nat × Ent)) (U : Tl), (l.foldl (fun U x => U.set (x.1 : Int) x.2) U).next = U.next
  | [], _ => rfl
  | x :: l, U => by
    rw [List.foldl_cons, hadL_next l]
    unfold Tl.set
    repeat' split
    all_goals rfl
theorem had_all {T : Tl} (h : T.clean) : hadL (T.seq 4) = { T with next := 0 } := by
  obtain ⟨h1, h2, h3, h4⟩ := h
  obtain ⟨a, b, c, d, n⟩ := T
  simp only at h1 h2 h3 h4
  have k1 := h1
  have k2 := h2
  have k3 := h3
  have k4 := h4
  unfold Ent.clean at k1 k2 k3 k4
  cases ha : a.th <;> cases hb : b.th <;> cases hc : c.th <;> cases hd : d.th <;> simp_all [Tl.seq, hadL, Tl.set, Tl.no]
theorem SrcX.keptNone {w w' : World} {a : Option Addr} {n : Nat} {l : Nat → Ac} (h : SrcX w a n l) (hg : w.grownBy w' none) : SrcX w' a n l := by
  rcases h with h | ⟨b, o, rfl, h⟩
  · exact .inl h
  · by_cases h0 : n = 0
    · exact .inl h0
    · exact .inr ⟨b, o, rfl, fun j hj => rangeAt_of (h j hj) (hg.block b (World.block_lt_of_cell? w _ (h j hj 0 _ rfl)) (by simp))⟩
end Go.Proofs.Ytcahpmlajfbidaa
