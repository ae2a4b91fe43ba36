import Derived.Test.YtcahpmlajfbidaaX
namespace Go.Proofs.Ytcahpmlajfbidaa
open Go.RowKit
/-- Two entries do not hold one page. -/
def Ent.no2 (e f : Ent) : Prop := e.th = true → f.th = true → e.page ≠ f.page
def Tl.uniq (T : Tl) : Prop := T.a.no2 T.b ∧ T.a.no2 T.c ∧ T.a.no2 T.d ∧ T.b.no2 T.c ∧ T.b.no2 T.d ∧ T.c.no2 T.d
theorem hit_false {e : Ent} {p : Int} : e.hit p = false ↔ (e.th = true → e.page ≠ p) := by
  unfold Ent.hit
  cases e.th <;> simp
theorem hit_true {e : Ent} {p : Int} : e.hit p = true ↔ e.th = true ∧ e.page = p := by
  unfold Ent.hit
  simp
theorem no2_no (e : Ent) : e.no2 .no := fun _ h => by cases h
theorem no_no2 (e : Ent) : Ent.no.no2 e := fun h => by cases h
theorem no2_new {e : Ent} {p f : Int} {w : Bool} (h : e.hit p = false) : e.no2 ⟨true, p, f, w⟩ := fun h1 _ => hit_false.1 h h1
theorem new_no2 {e : Ent} {p f : Int} {w : Bool} (h : e.hit p = false) : Ent.no2 ⟨true, p, f, w⟩ e := fun _ h1 => Ne.symm (hit_false.1 h h1)
theorem no2_hit {e f : Ent} {p : Int} (h : e.no2 f) (he : e.hit p = true) : f.hit p = false := by
  obtain ⟨h1, h2⟩ := hit_true.1 he
  exact hit_false.2 fun h3 h4 => h h1 h3 (h2.trans h4.symm)
theorem no2_hit' {e f : Ent} {p : Int} (h : e.no2 f) (hf : f.hit p = true) : e.hit p = false := by
  obtain ⟨h1, h2⟩ := hit_true.1 hf
  exact hit_false.2 fun h3 h4 => h h3 h1 (h4.trans h2.symm)
theorem uniq_no : Tl.no.uniq := ⟨no_no2 _, no_no2 _, no_no2 _, no_no2 _, no_no2 _, no_no2 _⟩
/-- What 'find' tells of the slots. -/
theorem find_spec (T : Tl) (p : Int) :
    (T.find p = -1 ∧ T.a.hit p = false ∧ T.b.hit p = false ∧ T.c.hit p = false ∧ T.d.hit p = false) ∨ (T.find p = 0 ∧ T.a.hit p = true) ∨ (T.find p = 1 ∧ T.a.hit p = false ∧ T.b.hit p = true) ∨
    (T.find p = 2 ∧ T.a.hit p = false ∧ T.b.hit p = false ∧ T.c.hit p = true) ∨ (T.find p = 3 ∧ T.a.hit p = false ∧ T.b.hit p = false ∧ T.c.hit p = false ∧ T.d.hit p = true) := by
  unfold Tl.find
  cases ha : T.a.hit p <;> cases hb : T.b.hit p <;> cases hc : T.c.hit p <;> cases hd : T.d.hit p <;> simp
theorem uniq_fill {T : Tl} (h : T.uniq) (hg : T.good) (p f : Int) (w : Bool) : (T.fill p f w).uniq := by
  obtain ⟨hab, hac, had, hbc, hbd, hcd⟩ := h
  rcases find_spec T p with ⟨e, ha, hb, hc, hd⟩ | ⟨e, ha⟩ | ⟨e, ha, hb⟩ | ⟨e, ha, hb, hc⟩ | ⟨e, ha, hb, hc, hd⟩
  · unfold Tl.fill
    rw [e, if_pos (by omega)]
    rcases hg with e2 | e2 | e2 | e2 <;> rw [e2]
    · exact ⟨new_no2 hb, new_no2 hc, new_no2 hd, hbc, hbd, hcd⟩
    · exact ⟨no2_new ha, hac, had, new_no2 hc, new_no2 hd, hcd⟩
    · exact ⟨hab, no2_new ha, had, no2_new hb, hbd, new_no2 hd⟩
    · exact ⟨hab, hac, no2_new ha, hbc, no2_new hb, no2_new hc⟩
  · unfold Tl.fill
    rw [e, if_neg (by omega)]
    exact ⟨new_no2 (no2_hit hab ha), new_no2 (no2_hit hac ha), new_no2 (no2_hit had ha), hbc, hbd, hcd⟩
  · unfold Tl.fill
    rw [e, if_neg (by omega)]
    exact ⟨no2_new ha, hac, had, new_no2 (no2_hit hbc hb), new_no2 (no2_hit hbd hb), hcd⟩
  · unfold Tl.fill
    rw [e, if_neg (by omega)]
    exact ⟨hab, no2_new ha, had, no2_new hb, hbd, new_no2 (no2_hit hcd hc)⟩
  · unfold Tl.fill
    rw [e, if_neg (by omega)]
    exact ⟨hab, hac, no2_new ha, hbc, no2_new hb, no2_new hc⟩
theorem uniq_drop {T : Tl} (h : T.uniq) (p : Int) : (T.drop p).uniq := by
  obtain ⟨hab, hac, had, hbc, hbd, hcd⟩ := h
  unfold Tl.drop
  rcases T.find_cases p with e | e | e | e | e
  · rw [e, if_pos (by omega)]; exact ⟨hab, hac, had, hbc, hbd, hcd⟩
  · rw [e, if_neg (by omega)]; exact ⟨no_no2 _, no_no2 _, no_no2 _, hbc, hbd, hcd⟩
  · rw [e, if_neg (by omega)]; exact ⟨no2_no _, hac, had, no_no2 _, no_no2 _, hcd⟩
  · rw [e, if_neg (by omega)]; exact ⟨hab, no2_no _, had, no2_no _, hbd, no_no2 _⟩
  · rw [e, if_neg (by omega)]; exact ⟨hab, hac, no2_no _, hbc, no2_no _, no2_no _⟩
/-- Behind a drop the page is in no slot. -/
theorem drop_gone {T : Tl} (h : T.uniq) (p : Int) : (T.drop p).a.hit p = false ∧ (T.drop p).b.hit p = false ∧ (T.drop p).c.hit p = false ∧ (T.drop p).d.hit p = false := by
  obtain ⟨hab, hac, had, hbc, hbd, hcd⟩ := h
  have hn : Ent.no.hit p = false := rfl
  unfold Tl.drop
  rcases find_spec T p with ⟨e, ha, hb, hc, hd⟩ | ⟨e, ha⟩ | ⟨e, ha, hb⟩ | ⟨e, ha, hb, hc⟩ | ⟨e, ha, hb, hc, hd⟩
  · rw [e, if_pos (by omega)]; exact ⟨ha, hb, hc, hd⟩
  · rw [e, if_neg (by omega)]; exact ⟨hn, no2_hit hab ha, no2_hit hac ha, no2_hit had ha⟩
  · rw [e, if_neg (by omega)]; exact ⟨ha, hn, no2_hit hbc hb, no2_hit hbd hb⟩
  · rw [e, if_neg (by omega)]; exact ⟨ha, hb, hn, no2_hit hcd hc⟩
  · rw [e, if_neg (by omega)]; exact ⟨ha, hb, hc, hn⟩
/-- The page's entry stands in a slot, alone, and so many slots were filled behind it. -/
def Tl.Last (T : Tl) (page frame : Int) (c : Nat) : Prop :=
  (T.a = ⟨true, page, frame, true⟩ ∧ T.b.hit page = false ∧ T.c.hit page = false ∧ T.d.hit page = false ∧ T.next = (0 + 1 + c) % 4) ∨
  (T.b = ⟨true, page, frame, true⟩ ∧ T.a.hit page = false ∧ T.c.hit page = false ∧ T.d.hit page = false ∧ T.next = (1 + 1 + c) % 4) ∨
  (T.c = ⟨true, page, frame, true⟩ ∧ T.a.hit page = false ∧ T.b.hit page = false ∧ T.d.hit page = false ∧ T.next = (2 + 1 + c) % 4) ∨
  (T.d = ⟨true, page, frame, true⟩ ∧ T.a.hit page = false ∧ T.b.hit page = false ∧ T.c.hit page = false ∧ T.next = (3 + 1 + c) % 4)
theorem last_new {T : Tl} (h : T.uniq) (hg : T.good) (page frame : Int) : ((T.drop page).fill page frame true).Last page frame 0 := by
  obtain ⟨ha, hb, hc, hd⟩ := drop_gone h page
  have hg2 := Tl.good_drop hg page
  generalize T.drop page = U at *
  have e : U.find page = -1 := by simp [Tl.find, ha, hb, hc, hd]
  unfold Tl.fill
  rw [e, if_pos (by omega)]
  rcases hg2 with e2 | e2 | e2 | e2 <;> rw [e2]
  · exact .inl ⟨rfl, hb, hc, hd, rfl⟩
  · exact .inr (.inl ⟨rfl, ha, hc, hd, rfl⟩)
  · exact .inr (.inr (.inl ⟨rfl, ha, hb, hd, rfl⟩))
  · exact .inr (.inr (.inr ⟨rfl, ha, hb, hc, rfl⟩))
theorem last_look {T : Tl} {page frame : Int} {c : Nat} (h : T.Last page frame c) : T.look page = ⟨true, page, frame, true⟩ ∧ T.has page = true := by
  have hy : Ent.hit ⟨true, page, frame, true⟩ page = true := by simp [Ent.hit]
  rcases h with ⟨e, h1, h2, h3, _⟩ | ⟨e, h1, h2, h3, _⟩ | ⟨e, h1, h2, h3, _⟩ | ⟨e, h1, h2, h3, _⟩
  · have hf : T.find page = 0 := by simp [Tl.find, e, hy]
    exact ⟨by unfold Tl.look; rw [hf]; exact e, by simp [Tl.has, hf]⟩
  · have hf : T.find page = 1 := by simp [Tl.find, e, hy, h1]
    exact ⟨by unfold Tl.look; rw [hf]; exact e, by simp [Tl.has, hf]⟩
  · have hf : T.find page = 2 := by simp [Tl.find, e, hy, h1, h2]
    exact ⟨by unfold Tl.look; rw [hf]; exact e, by simp [Tl.has, hf]⟩
  · have hf : T.find page = 3 := by simp [Tl.find, e, hy, h1, h2, h3]
    exact ⟨by unfold Tl.look; rw [hf]; exact e, by simp [Tl.has, hf]⟩
theorem new_hit {p page f : Int} {w : Bool} (h : p ≠ page) : Ent.hit ⟨true, p, f, w⟩ page = false := by simp [Ent.hit, h]
/-- One fill more of another page. -/
theorem last_fill {T : Tl} {page frame p f : Int} {w : Bool} {c : Nat} (h : T.Last page frame c) (hc : c < 3) (hp : p ≠ page) : ∃ c', c' ≤ c + 1 ∧ (T.fill p f w).Last page frame c' := by
  have hn : Ent.hit ⟨true, p, f, w⟩ page = false := new_hit hp
  have hy : Ent.hit ⟨true, page, frame, true⟩ p = false := new_hit (Ne.symm hp)
  have hz : ∀ {e : Ent}, e = ⟨true, page, frame, true⟩ → e.hit p = true → False := fun e1 e2 => by rw [e1, hy] at e2; cases e2
  obtain rfl | rfl | rfl : c = 0 ∨ c = 1 ∨ c = 2 := by omega
  all_goals
    rcases find_spec T p with ⟨e, ha, hb, hc, hd⟩ | ⟨e, ha⟩ | ⟨e, ha, hb⟩ | ⟨e, ha, hb, hc⟩ | ⟨e, ha, hb, hc, hd⟩ <;> rcases h with ⟨e0, h1, h2, h3, e4⟩ | ⟨e0, h1, h2, h3, e4⟩ | ⟨e0, h1, h2, h3, e4⟩ | ⟨e0, h1, h2, h3, e4⟩ <;>
      first
        | exact (hz e0 ‹_›).elim
        | (refine ⟨_, Nat.le_succ _, ?_⟩
           unfold Tl.fill Tl.Last
           rw [e]
           simp only [if_neg (show ¬ ((0 : Int) < 0) by omega), if_neg (show ¬ ((1 : Int) < 0) by omega), if_neg (show ¬ ((2 : Int) < 0) by omega), if_neg (show ¬ ((3 : Int) < 0) by omega)]
           simp_all [Tl.set]
           done)
        | (refine ⟨_, Nat.le_refl _, ?_⟩
           unfold Tl.fill Tl.Last
           rw [e, if_pos (by omega)]
           simp_all [Tl.set]
           done)
end Go.Proofs.Ytcahpmlajfbidaa
