/- Lists of records that were made; what reading a log tells, step by step. -/
import Derived.Test.YtpoifobhbmhelaaZ
set_option linter.unusedVariables false
set_option linter.unusedSimpArgs false
namespace Go.Proofs.Ytpoifobhbmhelaa
open Go.RowKit
theorem decR_nil (z : Int) (l : Lg) : decR z l [] = some (l, 0) := by rw [decR]; simp
theorem decR_wh {z : Int} {l : Lg} {left : List UInt8} (h : left ≠ []) (hw : l.wh = true) : decR z l left = none := by rw [decR, if_neg h, if_pos hw]
theorem decR_no {z : Int} {l : Lg} {left : List UInt8} (h : left ≠ []) (ht : take left = .no) : decR z l left = none := by
  rw [decR, if_neg h]
  split
  · rfl
  · split
    · rfl
    · rename_i h1; rw [ht] at h1; cases h1
    · rename_i h1; rw [ht] at h1; cases h1
theorem decR_soon {z : Int} {l : Lg} {left : List UInt8} (h : left ≠ []) (hw : l.wh = false) (ht : take left = .soon) : decR z l left = some (l, left.length) := by
  rw [decR, if_neg h, if_neg (by rw [hw]; simp)]
  split
  · rename_i h1; rw [ht] at h1; cases h1
  · rfl
  · rename_i h1; rw [ht] at h1; cases h1
theorem decR_num {z : Int} {l : Lg} {left rest : List UInt8} {n : Nat} (h : left ≠ []) (hw : l.wh = false) (ht : take left = .num n rest) : decR z l left = if n ≤ rest.length then (match decB (rest.take n) z with | none => none | some r => decR r.a (if r.k = 8 then { l with wh := true, e := r.a } else { l with rs := l.rs ++ [r] }) (rest.drop n)) else some (l, left.length) := by
  rw [decR, if_neg h, if_neg (by rw [hw]; simp)]
  split
  · rename_i h1; rw [ht] at h1; cases h1
  · rename_i h1; rw [ht] at h1; cases h1
  · rename_i h1; rw [ht] at h1; cases h1; rfl
theorem decR_short {z : Int} {l : Lg} {left rest : List UInt8} {n : Nat} (h : left ≠ []) (hw : l.wh = false) (ht : take left = .num n rest) (hn : ¬ n ≤ rest.length) : decR z l left = some (l, left.length) := by rw [decR_num h hw ht, if_neg hn]
theorem decR_bad {z : Int} {l : Lg} {left rest : List UInt8} {n : Nat} (h : left ≠ []) (hw : l.wh = false) (ht : take left = .num n rest) (hn : n ≤ rest.length) (hb : decB (rest.take n) z = none) : decR z l left = none := by rw [decR_num h hw ht, if_pos hn, hb]
theorem decR_8 {z : Int} {l : Lg} {left rest : List UInt8} {n : Nat} {r : Rc} (h : left ≠ []) (hw : l.wh = false) (ht : take left = .num n rest) (hn : n ≤ rest.length) (hb : decB (rest.take n) z = some r) (h8 : r.k = 8) : decR z l left = decR r.a { l with wh := true, e := r.a } (rest.drop n) := by rw [decR_num h hw ht, if_pos hn, hb]; simp [h8]
theorem decR_ok {z : Int} {l : Lg} {left rest : List UInt8} {n : Nat} {r : Rc} (h : left ≠ []) (hw : l.wh = false) (ht : take left = .num n rest) (hn : n ≤ rest.length) (hb : decB (rest.take n) z = some r) (h8 : ¬ r.k = 8) : decR z l left = decR r.a { l with rs := l.rs ++ [r] } (rest.drop n) := by rw [decR_num h hw ht, if_pos hn, hb]; simp [h8]
/-- What a body's record is. -/
theorem decB_bd {b : List UInt8} {z : Int} {r : Rc} (h : decB b z = some r) (hz : 0 ≤ z ∧ z ≤ 4611686018427387904) : z ≤ r.a ∧ r.a ≤ 4611686018427387904 ∧ ((r.k = 8 ∧ r.n = 0 ∧ r.b = []) ∨ (r.Ok ∧ r.k ≠ 8)) := by
  unfold decB at h
  split at h
  · cases h
  · split at h
    · split at h
      · split at h
        · rename_i hc
          cases h
          refine ⟨by simp only; omega, by have := hc.1.1; simp only; omega, ?_⟩
          rcases hc.2 with h1 | h1
          · right
            refine ⟨h1, fun e => ?_⟩
            have h2 : Rt _ _ _ _ := h1
            simp only at e
            rw [e] at h2
            exact rt_8 h2
          · left
            exact ⟨by simp; exact_mod_cast h1.1, by simp [h1.2.1], List.length_eq_zero_iff.1 h1.2.2⟩
        · cases h
      · cases h
    · cases h
/-- A made list of records. -/
structure Made (w0 W : World) (v : Value) (ts : List Rv) : Prop where
  g : Gs eR W v ts.length (ts.flatMap Rv.cells)
  r : ∀ k, rowOf v = some k → w0.heap.size ≤ k
  b : ∀ t ∈ ts, Gs eB W (.slice t.x t.b.length t.c) t.b.length (bsV t.b)
theorem Made.nil (w0 W : World) : Made w0 W (.slice none 0 0) [] := ⟨Gs.nil eR W, fun k h => (by cases h), fun t h => (by cases h)⟩
theorem Made.kept {w0 W W' : World} {v : Value} {ts : List Rv} (h : Made w0 W v ts) (hg : W.grownBy W' none) : Made w0 W' v ts := ⟨h.g.keptNone hg, h.r, fun t ht => (h.b t ht).keptNone hg⟩
/-- A write to a block of another kind leaves it. -/
theorem Made.other {w0 W W' : World} {v : Value} {ts : List Rv} (h : Made w0 W v ts) {T : Nat} {cs : Array Value} {ty : TypeId} (hT : W.heap[T]? = some (.cells cs ty (0, 0))) (h1 : ty ≠ 25) (h2 : ty ≠ 5) (hg : W.grownBy W' (some T)) : Made w0 W' v ts :=
  ⟨h.g.kept hg (fun k e1 e2 => h.g.ne hT h1 (e1.trans e2)), h.r, fun t ht => (h.b t ht).kept hg (fun k e1 e2 => (h.b t ht).ne hT h2 (e1.trans e2))⟩
theorem cells_len (t : Rv) : t.cells.length = 4 := rfl
theorem flat_len : ∀ (ts : List Rv), (ts.flatMap Rv.cells).length = ts.length * 4
  | [] => rfl
  | t :: r => by rw [List.flatMap_cons, List.length_append, flat_len r, cells_len, List.length_cons]; omega
theorem flat_get : ∀ (ts : List Rv) (j i : Nat) (hj : j < ts.length), i < 4 → (ts.flatMap Rv.cells)[j * 4 + i]? = ts[j].cells[i]?
  | t :: r, 0, i, hj, hi => by
    rw [List.flatMap_cons, Nat.zero_mul, Nat.zero_add, List.getElem?_append_left (by rw [cells_len]; exact hi)]
    rfl
  | t :: r, j + 1, i, hj, hi => by
    rw [List.flatMap_cons, List.getElem?_append_right (by rw [cells_len]; omega), cells_len, show (j + 1) * 4 + i - 4 = j * 4 + i from by omega, flat_get r j i (by simpa using hj) hi]
    rfl
theorem Made.rl {w0 W : World} {a : Option Addr} {n c : Nat} {ts : List Rv} (h : Made w0 W (.slice a n c) ts) (hn : n = ts.length) : RL W a ts := by
  subst hn
  by_cases h0 : ts = []
  · exact .inl h0
  · obtain ⟨g, o, rfl⟩ := h.g.some_of (by simpa using h0)
    refine .inr ⟨g, o, rfl, fun j hj => ?_⟩
    have hc : ∀ (i : Nat) (v : Value), i < 4 → ts[j].cells[i]? = some v → W.cell? ⟨g, o + j * 4 + i, none⟩ = some v := fun i v hi hv => by
      have := h.g.cell (j * 4 + i) v (by rw [flat_get ts j i hj hi]; exact hv)
      rwa [Nat.add_assoc]
    have hb := h.b ts[j] (List.getElem_mem hj)
    obtain ⟨x', c', hx, hle⟩ := hb.shape
    refine ⟨by have := hc 0 _ (by omega) rfl; simpa using this, hc 1 _ (by omega) rfl, hc 2 _ (by omega) rfl, hc 3 _ (by omega) rfl, hb.toSrc, by cases hx; exact hle⟩
theorem flat_one (t : Rv) : ∀ u ∈ t.cells, u.oneCell' = true := by
  intro u hu
  simp only [Rv.cells, List.mem_cons, List.not_mem_nil, or_false] at hu
  rcases hu with rfl | rfl | rfl | rfl <;> rfl
theorem rec_src (W : World) (t : Rv) : Go.Src Try.prog 4 29 (.slice (some ⟨W.heap.size, 0, none⟩) 1 1) 1 t.cells (W.alloc (.cells t.cells.toArray 25)) := by
  have h : Gs eR (W.alloc (.cells t.cells.toArray 25)) (.slice (some ⟨W.heap.size, 0, none⟩) 1 1) 1 t.cells :=
    ⟨rfl, flat_one t, .inr ⟨W.heap.size, 0, 1, t.cells, rfl, Nat.le_refl _, by simp [maxLen], heap_alloc_new W _, Nat.le_refl _, rfl⟩⟩
  exact Gs.src h
/-- One record more. -/
theorem Made.app {w0 W W2 : World} {v v2 : Value} {ts : List Rv} {t : Rv} (h : Made w0 W v ts) (ht : Gs eB W (.slice t.x t.b.length t.c) t.b.length (bsV t.b)) (hq : Gs eR W2 v2 (ts.length + 1) (ts.flatMap Rv.cells ++ t.cells)) (hg : W.grownBy W2 (rowOf v)) {Z : Nat} (hr : rowOf v2 = rowOf v ∨ rowOf v2 = some Z) (h0 : w0.grownBy W none) (hZ : W.heap.size ≤ Z) :
    Made w0 W2 v2 (ts ++ [t]) ∧ w0.grownBy W2 none := by
  have hne : ∀ u : Rv, Gs eB W (.slice u.x u.b.length u.c) u.b.length (bsV u.b) → Gs eB W2 (.slice u.x u.b.length u.c) u.b.length (bsV u.b) := fun u hu => hu.kept hg (fun k e1 e2 => by
    obtain ⟨cs, hc⟩ := h.g.block k e2.symm
    exact hu.ne hc (by decide) e1)
  refine ⟨⟨?_, fun k hk => ?_, fun u hu => ?_⟩, grown_new3 h0 hg h.r⟩
  · rw [List.length_append, List.flatMap_append]; simpa using hq
  · rcases hr with e | e
    · exact h.r k (e ▸ hk)
    · rw [e] at hk; cases hk; exact Nat.le_trans h0.size hZ
  · rcases List.mem_append.1 hu with hu | hu
    · exact hne u (h.b u hu)
    · obtain rfl : u = t := by simpa using hu
      exact hne u ht
/-- What Decode does. -/
def DecDo (w : World) (r : Lg × Nat × Int) (e : Ending) (w' : World) : Prop :=
  ∃ a c ts, e = .returned (.tuple #[lgV r.1.f r.1.s r.1.m a ts.length c r.1.wh r.1.e, .int .i64 (r.2.1 : Nat), .int .i64 r.2.2]) ∧ rsOf ts = r.1.rs ∧ RL w' a ts ∧ w.grownBy w' none
theorem DecDo.fail {w w' : World} {r : Lg × Nat × Int} {err : Int} (hr : r = (.zero, 0, err)) (hg : w.grownBy w' none) : DecDo w r (.returned (.tuple #[lgV 0 0 0 none 0 0 false 0, .int .i64 0, .int .i64 err])) w' := by
  subst hr
  exact ⟨none, 0, [], rfl, rfl, RL.nil _ _, hg⟩
end Go.Proofs.Ytpoifobhbmhelaa
