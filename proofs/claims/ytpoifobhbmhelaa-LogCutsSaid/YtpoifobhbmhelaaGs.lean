import Derived.Test.YtpoifobhbmhelaaProg
import Derived.Test.YtpoifobhbmhelaaMem
import Derived.Test.YtpoifobhbmhelaaBlk
import Derived.Test.YtpoifobhbmhelaaReg2
import Derived.Deep.DeepFit
import Derived.Deep.MidRow
import Derived.BigQuiet
import Derived.Deep.QuietTactic
import Derived.Lib.Hide
import Derived.Handy
import Derived.Laws.BitsAllLaws
import Derived.Deep.Upon
set_option linter.unusedVariables false
set_option linter.unusedSimpArgs false
namespace Go.Proofs.Ytpoifobhbmhelaa
open Go.RowKit
/-- A slice's type, its elements' type, their cells, bytes, zero. -/
structure El where
  t : TypeId
  e : TypeId
  sz : Nat
  by_ : Nat
  z : Value
  hu : Try.prog.underlying t = some (.slice e)
  hi : (Try.prog.info? e).map (fun i => (i.zero, i.size, i.bytes)) = some (some z, sz, by_)
  hz : z.cells.size = sz
  hp : 0 < sz
  hb : by_ ≤ 64
theorem El.info (E : El) : ∃ i, Try.prog.info? E.e = some i ∧ i.zero = some E.z ∧ i.size = E.sz ∧ i.bytes = E.by_ := by
  have h := E.hi
  cases hi : Try.prog.info? E.e with
  | none => rw [hi] at h; cases h
  | some i =>
    rw [hi] at h
    simp only [Option.map_some, Option.some.injEq, Prod.mk.injEq] at h
    exact ⟨i, rfl, h.1, h.2.1, h.2.2⟩
def eB : El := ⟨23, 5, 1, 1, .int .u8 0, Try.underlying23, by kernel_rfl, rfl, by decide, by decide⟩
def eR : El := ⟨29, 25, 4, 48, .agg #[.int .i64 0, .int .i64 0, .int .i64 0, .slice none 0 0], Try.underlying29, by kernel_rfl, rfl, by decide, by decide⟩
def eI : El := ⟨57, 3, 1, 8, .int .i64 0, Try.underlying57, by kernel_rfl, rfl, by decide, by decide⟩
/-- A slice, wherever it begins in its row: its elements' cells. -/
def Gs (E : El) (w : World) (v : Value) (n : Nat) (vs : List Value) : Prop :=
  vs.length = n * E.sz ∧ (∀ u ∈ vs, u.oneCell' = true) ∧ ((v = .slice none 0 0 ∧ n = 0) ∨ ∃ (g o cap : Nat) (cur : List Value), v = .slice (some ⟨g, o, none⟩) n cap ∧ n ≤ cap ∧ cap ≤ maxLen ∧ w.heap[g]? = some (.cells cur.toArray E.e (0, 0)) ∧ o + cap * E.sz ≤ cur.length ∧ (cur.drop o).take (n * E.sz) = vs)
/-- The row of a slice. -/
def rowOf : Value → Option Nat
  | .slice (some a) _ _ => some a.block
  | _ => none
variable {E : El} {w w' : World} {v : Value} {n : Nat} {vs : List Value}
theorem Gs.nil (E : El) (w : World) : Gs E w (.slice none 0 0) 0 [] := ⟨by simp, by simp, .inl ⟨rfl, rfl⟩⟩
theorem Gs.keeps {X : Nat → Prop} (h : Gs E w v n vs) (hg : Keeps X w w') (hne : ∀ g, rowOf v = some g → ¬ X g) : Gs E w' v n vs := by
  obtain ⟨h0, h1, h | ⟨g, o, cap, cur, rfl, h2, h3, h4, h5, h6⟩⟩ := h
  · exact ⟨h0, h1, .inl h⟩
  · exact ⟨h0, h1, .inr ⟨g, o, cap, cur, rfl, h2, h3, (hg.block g (lt_of_block h4) (hne g rfl)).trans h4, h5, h6⟩⟩
theorem Gs.kept {row : Option Nat} (h : Gs E w v n vs) (hg : w.grownBy w' row) (hne : ∀ g, rowOf v = some g → some g ≠ row) : Gs E w' v n vs :=
  h.keeps (Keeps.of (X := fun k => row = some k) hg (fun r e => e)) (fun g hr e => hne g hr e.symm)
theorem Gs.keptNone (h : Gs E w v n vs) (hg : w.grownBy w' none) : Gs E w' v n vs := h.kept hg (fun _ _ => by simp)
theorem Gs.drew (h : Gs E w v n vs) : Gs E w.drew v n vs := h
theorem Gs.ne (h : Gs E w v n vs) {b : Nat} {cs : Array Value} {t : TypeId} (hb : w.heap[b]? = some (.cells cs t (0, 0))) (ht : t ≠ E.e) : rowOf v ≠ some b := by
  obtain ⟨_, _, ⟨rfl, _⟩ | ⟨g, o, cap, cur, rfl, _, _, h4, _, _⟩⟩ := h
  · intro e; cases e
  · intro e
    cases e
    simp only at hb h4
    rw [h4] at hb
    cases hb
    exact ht rfl
theorem Gs.lt (h : Gs E w v n vs) : ∀ g, rowOf v = some g → g < w.heap.size := by
  obtain ⟨_, _, ⟨rfl, _⟩ | ⟨g, o, cap, cur, rfl, _, _, h4, _, _⟩⟩ := h
  · intro g hg; cases hg
  · intro g' hg; cases hg; exact lt_of_block h4
theorem Gs.block (h : Gs E w v n vs) : ∀ g, rowOf v = some g → ∃ cs : Array Value, w.heap[g]? = some (.cells cs E.e (0, 0)) := by
  obtain ⟨_, _, ⟨rfl, _⟩ | ⟨g, o, cap, cur, rfl, _, _, h4, _, _⟩⟩ := h
  · intro g hg; cases hg
  · intro g' hg; cases hg; exact ⟨_, h4⟩
theorem Gs.shape (h : Gs E w v n vs) : ∃ a cap, v = .slice a n cap ∧ n ≤ cap := by
  obtain ⟨_, _, ⟨rfl, rfl⟩ | ⟨g, o, cap, cur, rfl, h2, _⟩⟩ := h
  · exact ⟨none, 0, rfl, Nat.le_refl _⟩
  · exact ⟨_, cap, rfl, h2⟩
theorem Gs.some_of {a : Option Addr} {cap : Nat} (h : Gs E w (.slice a n cap) n vs) (hn : n ≠ 0) : ∃ g o, a = some ⟨g, o, none⟩ := by
  obtain ⟨_, _, ⟨h0, rfl⟩ | ⟨g, o, cap', cur, h0, _⟩⟩ := h
  · exact absurd rfl hn
  · cases h0; exact ⟨g, o, rfl⟩
theorem Gs.cell {g o cap : Nat} (h : Gs E w (.slice (some ⟨g, o, none⟩) n cap) n vs) (j : Nat) (u : Value) (hj : vs[j]? = some u) : w.cell? ⟨g, o + j, none⟩ = some u := by
  obtain ⟨h0, h1, ⟨h, _⟩ | ⟨g', o', cap', cur, hv, h2, h3, h4, h5, h6⟩⟩ := h
  · cases h
  · cases hv
    rw [cells_all h4]
    have hl : j < n * E.sz := by rw [← h0]; exact (List.getElem?_eq_some_iff.1 hj).1
    rw [← h6, List.getElem?_take_of_lt hl, List.getElem?_drop] at hj
    simpa using hj
theorem Gs.free {g o cap : Nat} (h : Gs E w (.slice (some ⟨g, o, none⟩) n cap) n vs) (j : Nat) : w.frozen? ⟨g, j, none⟩ = false := by
  obtain ⟨h0, h1, ⟨h, _⟩ | ⟨g', o', cap', cur, hv, h2, h3, h4, h5, h6⟩⟩ := h
  · cases h
  · cases hv; exact frozen_all h4 j
/-- What a slice yields to an append. -/
theorem Gs.src (h : Gs E w v n vs) : Go.Src Try.prog E.sz E.t v n vs w := by
  obtain ⟨a, cap, rfl, hle⟩ := h.shape
  by_cases hn : n = 0
  · subst hn
    have hv : vs = [] := List.length_eq_zero_iff.1 (by rw [h.1]; simp)
    subst hv
    cases a with
    | none => exact Go.Src.ofNil w E.hu cap
    | some a => exact Go.Src.ofSlice w E.hu a 0 cap [] (by simp) (fun j u hj => by cases hj) (fun u hu => by cases hu)
  · obtain ⟨g, o, rfl⟩ := h.some_of hn
    exact Go.Src.ofSlice w E.hu ⟨g, o, none⟩ n cap vs h.1 (fun j u hj => by rw [Addr.add_lit]; exact h.cell j u hj) h.2.1
theorem setMany_mid (vs cur : List Value) (o : Nat) (h : o + vs.length ≤ cur.length) (p n : Nat) (hp : p + n = o) : ((setMany cur o vs).drop p).take (n + vs.length) = (cur.drop p).take n ++ vs := by
  rw [setMany_eq vs cur o h, List.append_assoc, List.drop_append_of_le_length (by simp; omega)]
  have hA : List.drop p (List.take o cur) = List.take n (List.drop p cur) := by rw [List.drop_take]; congr 1; omega
  have hl : (List.take n (List.drop p cur)).length = n := by simp; omega
  rw [hA, List.take_append, hl, List.take_of_length_le (by omega), Nat.add_sub_cancel_left, List.take_left]
/-- 'append'. -/
theorem Gs.append_big {x : Value} {m : Nat} {us : List Value} (tx ty : TypeId) (h : Gs E w v n vs) (hs : Go.Src Try.prog E.sz tx x m us w) (hone : ∀ u ∈ us, u.oneCell' = true) (hbig : n + m ≤ 140737488355328) (hlen : (n + m) * E.by_ ≤ 140737488355328) :
    ∃ v' w', (Builtin.append_ #[E.t, tx] ty #[v, x]).run Try.prog w = .ok v' w' ∧ Gs E w' v' (n + m) (vs ++ us) ∧ w.grownBy w' (rowOf v) ∧ (rowOf v' = rowOf v ∨ rowOf v' = some w.heap.size) := by
  obtain ⟨i, hi, hz, hsz, hby⟩ := E.info
  have hs' : Go.Src Try.prog i.size tx x m us w := by rw [hsz]; exact hs
  have hul : us.length = m * E.sz := hs.newsLen
  obtain ⟨a, cap, rfl, hle⟩ := h.shape
  have hvl := h.1
  have hall : ∀ u ∈ vs ++ us, u.oneCell' = true := fun u hu => (List.mem_append.1 hu).elim (h.2.1 u) (hone u)
  by_cases hb : m = 0
  · subst hb
    have hu : us = [] := List.length_eq_zero_iff.1 (by rw [hul]; simp)
    subst hu
    have hr := run_append_nothing (P := Try.prog) w E.t tx ty E.e i E.hu hi a n cap hle x hs'
    exact ⟨_, _, hr, by rw [List.append_nil]; exact h, World.grownBy.refl _ _, .inl rfl⟩
  have hp := E.hp
  by_cases hroom : n + m ≤ cap
  · obtain ⟨h0, h1, ⟨hv0, hn0⟩ | ⟨g, o, cap', cur, hv, h2, h3, h4, h5, h6⟩⟩ := id h
    · injection hv0 with e0 e1 e2
      omega
    · injection hv with e0 e1 e2
      subst e0 e2
      have hmul : n * E.sz + m * E.sz ≤ cap * E.sz := by rw [← Nat.add_mul]; exact Nat.mul_le_mul_right _ hroom
      have hc : ∀ j, j < us.length → (w.cell? ⟨g, o + n * i.size + j, none⟩).isSome = true := by
        intro j hj
        rw [cells_all h4, hsz]
        simp
        omega
      have hr := run_append_room_src (P := Try.prog) w E.t tx ty E.e i E.hu hi g o n cap x m us hs' hroom hc (fun j _ => frozen_all h4 _)
      rw [hsz] at hr
      have hw := heap_setCells us (o + n * E.sz) cur w h4
      refine ⟨_, _, hr, ⟨by rw [List.length_append, hvl, hul, Nat.add_mul], hall, .inr ⟨g, o, cap, setMany cur (o + n * E.sz) us, rfl, hroom, h3, hw, ?_, ?_⟩⟩, grown_setCells us (o + n * E.sz) w, .inl rfl⟩
      · rw [setMany_eq _ _ _ (by omega)]
        simp
        omega
      · rw [Nat.add_mul, ← hul, setMany_mid us cur (o + n * E.sz) (by omega) o (n * E.sz) rfl, h6]
  · have hold : (Builtin.firstCells i.size n (.slice a n cap)).run Try.prog w.drew = .ok vs.toArray w.drew := by
      have := h.src.cellsD
      rw [hsz]
      exact this
    have hr := run_append_grow_src (P := Try.prog) w E.t tx ty E.e i E.z E.hu hi hz a n cap vs hold x m us hs' (by omega) (by omega) (growslice_fits (by omega) (by rw [hby]; exact hlen))
    have hge := grownCap_ge w (n + m) cap E.e
    have hcm := grownCap_le_maxLen w (n + m) cap E.e (by simp only [maxLen]; omega)
    generalize grownCap w (n + m) cap E.e = cap' at *
    have hzc : (Builtin.zeroCells E.z.cells (cap' - (n + m))).size = (cap' - (n + m)) * E.sz := by rw [size_zeroCells, E.hz]
    refine ⟨_, _, hr, ⟨by rw [List.length_append, hvl, hul, Nat.add_mul], hall, .inr ⟨w.heap.size, 0, cap', vs ++ us ++ (Builtin.zeroCells E.z.cells (cap' - (n + m))).toList, rfl, hge, hcm, ?_, ?_, ?_⟩⟩, ⟨rfl, rfl, rfl, by simp, fun k hk _ => heap_alloc_old w.drew _ hk⟩, .inr rfl⟩
    · have := heap_alloc_new w.drew (.cells ((vs ++ us).toArray ++ Builtin.zeroCells E.z.cells (cap' - (n + m))) E.e)
      refine this.trans ?_
      congr 2
      apply Array.ext'
      simp
    · simp only [List.length_append, hvl, hul, Array.length_toList, hzc]
      rw [← Nat.add_mul, ← Nat.add_mul, Nat.zero_add, show n + m + (cap' - (n + m)) = cap' from by omega]
      exact Nat.le_refl _
    · rw [List.drop_zero]
      exact List.take_left' (by rw [List.length_append, hvl, hul, Nat.add_mul])
theorem Gs.append {x : Value} {m : Nat} {us : List Value} (tx ty : TypeId) (h : Gs E w v n vs) (hs : Go.Src Try.prog E.sz tx x m us w) (hone : ∀ u ∈ us, u.oneCell' = true) (hlen : n + m ≤ 1000000) :
    ∃ v' w', (Builtin.append_ #[E.t, tx] ty #[v, x]).run Try.prog w = .ok v' w' ∧ Gs E w' v' (n + m) (vs ++ us) ∧ w.grownBy w' (rowOf v) ∧ (rowOf v' = rowOf v ∨ rowOf v' = some w.heap.size) :=
  h.append_big tx ty hs hone (by omega) (Nat.le_trans (Nat.mul_le_mul hlen E.hb) (by decide))
theorem drewl {a b : World} {row : Option Nat} (h : a.drew.grownBy b row) : a.grownBy b row := ⟨h.os, h.tape, h.output, h.size, h.block⟩
/-- THE APPEND, in a walk. -/
theorem wpList_gs (E : El) {ops : Array Oper} {rest : List Oper} {o : Oper} {a : Act} {Q : Exit → Act → World → Prop} (hgd : o.guard = none) (s x : Operand) (tx : TypeId)
    (ho : o.op = .call { callee := .builtin .append, args := #[s, x], argTypes := #[E.t, tx] }) (u : Value) (n m : Nat) (vs us : List Value) (hs : a.eval s = v) (hx : a.eval x = u) (hv : Gs E w v n vs) (hu : Go.Src Try.prog E.sz tx u m us w) (hone : ∀ u ∈ us, u.oneCell' = true) (hlen : n + m ≤ 1000000)
    (h : ∀ v' w', Gs E w' v' (n + m) (vs ++ us) → w.grownBy w' (rowOf v) → (rowOf v' = rowOf v ∨ rowOf v' = some w.heap.size) → wpList Try.prog ops Q rest (a.put o.dst v') w') : wpList Try.prog ops Q (o :: rest) a w := by
  refine wpList_plain hgd fun K hK => ?_
  obtain ⟨v', w', hr, h2, h3, h4⟩ := Gs.append tx o.type hv hu hone hlen
  unfold Oper.wp execOp
  simp only [ho, resolve, invoke, builtin, Sem.run_bind, Sem.run_pure, Result.andThen_ok, List.map_toArray, List.map_cons, List.map_nil, hs, hx, hr]
  exact hK _ _ (h v' w' h2 h3 h4)
theorem wpList_gs_big (E : El) {ops : Array Oper} {rest : List Oper} {o : Oper} {a : Act} {Q : Exit → Act → World → Prop} (hgd : o.guard = none) (s x : Operand) (tx : TypeId)
    (ho : o.op = .call { callee := .builtin .append, args := #[s, x], argTypes := #[E.t, tx] }) (u : Value) (n m : Nat) (vs us : List Value) (hs : a.eval s = v) (hx : a.eval x = u) (hv : Gs E w v n vs) (hu : Go.Src Try.prog E.sz tx u m us w) (hone : ∀ u ∈ us, u.oneCell' = true) (hbig : n + m ≤ 140737488355328) (hlen : (n + m) * E.by_ ≤ 140737488355328)
    (h : ∀ v' w', Gs E w' v' (n + m) (vs ++ us) → w.grownBy w' (rowOf v) → (rowOf v' = rowOf v ∨ rowOf v' = some w.heap.size) → wpList Try.prog ops Q rest (a.put o.dst v') w') : wpList Try.prog ops Q (o :: rest) a w := by
  refine wpList_plain hgd fun K hK => ?_
  obtain ⟨v', w', hr, h2, h3, h4⟩ := Gs.append_big tx o.type hv hu hone hbig hlen
  unfold Oper.wp execOp
  simp only [ho, resolve, invoke, builtin, Sem.run_bind, Sem.run_pure, Result.andThen_ok, List.map_toArray, List.map_cons, List.map_nil, hs, hx, hr]
  exact hK _ _ (h v' w' h2 h3 h4)
/-- A list from a place on. -/
theorem Gs.from {a : Option Addr} {cap : Nat} (h : Gs E w (.slice a n cap) n vs) (k : Nat) (hk : k ≤ n) : Gs E w (sliced a k n cap E.sz) (n - k) (vs.drop (k * E.sz)) ∧ rowOf (sliced a k n cap E.sz) = rowOf (.slice a n cap) := by
  have hone : ∀ u ∈ vs.drop (k * E.sz), u.oneCell' = true := fun u hu => h.2.1 u (List.mem_of_mem_drop hu)
  obtain ⟨h0, h1, ⟨hv, hn⟩ | ⟨g, o, cap', cur, hv, h2, h3, h4, h5, h6⟩⟩ := h
  · injection hv with e0 e1 e2
    subst e0 e2 hn
    obtain rfl : k = 0 := by omega
    exact ⟨⟨by simpa using h0, hone, .inl ⟨rfl, rfl⟩⟩, rfl⟩
  · injection hv with e0 e1 e2
    subst e0 e2
    have hmul : k * E.sz + (n - k) * E.sz = n * E.sz := by rw [← Nat.add_mul]; congr 1; omega
    have hlen : (vs.drop (k * E.sz)).length = (n - k) * E.sz := by rw [List.length_drop, h0]; omega
    have hmid : (cur.drop (o + k * E.sz)).take ((n - k) * E.sz) = vs.drop (k * E.sz) := by
      have := congrArg (List.drop (k * E.sz)) h6
      rw [List.drop_take, List.drop_drop] at this
      rw [← this]
      congr 1
      omega
    refine ⟨⟨hlen, hone, .inr ?_⟩, ?_⟩
    · unfold sliced
      by_cases he : cap = k
      · subst he
        obtain rfl : n = cap := by omega
        refine ⟨g, o, 0, cur, ?_, by omega, by omega, h4, by omega, ?_⟩
        · rw [if_pos rfl, Nat.sub_self]
        · rw [Nat.sub_self, Nat.zero_mul, List.take_zero]
          exact (List.length_eq_zero_iff.1 (by rw [hlen, Nat.sub_self, Nat.zero_mul])).symm
      · have hmul2 : k * E.sz + (cap - k) * E.sz = cap * E.sz := by rw [← Nat.add_mul]; congr 1; omega
        refine ⟨g, o + k * E.sz, cap - k, cur, ?_, by omega, by omega, h4, by omega, hmid⟩
        rw [if_neg he]
        simp [Addr.add]
    · unfold sliced
      split
      · rfl
      · simp only [rowOf, Addr.add, Option.map_some]
        split <;> rfl
/-- A list up to a place. -/
theorem Gs.to {a : Option Addr} {cap : Nat} (h : Gs E w (.slice a n cap) n vs) (k : Nat) (hk : k ≤ n) : Gs E w (.slice a k cap) k (vs.take (k * E.sz)) := by
  have hone : ∀ u ∈ vs.take (k * E.sz), u.oneCell' = true := fun u hu => h.2.1 u (List.mem_of_mem_take hu)
  have hmul : k * E.sz ≤ n * E.sz := Nat.mul_le_mul_right _ hk
  obtain ⟨h0, h1, ⟨hv, hn⟩ | ⟨g, o, cap', cur, hv, h2, h3, h4, h5, h6⟩⟩ := h
  · injection hv with e0 e1 e2
    subst e0 e2 hn
    obtain rfl : k = 0 := by omega
    exact ⟨by simp, hone, .inl ⟨rfl, rfl⟩⟩
  · injection hv with e0 e1 e2
    subst e0 e2
    refine ⟨by rw [List.length_take, h0]; omega, hone, .inr ⟨g, o, cap, cur, rfl, by omega, h3, h4, h5, ?_⟩⟩
    rw [← h6, List.take_take]
    congr 1
    omega
end Go.Proofs.Ytpoifobhbmhelaa
