import Derived.Test.YtpoifobhbmhelaaMem
import Derived.Deep.MidRow
set_option linter.unusedVariables false
set_option linter.unusedSimpArgs false
namespace Go.Proofs.Ytpoifobhbmhelaa
open Go.RowKit
variable {P : Program}
/-- A list with values from an index on. -/
def setMany (cur : List Value) : Nat → List Value → List Value
  | _, [] => cur
  | o, v :: r => setMany (cur.set o v) (o + 1) r
theorem heap_setCells {g : Nat} {t : TypeId} {fz : Nat × Nat} : ∀ (vs : List Value) (o : Nat) (cur : List Value) (w : World), w.heap[g]? = some (.cells cur.toArray t fz) → (w.setCells g o vs).heap[g]? = some (.cells (setMany cur o vs).toArray t fz)
  | [], _, _, _, h => h
  | v :: r, o, cur, w, h => by
    rw [World.setCells, setMany]
    have := heap_setCell_at (j := o) v h
    rw [List.setIfInBounds_toArray] at this
    exact heap_setCells r (o + 1) _ _ this
theorem grown_setCells {g : Nat} : ∀ (vs : List Value) (o : Nat) (w : World), w.grownBy (w.setCells g o vs) (some g)
  | [], _, w => World.grownBy.refl _ _
  | v :: r, o, w => by
    rw [World.setCells]
    exact (grown_setCell w g o v).trans (grown_setCells r (o + 1) _)
theorem cells_all {w : World} {g : Nat} {cs : Array Value} {t : TypeId} {fz : Nat × Nat} (h : w.heap[g]? = some (.cells cs t fz)) : ∀ j, w.cell? ⟨g, j, none⟩ = cs[j]? := fun j => by simp [World.cell?, h]
theorem frozen_all {w : World} {g : Nat} {cs : Array Value} {t : TypeId} (h : w.heap[g]? = some (.cells cs t (0, 0))) : ∀ j, w.frozen? ⟨g, j, none⟩ = false := fun j => by simp [World.frozen?, h]
def allOne : List Value → Bool
  | [] => true
  | v :: r => v.oneCell' && allOne r
theorem allOne_all : ∀ (cs : List Value), allOne cs = true → ∀ v ∈ cs, v.oneCell' = true
  | [], _, v, hv => by cases hv
  | u :: r, h, v, hv => by
    simp only [allOne, Bool.and_eq_true] at h
    rcases List.mem_cons.1 hv with rfl | hv
    · exact h.1
    · exact allOne_all r h.2 v hv
/-- A store of many cells into a block that is known. -/
theorem store_blk {w : World} {b o : Nat} (ty : TypeId) (cs : List Value) {cur : List Value} {t : TypeId} (hb : w.heap[b]? = some (.cells cur.toArray t (0, 0))) (hfit : Nat.ble (o + cs.length) cur.length = true)
    (hi : (P.info? ty).map (·.size) = some cs.length) (h1 : allOne cs = true) :
    ∃ w', (Instr.storeAt ty (.pointer (some ⟨b, o, none⟩)) (.agg cs.toArray)).run P w = .ok () w' ∧ w'.heap[b]? = some (.cells (setMany cur o cs).toArray t (0, 0)) ∧ w.grownBy w' (some b) := by
  have hfit := Nat.le_of_ble_eq_true hfit
  refine ⟨w.setCells b o cs, ?_, heap_setCells _ _ _ _ hb, grown_setCells _ _ _⟩
  have := run_storeAt_mid (P := P) w b o ty cs.toArray (fun j hj => ⟨by rw [cells_all hb]; simp at hj; simp; omega, frozen_all hb _⟩) (by simpa using hi) (all_oneCell_toArray (allOne_all cs h1))
  simpa using this
theorem setMany_eq : ∀ (vs cur : List Value) (o : Nat), o + vs.length ≤ cur.length → setMany cur o vs = cur.take o ++ vs ++ cur.drop (o + vs.length)
  | [], cur, o, h => by simp [setMany]
  | v :: r, cur, o, h => by
    simp only [List.length_cons] at h
    rw [setMany, setMany_eq r _ _ (by simp; omega)]
    rw [List.take_succ_eq_append_getElem (by simp; omega), List.getElem_set_self, List.take_set_of_le (Nat.le_refl o), List.drop_set_of_lt (by omega)]
    simp only [List.length_cons, List.append_assoc, List.cons_append, List.nil_append, show o + 1 + r.length = o + (r.length + 1) from by omega]
theorem store_all {w : World} {b : Nat} (ty : TypeId) (cs : List Value) {cur : List Value} {t : TypeId} (hb : w.heap[b]? = some (.cells cur.toArray t (0, 0))) (hfit : cs.length = cur.length)
    (hi : (P.info? ty).map (·.size) = some cs.length) (h1 : allOne cs = true) :
    ∃ w', (Instr.storeAt ty (.pointer (some ⟨b, 0, none⟩)) (.agg cs.toArray)).run P w = .ok () w' ∧ w'.heap[b]? = some (.cells cs.toArray t (0, 0)) ∧ w.grownBy w' (some b) := by
  obtain ⟨w', h2, h3, h4⟩ := store_blk (P := P) (o := 0) ty cs hb (Nat.ble_eq_true_of_le (by omega)) hi h1
  rw [setMany_eq _ _ _ (by omega)] at h3
  rw [List.take_zero, List.nil_append, Nat.zero_add, List.drop_of_length_le (by omega), List.append_nil] at h3
  exact ⟨w', h2, h3, h4⟩
/-- A load of many cells out of a block that is known. -/
theorem load_blk {w : World} {b : Nat} (o : Nat) (ty : TypeId) (n : Nat) {cur : List Value} {t : TypeId} {fz : Nat × Nat} (hb : w.heap[b]? = some (.cells cur.toArray t fz)) (hfit : Nat.ble (o + n) cur.length = true) {d : TypeDesc}
    (hu : P.underlying ty = some d) (hd : d.isRow = true) (hi : (P.info? ty).map (·.size) = some n) :
    (Instr.loadAt ty (.pointer (some ⟨b, o, none⟩))).run P w = .ok (.agg ((cur.drop o).take n).toArray) w := by
  have hfit := Nat.le_of_ble_eq_true hfit
  exact run_loadAt_mid (P := P) w b o ty ((cur.drop o).take n) d (fun j v hj => by
    rw [cells_all hb]
    rw [List.getElem?_take] at hj
    split at hj
    · rw [List.getElem?_drop] at hj; simpa using hj
    · cases hj) hu hd (by rw [hi]; simp; omega)
theorem wpList_load_blk {ops : Array Oper} {rest : List Oper} {op : Oper} {a : Act} {w : World} {Q : Exit → Act → World → Prop} (hgd : op.guard = none) (ty : TypeId) (x : Operand) (ho : op.op = .load ty x)
    (b o : Nat) (hx : a.eval x = .pointer (some ⟨b, o, none⟩)) (cur : List Value) (t : TypeId) (fz : Nat × Nat) (hb : w.heap[b]? = some (.cells cur.toArray t fz)) (d : TypeDesc) (n : Nat) (hn : Nat.ble (o + n) cur.length = true)
    (hu : P.underlying ty = some d) (hd : d.isRow = true) (hi : (P.info? ty).map (·.size) = some n)
    (h : wpList P ops Q rest (a.put op.dst (.agg ((cur.drop o).take n).toArray)) w) : wpList P ops Q (op :: rest) a w :=
  wpList_load_mid hgd ty x ho b o hx ((cur.drop o).take n) d (fun j v hj => by
    rw [cells_all hb]
    rw [List.getElem?_take] at hj
    split at hj
    · rw [List.getElem?_drop] at hj; simpa using hj
    · cases hj) hu hd (by have := Nat.le_of_ble_eq_true hn; rw [hi]; simp; omega) h
theorem wpList_store_blk {ops : Array Oper} {rest : List Oper} {op : Oper} {a : Act} {w : World} {Q : Exit → Act → World → Prop} (hgd : op.guard = none) (ty : TypeId) (x y : Operand) (ho : op.op = .store ty x y)
    (b o : Nat) (cs : List Value) (hx : a.eval x = .pointer (some ⟨b, o, none⟩)) (hy : a.eval y = .agg cs.toArray) (cur : List Value) (t : TypeId) (hb : w.heap[b]? = some (.cells cur.toArray t (0, 0))) (hfit : Nat.ble (o + cs.length) cur.length = true)
    (n : Nat) (hn : cs.length = n) (hi : (P.info? ty).map (·.size) = some n) (h1 : allOne cs = true)
    (h : ∀ w', w'.heap[b]? = some (.cells (setMany cur o cs).toArray t (0, 0)) → w.grownBy w' (some b) → wpList P ops Q rest (a.put op.dst undef) w') : wpList P ops Q (op :: rest) a w :=
  wpList_store_mid hgd ty x y ho b o cs.toArray hx hy (fun j hj => ⟨by have := Nat.le_of_ble_eq_true hfit; rw [cells_all hb]; simp at hj; simp; omega, frozen_all hb _⟩) (by subst hn; simpa using hi) (all_oneCell_toArray (allOne_all cs h1)) (h _ (heap_setCells _ _ _ _ hb) (grown_setCells _ _ _))
theorem wpList_store_all {ops : Array Oper} {rest : List Oper} {op : Oper} {a : Act} {w : World} {Q : Exit → Act → World → Prop} (hgd : op.guard = none) (ty : TypeId) (x y : Operand) (ho : op.op = .store ty x y)
    (b : Nat) (cs : List Value) (hx : a.eval x = .pointer (some ⟨b, 0, none⟩)) (hy : a.eval y = .agg cs.toArray) (cur : List Value) (t : TypeId) (hb : w.heap[b]? = some (.cells cur.toArray t (0, 0))) (hfit : cs.length = cur.length)
    (n : Nat) (hn : cs.length = n) (hi : (P.info? ty).map (·.size) = some n) (h1 : allOne cs = true)
    (h : ∀ w', w'.heap[b]? = some (.cells cs.toArray t (0, 0)) → w.grownBy w' (some b) → wpList P ops Q rest (a.put op.dst undef) w') : wpList P ops Q (op :: rest) a w :=
  wpList_store_blk hgd ty x y ho b 0 cs hx hy cur t hb (Nat.ble_eq_true_of_le (by omega)) n hn hi h1 (fun w' k g => h w' (by
    rw [setMany_eq _ _ _ (by omega)] at k
    rwa [List.take_zero, List.nil_append, Nat.zero_add, List.drop_of_length_le (by omega), List.append_nil] at k) g)
end Go.Proofs.Ytpoifobhbmhelaa
