import Derived.Test.YtpoifobhbmhelaaB
import Derived.Test.YtpoifobhbmhelaaTo
set_option linter.unusedVariables false
set_option linter.unusedSimpArgs false
namespace Go.Proofs.Ytpoifobhbmhelaa
open Go.RowKit
/-- What a kind may have: N from, to; bytes from, to. -/
def lim (k : Int) : Option (Int × Int × Int × Int) :=
  if k = 1 then some (0, 65535, 0, 2048) else if k = 2 then some (0, 255, 0, 64) else if k = 3 then some (0, 0, 0, 256) else if k = 4 then some (0, 0, 0, 64) else if k = 5 then some (1, 4, 2, 2) else if k = 6 then some (1, 4, 2, 2) else if k = 7 then some (0, 0, 2, 2) else none
def LimOk (n b : Int) : Option (Int × Int × Int × Int) → Prop
  | none => False
  | some (l, g, f, m) => l ≤ n ∧ n ≤ g ∧ f ≤ b ∧ b ≤ m
instance (n b : Int) (x : Option (Int × Int × Int × Int)) : Decidable (LimOk n b x) := by
  cases x with
  | none => exact isFalse id
  | some x => obtain ⟨l, g, f, m⟩ := x; unfold LimOk; infer_instance
/-- May a record be? -/
def Rt (a k n b : Int) : Prop := (0 ≤ a ∧ a ≤ 4611686018427387904) ∧ LimOk n b (lim k)
instance (a k n b : Int) : Decidable (Rt a k n b) := by unfold Rt; infer_instance
theorem find_some {k l g f m : Int} (h : lim k = some (l, g, f, m)) : ∃ i, Instr.findNow (.int .i64) (.int .i64 k) kindsL 0 = some (some (i, KV l g f m)) := by
  unfold lim at h
  split at h; next e => subst e; cases h; exact ⟨_, rfl⟩
  split at h; next e => subst e; cases h; exact ⟨_, rfl⟩
  split at h; next e => subst e; cases h; exact ⟨_, rfl⟩
  split at h; next e => subst e; cases h; exact ⟨_, rfl⟩
  split at h; next e => subst e; cases h; exact ⟨_, rfl⟩
  split at h; next e => subst e; cases h; exact ⟨_, rfl⟩
  split at h; next e => subst e; cases h; exact ⟨_, rfl⟩
  cases h
theorem find_none {k : Int} (h : lim k = none) : Instr.findNow (.int .i64) (.int .i64 k) kindsL 0 = some none := by
  unfold lim at h
  split at h; next e => cases h
  split at h; next e => cases h
  split at h; next e => cases h
  split at h; next e => cases h
  split at h; next e => cases h
  split at h; next e => cases h
  split at h; next e => cases h
  rename_i h1 h2 h3 h4 h5 h6 h7
  simp [kindsL, Instr.findNow, Instr.sameNow, beq_eq_false_iff_ne.2 h1, beq_eq_false_iff_ne.2 h2, beq_eq_false_iff_ne.2 h3, beq_eq_false_iff_ne.2 h4, beq_eq_false_iff_ne.2 h5, beq_eq_false_iff_ne.2 h6, beq_eq_false_iff_ne.2 h7]
theorem exec_look {op : Oper} {ev : Operand → Value} {m x : Operand} (hop : op.op = .lookup 88 m x true) (B : Nat) (k : Int) (hm : ev m = .map (some B)) (hx : ev x = .int .i64 k) {W : World} {v : Value}
    (h : (Instr.lookup 88 (.map (some B)) (.int .i64 k) true).run Try.prog W = .ok v W) : (execOp ev op).run Try.prog W = .ok (.value v) W := by
  simp only [execOp, hop, hm, hx, Sem.run_bind, h, Sem.run_pure, Result.andThen_ok]
/-- What the look-up tells of a kind. -/
def Lk (k : Int) (b : Bool) (l g f m : Int) : Prop := (b = true ∧ lim k = some (l, g, f, m)) ∨ (b = false ∧ lim k = none ∧ l = 0 ∧ g = 0 ∧ f = 0 ∧ m = 0)
theorem Lk.ex (k : Int) : ∃ b l g f m, Lk k b l g f m := by
  cases h : lim k with
  | none => exact ⟨false, 0, 0, 0, 0, .inr ⟨rfl, h, rfl, rfl, rfl, rfl⟩⟩
  | some x => obtain ⟨l, g, f, m⟩ := x; exact ⟨true, l, g, f, m, .inl ⟨rfl, h⟩⟩
theorem Lk.run {k : Int} {b : Bool} {l g f m : Int} (h : Lk k b l g f m) {W : World} {B : Nat} (hb : W.heap[B]? = some (.map kindsL.toArray 7)) : (Instr.lookup 88 (.map (some B)) (.int .i64 k) true).run Try.prog W = .ok (.tuple #[KV l g f m, .bool b]) W := by
  rcases h with ⟨rfl, h⟩ | ⟨rfl, h, rfl, rfl, rfl, rfl⟩
  · obtain ⟨i, hi⟩ := find_some h
    exact look_hit k i _ hb hi
  · exact look_miss k hb (find_none h)
/-- The last part of 'right'. -/
def RtX (b : Bool) (a n c l g f m : Int) : Prop := b = true ∧ 0 ≤ a ∧ a ≤ 4611686018427387904 ∧ l ≤ n ∧ n ≤ g ∧ f ≤ c ∧ c ≤ m
instance (b : Bool) (a n c l g f m : Int) : Decidable (RtX b a n c l g f m) := by unfold RtX; infer_instance
theorem RtX.iff {b : Bool} {a k n c l g f m : Int} (h : Lk k b l g f m) : RtX b a n c l g f m ↔ Rt a k n c := by
  unfold Rt RtX
  rcases h with ⟨rfl, h⟩ | ⟨rfl, h, rfl, rfl, rfl, rfl⟩
  · rw [h]
    simp only [LimOk]
    constructor
    · rintro ⟨-, h1, h2, h3, h4, h5, h6⟩; exact ⟨⟨h1, h2⟩, h3, h4, h5, h6⟩
    · rintro ⟨⟨h1, h2⟩, h3, h4, h5, h6⟩; exact ⟨trivial, h1, h2, h3, h4, h5, h6⟩
  · rw [h]
    simp [LimOk]
theorem src_at8 {w : World} {g : Nat} {cs : List Value} {t : TypeId} (h : w.heap[g]? = some (.cells cs.toArray t (0, 0))) (j : Nat) (v : Value) (hv : cs[j]? = some v) : w.cell? ⟨g, j, none⟩ = some v := by
  rw [cells_all h]; simpa using hv
set_option maxHeartbeats 4000000 in
theorem right_any (a k n : Int) (x : Option Addr) (c cap : Nat) (w : World) : Calls Try.prog 40 #[.agg #[.int .i64 a, .int .i64 k, .int .i64 n, .slice x c cap]] w fun e w' => e = .returned (.bool (decide (Rt a k n c))) ∧ w.grownBy w' none := by
  obtain ⟨b, l, g, f, m, hLk⟩ := Lk.ex k
  have HE := Lib.hid (show decide (RtX b a n c l g f m) = decide (Rt a k n c) from decide_eq_decide.2 (RtX.iff hLk))
  rw [← HE.out]
  clear HE
  have HLk := Lib.hid hLk
  clear hLk
  have HX := Lib.hid (heap_alloc_new w (.cells #[.int .i64 a, .int .i64 k, .int .i64 n, .slice x c cap] 25))
  have HX1 := Lib.hid (show (w.alloc (.cells #[.int .i64 a, .int .i64 k, .int .i64 n, .slice x c cap] 25)).cell? ⟨w.heap.size, 1, none⟩ = some (.int .i64 k) from by rw [cells_all HX.out]; rfl)
  go_enter Try.func40, Try.ntmps40
  go_wp2
  refine regx_open (fun k => w.heap.size + 1 ≤ k) (n := 10) rfl (by kernel_rfl) ?_
  refine regx_take 1 (some 8) (v := ?_) rfl rfl (by kernel_rfl) (by kernel_rfl) (by kernel_rfl) (fun _ _ _ h => h) (by rfl) ?_ ?_
  rotate_left
  · intro W hW; go_simp; first | done | with_reducible rfl
  try simp only [Act.put, List.setIfInBounds_toArray, List.set_cons_zero, List.set_cons_succ]
  refine regx_take 2 (some 9) (v := ?_) rfl rfl (by kernel_rfl) (by kernel_rfl) (by kernel_rfl) (fun _ _ _ h => h) (by rfl) ?_ ?_
  rotate_left
  · intro W hW; have k := keeps_cell hW (show (w.alloc (.cells #[.int .i64 a, .int .i64 k, .int .i64 n, .slice x c cap] 25)).drew.cell? ⟨w.heap.size, 1, none⟩ = some (.int .i64 k) from HX1.out) (by omega); go_simp; first | done | with_reducible rfl
  try simp only [Act.put, List.setIfInBounds_toArray, List.set_cons_zero, List.set_cons_succ]
  refine wpAnyH_ready (rs := [0, 7]) (by kernel_rfl) (by simp) ?_
  refine (AllReadyH.cons (o := { dst := some 7, op := Op.call { callee := Callee.value (Operand.func 48), args := #[], argTypes := #[] }, type := 88, pos := "log.go:36", after := #[], guard := none }) rfl (fun K hK => ?_) (AllReadyH.cons (o := { dst := some 3, op := Op.alloc 86, type := 0, pos := "log.go:36", after := #[], guard := none }) rfl (fun K hK => ?_) AllReadyH.nil))
  · go_simp
    refine (kinds_any _).mono ?_; rintro e w7 ⟨B7, rfl, hB7, hm7, h7⟩
    refine regx_next hK (Keeps.keep h7) ?_
    clear hK K
    try simp only [Act.put, List.setIfInBounds_toArray, List.set_cons_zero, List.set_cons_succ]
    refine wpAnyH_ready (rs := [3, 7]) (by kernel_rfl) (by simp) ?_
    refine (AllReadyH.cons (o := { dst := some 10, op := Op.lookup 88 (Operand.tmp 7) (Operand.tmp 9) true, type := 87, pos := "log.go:36", after := #[{ on := 0, ground := Ground.data }, { on := 2, ground := Ground.data }], guard := none }) rfl (fun K hK => ?_) (AllReadyH.cons (o := { dst := some 3, op := Op.alloc 86, type := 0, pos := "log.go:36", after := #[], guard := none }) rfl (fun K hK => ?_) AllReadyH.nil))
    · refine wp_of_exec (exec_look rfl B7 k (by rfl) (by rfl) (HLk.out.run ?hmu4)) ?_
      case hmu4 => first | exact hm7 | exact (heap_alloc_old _ _ (lt_of_block hm7)).trans hm7
      refine regx_same hK ?_
      clear hK K
      try simp only [Act.put, List.setIfInBounds_toArray, List.set_cons_zero, List.set_cons_succ]
      refine regx_take 4 (some 6) (v := ?_) rfl rfl (by kernel_rfl) (by kernel_rfl) (by kernel_rfl) (fun _ _ _ h => h) (by rfl) ?_ ?_
      rotate_left
      · intro W hW; go_simp; first | done | with_reducible rfl
      try simp only [Act.put, List.setIfInBounds_toArray, List.set_cons_zero, List.set_cons_succ]
      refine regx_take 5 (some 11) (v := ?_) rfl rfl (by kernel_rfl) (by kernel_rfl) (by kernel_rfl) (fun _ _ _ h => h) (by rfl) ?_ ?_
      rotate_left
      · intro W hW; go_simp; first | done | with_reducible rfl
      try simp only [Act.put, List.setIfInBounds_toArray, List.set_cons_zero, List.set_cons_succ]
      refine regx_take 6 (some 12) (v := ?_) rfl rfl (by kernel_rfl) (by kernel_rfl) (by kernel_rfl) (fun _ _ _ h => h) (by rfl) ?_ ?_
      rotate_left
      · intro W hW; go_simp; first | done | with_reducible rfl
      try simp only [Act.put, List.setIfInBounds_toArray, List.set_cons_zero, List.set_cons_succ]
      refine wpAnyH_ready (rs := [7]) (by kernel_rfl) (by simp) ?_
      refine (AllReadyH.cons (o := { dst := some 3, op := Op.alloc 86, type := 0, pos := "log.go:36", after := #[], guard := none }) rfl (fun K hK => ?_) AllReadyH.nil)
      go_simp
      have hn := heap_alloc_new w7 (.cells #[.int .i64 0, .int .i64 0, .int .i64 0, .int .i64 0] 86); have hm := World.grownBy_alloc w7 (.cells #[.int .i64 0, .int .i64 0, .int .i64 0, .int .i64 0] 86) none
      refine regx_next hK (Keeps.keep hm) ?_
      clear hK K
      try simp only [Act.put, List.setIfInBounds_toArray, List.set_cons_zero, List.set_cons_succ]
      refine wpAnyH_ready (rs := [8]) (by kernel_rfl) (by simp) ?_
      refine (AllReadyH.cons (o := { dst := none, op := Op.store 86 (Operand.tmp 3) (Operand.tmp 11), type := 0, pos := "log.go:36", after := #[{ on := 7, ground := Ground.data }, { on := 5, ground := Ground.data }, { on := 0, ground := Ground.chain }, { on := 0, ground := Ground.phase }, { on := 1, ground := Ground.phase }, { on := 2, ground := Ground.phase }, { on := 3, ground := Ground.phase }, { on := 4, ground := Ground.phase }, { on := 5, ground := Ground.phase }, { on := 6, ground := Ground.textOnly Departure.lateStores }, { on := 7, ground := Ground.phase }], guard := none }) rfl (fun K hK => ?_) AllReadyH.nil)
      refine wp_store_all 86 _ _ rfl ?bu7 ?csu7 ?hxu7 ?hyu7 ?cu7 ?tu7 ?hzu7 ?hfu7 4 ?hnu7 Try.size86 ?h1u7 ?_
      case hyu7 => exact rfl
      case hxu7 => exact rfl
      case hzu7 => first | exact hn | (have hz8 : w7.heap[w.heap.size + 1]? = some (.cells ([.int .i64 0, .int .i64 0, .int .i64 0, .int .i64 0] : List Value).toArray 86 (0, 0)) := (by have := (h7.block _ (lt_of_block hn) (by simp)).trans hn; simpa using this); exact hz8)
      case hfu7 => exact rfl
      case hnu7 => exact rfl
      case h1u7 => simp [allOne, Value.oneCell']
      intro u9 hb9 h9
      refine regx_next hK (Keeps.row h9 (by first | exact Nat.le_refl _ | (have := h7.size; simp at this ⊢; omega))) ?_
      clear hK K
      try simp only [Act.put]
      refine regx_take 9 (some 4) (v := ?_) rfl rfl (by kernel_rfl) (by kernel_rfl) (by kernel_rfl) (fun _ _ _ h => h) (by rfl) ?_ ?_
      rotate_left
      · intro W hW; go_simp; first | done | with_reducible rfl
      try simp only [Act.put, List.setIfInBounds_toArray, List.set_cons_zero, List.set_cons_succ]
      refine wpAnyH_done (by kernel_rfl) ?_ _
      have hk9 : Keeps (fun k => w.heap.size + 1 ≤ k) _ _ := ((Keeps.keep h7).trans ((Keeps.keep hm).trans (Keeps.row h9 (by first | exact Nat.le_refl _ | (have := h7.size; simp at this ⊢; omega)))))
      have hz9 := hb9
      have hbx9 := (hk9.block w.heap.size (by simp) (by simp)).trans HX.out
      have q0 := cells_all hz9 0
      have q1 := cells_all hz9 1
      have q2 := cells_all hz9 2
      have q3 := cells_all hz9 3
      have r0 := cells_all hbx9 0
      have r2 := cells_all hbx9 2
      have r3 := cells_all hbx9 3
      simp only [List.getElem?_toArray, List.getElem?_cons_zero, List.getElem?_cons_succ] at q0 q1 q2 q3 r0 r2 r3
      clear hz9 hbx9
      have HGR := Lib.hid (show w.grownBy u9 none from (World.grownBy_alloc w _ none).trans (drewl (hk9.toGrown (by simp <;> omega))))
      clear hk9 hb9 HLk HX HX1
      cases b
      · go_wp2
        go_ret
        exact ⟨congrArg (fun b => Ending.returned (.bool b)) (decide_eq_false (by simp [RtX] : ¬ RtX false a n c l g f m)).symm, HGR.out⟩
      · by_cases y0 : 0 ≤ a
        · by_cases y1 : a ≤ 4611686018427387904
          · by_cases y2 : l ≤ n
            · by_cases y3 : n ≤ g
              · by_cases y4 : f ≤ (c : Int)
                · by_cases y5 : (c : Int) ≤ m
                  · go_wp2
                    go_ret
                    exact ⟨congrArg (fun b => Ending.returned (.bool b)) (decide_eq_true (⟨rfl, y0, y1, y2, y3, y4, y5⟩ : RtX true a n c l g f m)).symm, HGR.out⟩
                  · go_wp2
                    go_ret
                    exact ⟨congrArg (fun b => Ending.returned (.bool b)) (decide_eq_false (by rintro ⟨_, h⟩; omega : ¬ RtX true a n c l g f m)).symm, HGR.out⟩
                · go_wp2
                  go_ret
                  exact ⟨congrArg (fun b => Ending.returned (.bool b)) (decide_eq_false (by rintro ⟨_, h⟩; omega : ¬ RtX true a n c l g f m)).symm, HGR.out⟩
              · go_wp2
                go_ret
                exact ⟨congrArg (fun b => Ending.returned (.bool b)) (decide_eq_false (by rintro ⟨_, h⟩; omega : ¬ RtX true a n c l g f m)).symm, HGR.out⟩
            · go_wp2
              go_ret
              exact ⟨congrArg (fun b => Ending.returned (.bool b)) (decide_eq_false (by rintro ⟨_, h⟩; omega : ¬ RtX true a n c l g f m)).symm, HGR.out⟩
          · go_wp2
            go_ret
            exact ⟨congrArg (fun b => Ending.returned (.bool b)) (decide_eq_false (by rintro ⟨_, h⟩; omega : ¬ RtX true a n c l g f m)).symm, HGR.out⟩
        · go_wp2
          go_ret
          exact ⟨congrArg (fun b => Ending.returned (.bool b)) (decide_eq_false (by rintro ⟨_, h⟩; omega : ¬ RtX true a n c l g f m)).symm, HGR.out⟩
    · go_simp
      have hn := heap_alloc_new w7 (.cells #[.int .i64 0, .int .i64 0, .int .i64 0, .int .i64 0] 86); have hm := World.grownBy_alloc w7 (.cells #[.int .i64 0, .int .i64 0, .int .i64 0, .int .i64 0] 86) none
      refine regx_next hK (Keeps.keep hm) ?_
      clear hK K
      try simp only [Act.put, List.setIfInBounds_toArray, List.set_cons_zero, List.set_cons_succ]
      refine wpAnyH_ready (rs := [3]) (by kernel_rfl) (by simp) ?_
      refine (AllReadyH.cons (o := { dst := some 10, op := Op.lookup 88 (Operand.tmp 7) (Operand.tmp 9) true, type := 87, pos := "log.go:36", after := #[{ on := 0, ground := Ground.data }, { on := 2, ground := Ground.data }], guard := none }) rfl (fun K hK => ?_) AllReadyH.nil)
      refine wp_of_exec (exec_look rfl B7 k (by rfl) (by rfl) (HLk.out.run ?hmu12)) ?_
      case hmu12 => first | exact hm7 | exact (heap_alloc_old _ _ (lt_of_block hm7)).trans hm7
      refine regx_same hK ?_
      clear hK K
      try simp only [Act.put, List.setIfInBounds_toArray, List.set_cons_zero, List.set_cons_succ]
      refine regx_take 4 (some 6) (v := ?_) rfl rfl (by kernel_rfl) (by kernel_rfl) (by kernel_rfl) (fun _ _ _ h => h) (by rfl) ?_ ?_
      rotate_left
      · intro W hW; go_simp; first | done | with_reducible rfl
      try simp only [Act.put, List.setIfInBounds_toArray, List.set_cons_zero, List.set_cons_succ]
      refine regx_take 5 (some 11) (v := ?_) rfl rfl (by kernel_rfl) (by kernel_rfl) (by kernel_rfl) (fun _ _ _ h => h) (by rfl) ?_ ?_
      rotate_left
      · intro W hW; go_simp; first | done | with_reducible rfl
      try simp only [Act.put, List.setIfInBounds_toArray, List.set_cons_zero, List.set_cons_succ]
      refine regx_take 6 (some 12) (v := ?_) rfl rfl (by kernel_rfl) (by kernel_rfl) (by kernel_rfl) (fun _ _ _ h => h) (by rfl) ?_ ?_
      rotate_left
      · intro W hW; go_simp; first | done | with_reducible rfl
      try simp only [Act.put, List.setIfInBounds_toArray, List.set_cons_zero, List.set_cons_succ]
      refine wpAnyH_ready (rs := [8]) (by kernel_rfl) (by simp) ?_
      refine (AllReadyH.cons (o := { dst := none, op := Op.store 86 (Operand.tmp 3) (Operand.tmp 11), type := 0, pos := "log.go:36", after := #[{ on := 7, ground := Ground.data }, { on := 5, ground := Ground.data }, { on := 0, ground := Ground.chain }, { on := 0, ground := Ground.phase }, { on := 1, ground := Ground.phase }, { on := 2, ground := Ground.phase }, { on := 3, ground := Ground.phase }, { on := 4, ground := Ground.phase }, { on := 5, ground := Ground.phase }, { on := 6, ground := Ground.textOnly Departure.lateStores }, { on := 7, ground := Ground.phase }], guard := none }) rfl (fun K hK => ?_) AllReadyH.nil)
      refine wp_store_all 86 _ _ rfl ?bu13 ?csu13 ?hxu13 ?hyu13 ?cu13 ?tu13 ?hzu13 ?hfu13 4 ?hnu13 Try.size86 ?h1u13 ?_
      case hyu13 => exact rfl
      case hxu13 => exact rfl
      case hzu13 => first | exact hn | (have hz8 : w7.heap[w.heap.size + 1]? = some (.cells ([.int .i64 0, .int .i64 0, .int .i64 0, .int .i64 0] : List Value).toArray 86 (0, 0)) := (by have := (h7.block _ (lt_of_block hn) (by simp)).trans hn; simpa using this); exact hz8)
      case hfu13 => exact rfl
      case hnu13 => exact rfl
      case h1u13 => simp [allOne, Value.oneCell']
      intro u9 hb9 h9
      refine regx_next hK (Keeps.row h9 (by first | exact Nat.le_refl _ | (have := h7.size; simp at this ⊢; omega))) ?_
      clear hK K
      try simp only [Act.put]
      refine regx_take 9 (some 4) (v := ?_) rfl rfl (by kernel_rfl) (by kernel_rfl) (by kernel_rfl) (fun _ _ _ h => h) (by rfl) ?_ ?_
      rotate_left
      · intro W hW; go_simp; first | done | with_reducible rfl
      try simp only [Act.put, List.setIfInBounds_toArray, List.set_cons_zero, List.set_cons_succ]
      refine wpAnyH_done (by kernel_rfl) ?_ _
      have hk9 : Keeps (fun k => w.heap.size + 1 ≤ k) _ _ := ((Keeps.keep h7).trans ((Keeps.keep hm).trans (Keeps.row h9 (by first | exact Nat.le_refl _ | (have := h7.size; simp at this ⊢; omega)))))
      have hz9 := hb9
      have hbx9 := (hk9.block w.heap.size (by simp) (by simp)).trans HX.out
      have q0 := cells_all hz9 0
      have q1 := cells_all hz9 1
      have q2 := cells_all hz9 2
      have q3 := cells_all hz9 3
      have r0 := cells_all hbx9 0
      have r2 := cells_all hbx9 2
      have r3 := cells_all hbx9 3
      simp only [List.getElem?_toArray, List.getElem?_cons_zero, List.getElem?_cons_succ] at q0 q1 q2 q3 r0 r2 r3
      clear hz9 hbx9
      have HGR := Lib.hid (show w.grownBy u9 none from (World.grownBy_alloc w _ none).trans (drewl (hk9.toGrown (by simp <;> omega))))
      clear hk9 hb9 HLk HX HX1
      cases b
      · go_wp2
        go_ret
        exact ⟨congrArg (fun b => Ending.returned (.bool b)) (decide_eq_false (by simp [RtX] : ¬ RtX false a n c l g f m)).symm, HGR.out⟩
      · by_cases y0 : 0 ≤ a
        · by_cases y1 : a ≤ 4611686018427387904
          · by_cases y2 : l ≤ n
            · by_cases y3 : n ≤ g
              · by_cases y4 : f ≤ (c : Int)
                · by_cases y5 : (c : Int) ≤ m
                  · go_wp2
                    go_ret
                    exact ⟨congrArg (fun b => Ending.returned (.bool b)) (decide_eq_true (⟨rfl, y0, y1, y2, y3, y4, y5⟩ : RtX true a n c l g f m)).symm, HGR.out⟩
                  · go_wp2
                    go_ret
                    exact ⟨congrArg (fun b => Ending.returned (.bool b)) (decide_eq_false (by rintro ⟨_, h⟩; omega : ¬ RtX true a n c l g f m)).symm, HGR.out⟩
                · go_wp2
                  go_ret
                  exact ⟨congrArg (fun b => Ending.returned (.bool b)) (decide_eq_false (by rintro ⟨_, h⟩; omega : ¬ RtX true a n c l g f m)).symm, HGR.out⟩
              · go_wp2
                go_ret
                exact ⟨congrArg (fun b => Ending.returned (.bool b)) (decide_eq_false (by rintro ⟨_, h⟩; omega : ¬ RtX true a n c l g f m)).symm, HGR.out⟩
            · go_wp2
              go_ret
              exact ⟨congrArg (fun b => Ending.returned (.bool b)) (decide_eq_false (by rintro ⟨_, h⟩; omega : ¬ RtX true a n c l g f m)).symm, HGR.out⟩
          · go_wp2
            go_ret
            exact ⟨congrArg (fun b => Ending.returned (.bool b)) (decide_eq_false (by rintro ⟨_, h⟩; omega : ¬ RtX true a n c l g f m)).symm, HGR.out⟩
        · go_wp2
          go_ret
          exact ⟨congrArg (fun b => Ending.returned (.bool b)) (decide_eq_false (by rintro ⟨_, h⟩; omega : ¬ RtX true a n c l g f m)).symm, HGR.out⟩
  · go_simp
    have hn := heap_alloc_new (w.alloc (.cells #[.int .i64 a, .int .i64 k, .int .i64 n, .slice x c cap] 25)).drew (.cells #[.int .i64 0, .int .i64 0, .int .i64 0, .int .i64 0] 86); have hm := World.grownBy_alloc (w.alloc (.cells #[.int .i64 a, .int .i64 k, .int .i64 n, .slice x c cap] 25)).drew (.cells #[.int .i64 0, .int .i64 0, .int .i64 0, .int .i64 0] 86) none
    refine regx_next hK (Keeps.keep hm) ?_
    clear hK K
    try simp only [Act.put, List.setIfInBounds_toArray, List.set_cons_zero, List.set_cons_succ]
    refine wpAnyH_ready (rs := [0]) (by kernel_rfl) (by simp) ?_
    refine (AllReadyH.cons (o := { dst := some 7, op := Op.call { callee := Callee.value (Operand.func 48), args := #[], argTypes := #[] }, type := 88, pos := "log.go:36", after := #[], guard := none }) rfl (fun K hK => ?_) AllReadyH.nil)
    go_simp
    refine (kinds_any _).mono ?_; rintro e w7 ⟨B7, rfl, hB7, hm7, h7⟩
    refine regx_next hK (Keeps.keep h7) ?_
    clear hK K
    try simp only [Act.put, List.setIfInBounds_toArray, List.set_cons_zero, List.set_cons_succ]
    refine wpAnyH_ready (rs := [3]) (by kernel_rfl) (by simp) ?_
    refine (AllReadyH.cons (o := { dst := some 10, op := Op.lookup 88 (Operand.tmp 7) (Operand.tmp 9) true, type := 87, pos := "log.go:36", after := #[{ on := 0, ground := Ground.data }, { on := 2, ground := Ground.data }], guard := none }) rfl (fun K hK => ?_) AllReadyH.nil)
    refine wp_of_exec (exec_look rfl B7 k (by rfl) (by rfl) (HLk.out.run ?hmu20)) ?_
    case hmu20 => first | exact hm7 | exact (heap_alloc_old _ _ (lt_of_block hm7)).trans hm7
    refine regx_same hK ?_
    clear hK K
    try simp only [Act.put, List.setIfInBounds_toArray, List.set_cons_zero, List.set_cons_succ]
    refine regx_take 4 (some 6) (v := ?_) rfl rfl (by kernel_rfl) (by kernel_rfl) (by kernel_rfl) (fun _ _ _ h => h) (by rfl) ?_ ?_
    rotate_left
    · intro W hW; go_simp; first | done | with_reducible rfl
    try simp only [Act.put, List.setIfInBounds_toArray, List.set_cons_zero, List.set_cons_succ]
    refine regx_take 5 (some 11) (v := ?_) rfl rfl (by kernel_rfl) (by kernel_rfl) (by kernel_rfl) (fun _ _ _ h => h) (by rfl) ?_ ?_
    rotate_left
    · intro W hW; go_simp; first | done | with_reducible rfl
    try simp only [Act.put, List.setIfInBounds_toArray, List.set_cons_zero, List.set_cons_succ]
    refine regx_take 6 (some 12) (v := ?_) rfl rfl (by kernel_rfl) (by kernel_rfl) (by kernel_rfl) (fun _ _ _ h => h) (by rfl) ?_ ?_
    rotate_left
    · intro W hW; go_simp; first | done | with_reducible rfl
    try simp only [Act.put, List.setIfInBounds_toArray, List.set_cons_zero, List.set_cons_succ]
    refine wpAnyH_ready (rs := [8]) (by kernel_rfl) (by simp) ?_
    refine (AllReadyH.cons (o := { dst := none, op := Op.store 86 (Operand.tmp 3) (Operand.tmp 11), type := 0, pos := "log.go:36", after := #[{ on := 7, ground := Ground.data }, { on := 5, ground := Ground.data }, { on := 0, ground := Ground.chain }, { on := 0, ground := Ground.phase }, { on := 1, ground := Ground.phase }, { on := 2, ground := Ground.phase }, { on := 3, ground := Ground.phase }, { on := 4, ground := Ground.phase }, { on := 5, ground := Ground.phase }, { on := 6, ground := Ground.textOnly Departure.lateStores }, { on := 7, ground := Ground.phase }], guard := none }) rfl (fun K hK => ?_) AllReadyH.nil)
    refine wp_store_all 86 _ _ rfl ?bu21 ?csu21 ?hxu21 ?hyu21 ?cu21 ?tu21 ?hzu21 ?hfu21 4 ?hnu21 Try.size86 ?h1u21 ?_
    case hyu21 => exact rfl
    case hxu21 => exact rfl
    case hzu21 => first | exact hn | (have hz8 : w7.heap[w.heap.size + 1]? = some (.cells ([.int .i64 0, .int .i64 0, .int .i64 0, .int .i64 0] : List Value).toArray 86 (0, 0)) := (by have := (h7.block _ (lt_of_block hn) (by simp)).trans hn; simpa using this); exact hz8)
    case hfu21 => exact rfl
    case hnu21 => exact rfl
    case h1u21 => simp [allOne, Value.oneCell']
    intro u9 hb9 h9
    refine regx_next hK (Keeps.row h9 (by first | exact Nat.le_refl _ | (have := h7.size; simp at this ⊢; omega))) ?_
    clear hK K
    try simp only [Act.put]
    refine regx_take 9 (some 4) (v := ?_) rfl rfl (by kernel_rfl) (by kernel_rfl) (by kernel_rfl) (fun _ _ _ h => h) (by rfl) ?_ ?_
    rotate_left
    · intro W hW; go_simp; first | done | with_reducible rfl
    try simp only [Act.put, List.setIfInBounds_toArray, List.set_cons_zero, List.set_cons_succ]
    refine wpAnyH_done (by kernel_rfl) ?_ _
    have hk9 : Keeps (fun k => w.heap.size + 1 ≤ k) _ _ := ((Keeps.keep hm).trans ((Keeps.keep h7).trans (Keeps.row h9 (by first | exact Nat.le_refl _ | (have := h7.size; simp at this ⊢; omega)))))
    have hz9 := hb9
    have hbx9 := (hk9.block w.heap.size (by simp) (by simp)).trans HX.out
    have q0 := cells_all hz9 0
    have q1 := cells_all hz9 1
    have q2 := cells_all hz9 2
    have q3 := cells_all hz9 3
    have r0 := cells_all hbx9 0
    have r2 := cells_all hbx9 2
    have r3 := cells_all hbx9 3
    simp only [List.getElem?_toArray, List.getElem?_cons_zero, List.getElem?_cons_succ] at q0 q1 q2 q3 r0 r2 r3
    clear hz9 hbx9
    have HGR := Lib.hid (show w.grownBy u9 none from (World.grownBy_alloc w _ none).trans (drewl (hk9.toGrown (by simp <;> omega))))
    clear hk9 hb9 HLk HX HX1
    cases b
    · go_wp2
      go_ret
      exact ⟨congrArg (fun b => Ending.returned (.bool b)) (decide_eq_false (by simp [RtX] : ¬ RtX false a n c l g f m)).symm, HGR.out⟩
    · by_cases y0 : 0 ≤ a
      · by_cases y1 : a ≤ 4611686018427387904
        · by_cases y2 : l ≤ n
          · by_cases y3 : n ≤ g
            · by_cases y4 : f ≤ (c : Int)
              · by_cases y5 : (c : Int) ≤ m
                · go_wp2
                  go_ret
                  exact ⟨congrArg (fun b => Ending.returned (.bool b)) (decide_eq_true (⟨rfl, y0, y1, y2, y3, y4, y5⟩ : RtX true a n c l g f m)).symm, HGR.out⟩
                · go_wp2
                  go_ret
                  exact ⟨congrArg (fun b => Ending.returned (.bool b)) (decide_eq_false (by rintro ⟨_, h⟩; omega : ¬ RtX true a n c l g f m)).symm, HGR.out⟩
              · go_wp2
                go_ret
                exact ⟨congrArg (fun b => Ending.returned (.bool b)) (decide_eq_false (by rintro ⟨_, h⟩; omega : ¬ RtX true a n c l g f m)).symm, HGR.out⟩
            · go_wp2
              go_ret
              exact ⟨congrArg (fun b => Ending.returned (.bool b)) (decide_eq_false (by rintro ⟨_, h⟩; omega : ¬ RtX true a n c l g f m)).symm, HGR.out⟩
          · go_wp2
            go_ret
            exact ⟨congrArg (fun b => Ending.returned (.bool b)) (decide_eq_false (by rintro ⟨_, h⟩; omega : ¬ RtX true a n c l g f m)).symm, HGR.out⟩
        · go_wp2
          go_ret
          exact ⟨congrArg (fun b => Ending.returned (.bool b)) (decide_eq_false (by rintro ⟨_, h⟩; omega : ¬ RtX true a n c l g f m)).symm, HGR.out⟩
      · go_wp2
        go_ret
        exact ⟨congrArg (fun b => Ending.returned (.bool b)) (decide_eq_false (by rintro ⟨_, h⟩; omega : ¬ RtX true a n c l g f m)).symm, HGR.out⟩
end Go.Proofs.Ytpoifobhbmhelaa
