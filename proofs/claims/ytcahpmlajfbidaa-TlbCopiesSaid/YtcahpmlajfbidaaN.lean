import Derived.Test.YtcahpmlajfbidaaM
import Derived.Test.YtcahpmlajfbidaaReg2
import Derived.Test.YtcahpmlajfbidaaC
namespace Go.Proofs.Ytcahpmlajfbidaa
open Go.RowKit
theorem exec_ld30 {op : Oper} {ρ : Operand → Value} {W : World} {b : Nat} {T : Tl} {x : Operand} (ho : op.op = .load 30 x) (hx : ρ x = .pointer (some ⟨b, 0, none⟩)) (h : W.heap[b]? = some (.cells T.cells 30 (0, 0))) : (execOp ρ op).run Try.prog W = .ok (.value T.val) W := by
  simp only [execOp, ho, hx, Sem.run_bind, ld30 h, Result.andThen_ok, Sem.run_pure]
theorem wp_store_all {P : Program} {op : Oper} {a : Act} {w : World} {K : Act → World → Prop} {Q : Exit → Act → World → Prop} (ty : TypeId) (x y : Operand) (ho : op.op = .store ty x y)
    (b : Nat) (cs : List Value) (hx : a.eval x = .pointer (some ⟨b, 0, none⟩)) (hy : a.eval y = .agg cs.toArray) (cur : List Value) (t : TypeId) (hb : w.heap[b]? = some (.cells cur.toArray t (0, 0))) (hfit : cs.length = cur.length)
    (m : Nat) (hn : cs.length = m) (hi : (P.info? ty).map (·.size) = some m) (h1 : allOne cs = true)
    (h : ∀ w', w'.heap[b]? = some (.cells cs.toArray t (0, 0)) → w.grownBy w' (some b) → K (a.put op.dst undef) w') : op.wp P a w K Q := by
  obtain ⟨w', hrun, h2, h3⟩ := store_all (P := P) ty cs hb hfit (by rw [hn]; exact hi) h1
  unfold Oper.wp execOp
  simp only [ho, hx, hy, Sem.run_bind, hrun, Result.andThen_ok, Sem.run_pure]
  exact h w' h2 h3
set_option maxHeartbeats 8000000 in
theorem act_drop (B : Nat) (T : Tl) (page frame : Int) (wr th : Bool) (w : World) (h : Tb w B T) : Calls Try.prog 13 #[.pointer (some ⟨B, 0, none⟩), T.val, .agg #[.int .i64 1, .int .u32 page, .int .u32 frame, .bool wr, .bool th]] w fun e w' => e = .returned (.tuple #[(T.drop page).val, .bool true]) ∧ Tb w' B (T.drop page) ∧ w.grownBy w' (some B) := by
  have hlt := h.lt
  obtain ⟨hgn, hb1, hb2, hb3⟩ := three_new w (.cells T.cells 30) (.cells #[.int .i64 1, .int .u32 page, .int .u32 frame, .bool wr, .bool th] 40) (.cells zeros 30)
  have HB1 := Lib.hid (show _ from hb1)
  have HB2 := Lib.hid hb2
  have HB3 := Lib.hid hb3
  have HT := Lib.hid (h.keptNone hgn).drew
  have HG := Lib.hid hgn
  clear hgn hb1 hb2 hb3 h
  go_enter Try.func13, Try.ntmps13
  go_wp2_with fail
  refine regx_open (fun k => k = B ∨ k = w.heap.size + 1 + 1) (n := 16) rfl (by kernel_rfl) ?_
  refine regx_take 0 (some 43) (v := ?_) rfl rfl (by kernel_rfl) (by kernel_rfl) (by kernel_rfl) (fun _ _ _ h => h) (by rfl) ?_ ?_
  rotate_left
  · intro W hW; refine exec_ld30 (x := Operand.tmp 4) ?_ ?_ (((hW).block _ (lt_of_block HB1.out) (by omega)).trans HB1.out) <;> rfl
  try simp only [Act.put, List.setIfInBounds_toArray, List.set_cons_zero, List.set_cons_succ]
  refine regx_take 1 (some 44) (v := ?_) rfl rfl (by kernel_rfl) (by kernel_rfl) (by kernel_rfl) (fun _ _ _ h => h) (by rfl) ?_ ?_
  rotate_left
  · intro W hW; go_simp; first | done | with_reducible rfl
  try simp only [Act.put, List.setIfInBounds_toArray, List.set_cons_zero, List.set_cons_succ]
  refine regx_take 2 (some 45) (v := ?_) rfl rfl (by kernel_rfl) (by kernel_rfl) (by kernel_rfl) (fun _ _ _ h => h) (by rfl) ?_ ?_
  rotate_left
  · intro W hW; have c := (cells5 (((hW).block _ (lt_of_block HB2.out) (by omega)).trans HB2.out)).2.1; go_simp; first | done | with_reducible rfl
  try simp only [Act.put, List.setIfInBounds_toArray, List.set_cons_zero, List.set_cons_succ]
  refine regx_take 4 (some 47) (v := ?_) rfl rfl (by kernel_rfl) (by kernel_rfl) (by kernel_rfl) (fun _ _ _ h => h) (by rfl) ?_ ?_
  rotate_left
  · intro W hW; go_simp; first | done | with_reducible rfl
  try simp only [Act.put, List.setIfInBounds_toArray, List.set_cons_zero, List.set_cons_succ]
  refine regx_take 5 (some 48) (v := ?_) rfl rfl (by kernel_rfl) (by kernel_rfl) (by kernel_rfl) (fun _ _ _ h => h) (by rfl) ?_ ?_
  rotate_left
  · intro W hW; go_simp; first | done | with_reducible rfl
  try simp only [Act.put, List.setIfInBounds_toArray, List.set_cons_zero, List.set_cons_succ]
  refine regx_take 6 (some 49) (v := ?_) rfl rfl (by kernel_rfl) (by kernel_rfl) (by kernel_rfl) (fun _ _ _ h => h) (by rfl) ?_ ?_
  rotate_left
  · intro W hW; have c := (cells5 (((hW).block _ (lt_of_block HB2.out) (by omega)).trans HB2.out)).2.1; go_simp; first | done | with_reducible rfl
  try simp only [Act.put, List.setIfInBounds_toArray, List.set_cons_zero, List.set_cons_succ]
  refine regx_take 8 (some 51) (v := ?_) rfl rfl (by kernel_rfl) (by kernel_rfl) (by kernel_rfl) (fun _ _ _ h => h) (by rfl) ?_ ?_
  rotate_left
  · intro W hW; refine exec_ld30 (x := Operand.tmp 4) ?_ ?_ (((hW).block _ (lt_of_block HB1.out) (by omega)).trans HB1.out) <;> rfl
  try simp only [Act.put, List.setIfInBounds_toArray, List.set_cons_zero, List.set_cons_succ]
  refine regx_take 9 (some 52) (v := ?_) rfl rfl (by kernel_rfl) (by kernel_rfl) (by kernel_rfl) (fun _ _ _ h => h) (by rfl) ?_ ?_
  rotate_left
  · intro W hW; go_simp; first | done | with_reducible rfl
  try simp only [Act.put, List.setIfInBounds_toArray, List.set_cons_zero, List.set_cons_succ]
  refine regx_take 10 (some 53) (v := ?_) rfl rfl (by kernel_rfl) (by kernel_rfl) (by kernel_rfl) (fun _ _ _ h => h) (by rfl) ?_ ?_
  rotate_left
  · intro W hW; have c := (cells5 (((hW).block _ (lt_of_block HB2.out) (by omega)).trans HB2.out)).2.1; go_simp; first | done | with_reducible rfl
  try simp only [Act.put, List.setIfInBounds_toArray, List.set_cons_zero, List.set_cons_succ]
  refine wpAnyH_ready (rs := [3]) (by kernel_rfl) (by simp) ?_
  refine (AllReadyH.cons (o := { dst := some 46, op := Op.call { callee := Callee.value (Operand.func 26), args := #[Operand.tmp 43, Operand.tmp 45], argTypes := #[30, 25] }, type := 30, pos := "law.go:61", after := #[{ on := 0, ground := Ground.data }, { on := 2, ground := Ground.data }], guard := none }) rfl (fun K hK => ?_) AllReadyH.nil)
  go_simp
  refine (ref_drop T page _).mono ?_; rintro e u1 ⟨rfl, h1'⟩; have h1 : Keeps (fun k => k = B ∨ k = w.heap.size + 1 + 1) _ u1 := Keeps.of h1' (fun r e => by cases e)
  refine regx_next hK h1 ?_
  clear hK K
  try simp only [Act.put, List.setIfInBounds_toArray, List.set_cons_zero, List.set_cons_succ]
  refine wpAnyH_ready (rs := [7]) (by kernel_rfl) (by simp) ?_
  refine (AllReadyH.cons (o := { dst := some 50, op := Op.call { callee := Callee.value (Operand.func 18), args := #[Operand.tmp 47, Operand.tmp 49], argTypes := #[24, 25] }, type := 4, pos := "law.go:61", after := #[{ on := 4, ground := Ground.data }, { on := 6, ground := Ground.data }, { on := 3, ground := Ground.chain }], guard := none }) rfl (fun K hK => ?_) AllReadyH.nil)
  go_simp
  refine (drop_tb B T page _ (HT.out.keptNone h1')).mono ?_; rintro e u2 ⟨rfl, hT2, h2'⟩; have h2 : Keeps (fun k => k = B ∨ k = w.heap.size + 1 + 1) _ u2 := Keeps.of h2' (fun r e => by cases e; exact .inl rfl)
  refine regx_next hK h2 ?_
  clear hK K
  try simp only [Act.put, List.setIfInBounds_toArray, List.set_cons_zero, List.set_cons_succ]
  refine wpAnyH_ready (rs := [11]) (by kernel_rfl) (by simp) ?_
  refine (AllReadyH.cons (o := { dst := some 54, op := Op.call { callee := Callee.value (Operand.func 15), args := #[Operand.tmp 51, Operand.tmp 53], argTypes := #[30, 25] }, type := 3, pos := "law.go:61", after := #[{ on := 8, ground := Ground.data }, { on := 10, ground := Ground.data }, { on := 7, ground := Ground.chain }], guard := none }) rfl (fun K hK => ?_) AllReadyH.nil)
  go_simp
  refine (ref_find T page _).mono ?_; rintro e u3 ⟨rfl, h3'⟩; have h3 : Keeps (fun k => k = B ∨ k = w.heap.size + 1 + 1) _ u3 := Keeps.of h3' (fun r e => by cases e)
  refine regx_next hK h3 ?_
  clear hK K
  try simp only [Act.put, List.setIfInBounds_toArray, List.set_cons_zero, List.set_cons_succ]
  refine regx_take 12 (some 55) (v := ?_) rfl rfl (by kernel_rfl) (by kernel_rfl) (by kernel_rfl) (fun _ _ _ h => h) (by rfl) ?_ ?_
  rotate_left
  · intro W hW; go_simp; first | done | with_reducible rfl
  try simp only [Act.put, List.setIfInBounds_toArray, List.set_cons_zero, List.set_cons_succ]
  refine regx_take 13 (some 56) (v := ?_) rfl rfl (by kernel_rfl) (by kernel_rfl) (by kernel_rfl) (fun _ _ _ h => h) (by rfl) ?_ ?_
  rotate_left
  · intro W hW; go_simp; first | done | with_reducible rfl
  try simp only [Act.put, List.setIfInBounds_toArray, List.set_cons_zero, List.set_cons_succ]
  refine wpAnyH_ready (rs := [14]) (by kernel_rfl) (by simp) ?_
  refine (AllReadyH.cons (o := { dst := none, op := Op.store 30 (Operand.tmp 6) (Operand.tmp 46), type := 0, pos := "law.go:61", after := #[{ on := 3, ground := Ground.data }, { on := 11, ground := Ground.chain }, { on := 0, ground := Ground.phase }, { on := 1, ground := Ground.phase }, { on := 2, ground := Ground.phase }, { on := 3, ground := Ground.phase }, { on := 4, ground := Ground.textOnly Departure.lateStores }, { on := 5, ground := Ground.textOnly Departure.lateStores }, { on := 6, ground := Ground.textOnly Departure.lateStores }, { on := 7, ground := Ground.textOnly Departure.lateStoresUnsure }, { on := 8, ground := Ground.textOnly Departure.lateStores }, { on := 9, ground := Ground.textOnly Departure.lateStores }, { on := 10, ground := Ground.textOnly Departure.lateStores }, { on := 11, ground := Ground.textOnly Departure.lateStoresUnsure }, { on := 12, ground := Ground.textOnly Departure.lateStores }, { on := 13, ground := Ground.textOnly Departure.lateStores }], guard := none }) rfl (fun K hK => ?_) AllReadyH.nil)
  have hz := (h3'.block _ (lt_of_block ((h2'.block _ (lt_of_block ((h1'.block _ (lt_of_block HB3.out) (by simp)).trans HB3.out)) (by simp; omega)).trans ((h1'.block _ (lt_of_block HB3.out) (by simp)).trans HB3.out))) (by simp)).trans ((h2'.block _ (lt_of_block ((h1'.block _ (lt_of_block HB3.out) (by simp)).trans HB3.out)) (by simp; omega)).trans ((h1'.block _ (lt_of_block HB3.out) (by simp)).trans HB3.out))
  refine wp_store_all 30 _ _ rfl (w.heap.size + 1 + 1) ?cs9 ?hx9 ?hy9 _ _ hz ?hf9 17 ?hn9 Try.size30 ?h19 ?_
  case hy9 => exact rfl
  case hx9 => exact rfl
  case hf9 => exact rfl
  case hn9 => exact rfl
  case h19 => simp [allOne, Value.oneCell']
  intro u4 hb4 h4'
  have h4 : Keeps (fun k => k = B ∨ k = w.heap.size + 1 + 1) _ u4 := Keeps.of h4' (fun r e => by cases e; exact .inr rfl)
  refine regx_next hK h4 ?_
  clear hK K
  try simp only [Act.put]
  refine regx_take 15 (some 7) (v := ?_) rfl rfl (by kernel_rfl) (by kernel_rfl) (by kernel_rfl) (fun _ _ _ h => h) (by rfl) ?_ ?_
  rotate_left
  · intro W hW; go_simp; first | done | with_reducible rfl
  refine wpAnyH_done (by kernel_rfl) ?_ _
  have RB := Lib.hid hb4
  have HT4 := Lib.hid ((hT2.keptNone h3').kept h4' (by simp; omega))
  have HG4 := Lib.hid (grown_new2 (((drewr (grown_none HG.out (some B))).trans (grown_none h1' (some B))).trans (h2'.trans (grown_none h3' (some B)))) h4' (by omega))
  clear hb4 h4' h4 h3 h2 h1 hT2
  go_wp2
  refine bodyPost_ret (results_c30t rfl _ _ _ _ (by rfl) (by rfl) RB.out) (by rfl) ?_
  refine ⟨?_, HT4.out, HG4.out⟩
  exact congrArg (fun b => Ending.returned (.tuple #[(T.drop page).val, .bool b])) (show (T.has page == decide (0 ≤ T.find page)) = true by simp [Tl.has])
end Go.Proofs.Ytcahpmlajfbidaa
