import Derived.Test.YtmdgehpmeikgfaaSl
import Derived.Test.YtmdgehpmeikgfaaReg2
namespace Go.Proofs.Ytmdgehpmeikgfaa
open Go.RowKit
theorem src_go {w : World} {a : Option Addr} {bs : List UInt8} {cap : Nat} (h : Src w a bs) : Go.Src Try.prog 1 27 (.slice a bs.length cap) bs.length (bsV bs) w := by
  rcases h with rfl | ⟨b, o, rfl, h⟩
  · cases a with
    | none => exact Go.Src.ofNil w Try.underlying27 cap
    | some a => exact Go.Src.ofSlice w Try.underlying27 a 0 cap [] rfl (fun j u hj => by cases hj) (fun u hu => by cases hu)
  · exact Go.Src.ofSlice w Try.underlying27 ⟨b, o, none⟩ bs.length cap (bsV bs) (by simp [bsV]) (fun j u hj => by
      have hl : j < bs.length := by
        have := (List.getElem?_eq_some_iff.1 hj).1
        simpa [bsV] using this
      rw [Addr.add_lit, h j hl, ← hj]
      exact (bV_get bs j hl).symm) (bs_one bs)
theorem drewl {a b : World} {row : Option Nat} (h : a.drew.grownBy b row) : a.grownBy b row := ⟨h.os, h.tape, h.output, h.size, h.block⟩
/-- THE APPEND, in a walk. -/
theorem wpList_sl {ops : Array Oper} {rest : List Oper} {o : Oper} {a : Act} {w : World} {Q : Exit → Act → World → Prop} (hgd : o.guard = none) (s x : Operand)
    (ho : o.op = .call { callee := .builtin .append, args := #[s, x], argTypes := #[27, 27] }) (v u : Value) (l bs : List UInt8) (hs : a.eval s = v) (hx : a.eval x = u) (hv : Sl w v l) (hu : Go.Src Try.prog 1 27 u bs.length (bsV bs) w) (hlen : l.length + bs.length ≤ 1000000)
    (h : ∀ v' w', Sl w' v' (l ++ bs) → w.grownBy w' (rowOf v) → (rowOf v' = rowOf v ∨ rowOf v' = some w.heap.size) → wpList Try.prog ops Q rest (a.put o.dst v') w') : wpList Try.prog ops Q (o :: rest) a w := by
  refine wpList_plain hgd fun K hK => ?_
  obtain ⟨v', w', hr, h2, h3, h4⟩ := Sl.append o.type hv hu hlen
  unfold Oper.wp execOp
  simp only [ho, resolve, invoke, builtin, Sem.run_bind, Sem.run_pure, Result.andThen_ok, List.map_toArray, List.map_cons, List.map_nil, hs, hx, hr]
  exact hK _ _ (h v' w' h2 h3 h4)
set_option maxHeartbeats 4000000 in
theorem push_ok (B : Nat) (c : Lc) (l bs : List UInt8) (xa : Option Addr) (xcap : Nat) (w : World) (hL : Lk w B c) (hQ : Sl w c.qv l) (hX : Src w xa bs) (hfit : l.length + bs.length ≤ 256) (h0 : 0 ≤ c.first) (h1 : c.first ≤ 4611686018427387904) :
    Calls Try.prog 13 #[.pointer (some ⟨B, 0, none⟩), .slice xa bs.length xcap] w fun e w' => ∃ qv', e = .returned (.tuple #[.int .i64 (c.first + l.length), .int .i64 0]) ∧ Lk w' B { c with qv := qv' } ∧ Sl w' qv' (l ++ bs) ∧ Keeps (fun k => k = B ∨ rowOf c.qv = some k) w w' ∧ (rowOf qv' = rowOf c.qv ∨ ∃ g, rowOf qv' = some g ∧ w.heap.size ≤ g) := by
  obtain ⟨qa, qcap, hq, hqc⟩ := hQ.shape
  have HQ := Lib.hid hQ
  have HX := Lib.hid hX
  have HL := Lib.hid hL
  have hw : IntKind.i64.wrap (c.first + (l.length : Nat)) = c.first + (l.length : Nat) := by rw [IntKind.wrap_i64]; omega
  have hfit2 : ¬ ((256 : Int) - (l.length : Nat) < (bs.length : Nat)) := by omega
  have c6 : w.cell? ⟨B, 6, none⟩ = some (.slice qa l.length qcap) := (hL.cell 6).trans (congrArg some hq)
  clear hQ hX hL
  go_enter Try.func13, Try.ntmps13
  go_wp2_with fail
  refine (none_lk B c _ HL.out).mono ?_; rintro e w' ⟨rfl, rfl⟩
  go_wp2
  refine reg_open (none) (n := 11) rfl (by kernel_rfl) ?_
  refine reg_take 0 (some 20) (v := ?_) rfl rfl (by kernel_rfl) (by kernel_rfl) (by kernel_rfl) (fun _ _ _ h => h) (by rfl) ?_ ?_
  rotate_left
  · intro W hW; go_simp; first | done | with_reducible rfl
  try simp only [Act.put, List.setIfInBounds_toArray, List.set_cons_zero, List.set_cons_succ]
  refine reg_take 1 (some 21) (v := ?_) rfl rfl (by kernel_rfl) (by kernel_rfl) (by kernel_rfl) (fun _ _ _ h => h) (by rfl) ?_ ?_
  rotate_left
  · intro W hW; go_simp; first | done | with_reducible rfl
  try simp only [Act.put, List.setIfInBounds_toArray, List.set_cons_zero, List.set_cons_succ]
  refine reg_take 2 (some 22) (v := ?_) rfl rfl (by kernel_rfl) (by kernel_rfl) (by kernel_rfl) (fun _ _ _ h => h) (by rfl) ?_ ?_
  rotate_left
  · intro W hW; go_simp; first | done | with_reducible rfl
  try simp only [Act.put, List.setIfInBounds_toArray, List.set_cons_zero, List.set_cons_succ]
  refine reg_take 3 (some 23) (v := ?_) rfl rfl (by kernel_rfl) (by kernel_rfl) (by kernel_rfl) (fun _ _ _ h => h) (by rfl) ?_ ?_
  rotate_left
  · intro W hW; have k : W.cell? ⟨B, 7, none⟩ = some (.int .i64 c.first) := cells_all ((hW.block _ (lt_of_block HL.out.blk) (by simp)).trans HL.out.blk) 7; go_simp; first | done | with_reducible rfl
  try simp only [Act.put, List.setIfInBounds_toArray, List.set_cons_zero, List.set_cons_succ]
  refine reg_take 4 (some 24) (v := ?_) rfl rfl (by kernel_rfl) (by kernel_rfl) (by kernel_rfl) (fun _ _ _ h => h) (by rfl) ?_ ?_
  rotate_left
  · intro W hW; go_simp; first | done | with_reducible rfl
  try simp only [Act.put, List.setIfInBounds_toArray, List.set_cons_zero, List.set_cons_succ]
  refine reg_take 5 (some 25) (v := ?_) rfl rfl (by kernel_rfl) (by kernel_rfl) (by kernel_rfl) (fun _ _ _ h => h) (by rfl) ?_ ?_
  rotate_left
  · intro W hW; go_simp; first | done | with_reducible rfl
  try simp only [Act.put, List.setIfInBounds_toArray, List.set_cons_zero, List.set_cons_succ]
  refine reg_take 6 (some 26) (v := ?_) rfl rfl (by kernel_rfl) (by kernel_rfl) (by kernel_rfl) (fun _ _ _ h => h) (by rfl) ?_ ?_
  rotate_left
  · intro W hW; go_simp; first | done | with_reducible rfl
  try simp only [Act.put, List.setIfInBounds_toArray, List.set_cons_zero, List.set_cons_succ]
  refine reg_take 7 (some 27) (v := ?_) rfl rfl (by kernel_rfl) (by kernel_rfl) (by kernel_rfl) (fun _ _ _ h => h) (by rfl) ?_ ?_
  rotate_left
  · intro W hW; have k : W.cell? ⟨B, 6, none⟩ = some (.slice qa l.length qcap) := (cells_all ((hW.block _ (lt_of_block HL.out.blk) (by simp)).trans HL.out.blk) 6).trans (congrArg some hq); go_simp; first | done | with_reducible rfl
  try simp only [Act.put, List.setIfInBounds_toArray, List.set_cons_zero, List.set_cons_succ]
  refine reg_take 8 (some 28) (v := ?_) rfl rfl (by kernel_rfl) (by kernel_rfl) (by kernel_rfl) (fun _ _ _ h => h) (by rfl) ?_ ?_
  rotate_left
  · intro W hW; go_simp; first | done | with_reducible rfl
  try simp only [Act.put, List.setIfInBounds_toArray, List.set_cons_zero, List.set_cons_succ]
  refine reg_take 9 (some 29) (v := ?_) rfl rfl (by kernel_rfl) (by kernel_rfl) (by kernel_rfl) (fun _ _ _ h => h) (by rfl) ?_ ?_
  rotate_left
  · intro W hW; go_simp; first | done | with_reducible rfl
  try simp only [Act.put, List.setIfInBounds_toArray, List.set_cons_zero, List.set_cons_succ]
  refine reg_take 10 (some 6) (v := ?_) rfl rfl (by kernel_rfl) (by kernel_rfl) (by kernel_rfl) (fun _ _ _ h => h) (by rfl) ?_ ?_
  rotate_left
  · intro W hW; go_simp; first | done | with_reducible rfl
  try simp only [Act.put, List.setIfInBounds_toArray, List.set_cons_zero, List.set_cons_succ]
  refine wpAnyH_done (by kernel_rfl) ?_ _
  have c6 : w.cell? ⟨B, 6, none⟩ = some (.slice qa l.length qcap) := (HL.out.cell 6).trans (congrArg some hq)
  have hQd : Sl w.drew (.slice qa l.length qcap) l := hq ▸ HQ.out
  have hXd := src_go (cap := xcap) (w := w.drew) HX.out
  go_wp2_with (at_builtin; refine wpList_sl rfl _ _ rfl _ _ l bs rfl rfl hQd hXd (by omega) ?_)
  intro v2 w2 hQ2 hg2 hr2
  obtain ⟨a2, cap2, hv2, hc2⟩ := hQ2.shape
  rw [List.length_append] at hv2
  subst hv2
  have hneB : rowOf (.slice qa l.length qcap) ≠ some B := fun e => hQd.ne (b := B) HL.out.blk (by decide) B e rfl
  have hL2 : Lk w2 B c := HL.out.drew.kept hg2 (fun e => hneB e.symm)
  have k6 : w2.cell? ⟨B, 6, none⟩ = some (.slice qa l.length qcap) := (hL2.cell 6).trans (congrArg some hq)
  have f6 := hL2.free 6
  have HL3 := Lib.hid (show Lk (w2.setCell ⟨B, 6, none⟩ (.slice a2 (l.length + bs.length) cap2)) B { c with qv := .slice a2 (l.length + bs.length) cap2 } from hL2.set 6 _ rfl)
  have HQ3 := Lib.hid (hQ2.kept (Lk.set_grown (B := B) 6 (.slice a2 (l.length + bs.length) cap2)) (hQ2.ne hL2.blk (by decide)))
  have HK := Lib.hid ((Keeps.of (X := fun k => k = B ∨ rowOf c.qv = some k) (drewl hg2) (fun r e => by rw [hq]; exact .inr e)).trans (Keeps.of (Lk.set_grown (B := B) 6 (.slice a2 (l.length + bs.length) cap2)) (fun r e => by cases e; exact .inl rfl)))
  have HR := Lib.hid hr2
  clear hQ2 hg2 hr2 hQd hXd hL2
  go_wp2
  go_ret2
  refine ⟨_, rfl, HL3.out, HQ3.out, HK.out, ?_⟩
  rw [hq]
  exact HR.out.imp id (fun e => ⟨_, e, Nat.le_refl _⟩)
end Go.Proofs.Ytmdgehpmeikgfaa
