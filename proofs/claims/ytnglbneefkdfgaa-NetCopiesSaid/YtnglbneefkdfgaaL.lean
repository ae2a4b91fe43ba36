import Derived.Test.YtnglbneefkdfgaaK
set_option linter.unusedVariables false
namespace Go.Proofs.Ytnglbneefkdfgaa
open Go.RowKit
theorem sliced_zero (a : Option Addr) (k cap s : Nat) : sliced a 0 k cap s = .slice a k cap := by
  cases a with
  | none => simp [sliced]
  | some a => simp [sliced, Addr.add]
theorem exec_sl_hi (E : El) (he : Try.prog.elem E.t = E.e) {ev : Operand → Value} {op : Oper} {x y : Operand} (hop : op.op = .slice E.t x none (some y) none) (a : Option Addr) (n cap : Nat) (k : Nat) (hx : ev x = .slice a n cap) (hy : ev y = .int .i64 (k : Nat)) (hk : k ≤ cap) (w : World) :
    (execOp ev op).run Try.prog w = .ok (.value (.slice a k cap)) w := by
  have hu : Try.prog.underlying E.t = some (.slice (Try.prog.elem E.t)) := by rw [he]; exact E.hu
  have h1 := run_sliceAt_slice (P := Try.prog) (w := w) E.t (.slice a n cap) none (some (.int .i64 (k : Nat))) none hu
  have h2 := run_slice_h (P := Try.prog) (w := w) E.t a n cap hu .i64 (k : Nat) (by omega) (by omega)
  rw [h2, E.size w he] at h1
  simp only [execOp, hop, hx, hy, Option.map_some, Option.map_none, Sem.run_bind, h1, Result.andThen_ok, Sem.run_pure, Int.toNat_natCast, sliced_zero]
theorem keep_blk {w w' : World} {b : Nat} {o : Obj} (hg : w.grownBy w' none) (h : w.heap[b]? = some o) : w'.heap[b]? = some o :=
  (hg.block b (lt_of_block h) (by simp)).trans h
theorem keep_cell {w w' : World} {b o : Nat} {v : Value} (hg : w.grownBy w' none) (h : w.cell? ⟨b, o, none⟩ = some v) : w'.cell? ⟨b, o, none⟩ = some v :=
  keeps_cell (X := fun _ => False) (Keeps.keep hg) h id
set_option maxHeartbeats 8000000 in
theorem ref_next_one (M : Nat → Prop) (r : Rf) (g : Nh) (w : World) (h : RS M w r g) (hk : g.taken < g.came.length) (hl : g.came.length ≤ 1000000) (hbd : tot g.came ≤ 1000000000) : Calls Try.prog 34 #[r.val] w fun e w' => ∃ v, e = .returned (.tuple #[v, .int .i64 (tot (g.came.take g.taken) : Nat), .bool true]) ∧ Inn M w' v (g.came[g.taken]'hk) ∧ w.grownBy w' none := by
  obtain ⟨vs, hp, hb⟩ := h.p
  have hcn := h.cn
  have htk := h.tk
  obtain ⟨ca, cn, cc, tk, sa, sn, sc⟩ := r
  simp only at hcn htk hp
  subst hcn htk
  obtain ⟨ga, go, rfl⟩ := hp.some_of (by omega)
  obtain ⟨v, hv, hi⟩ := hb.2 g.taken hk
  obtain ⟨_, _, e0, hcc⟩ := hp.shape
  injection e0 with _ _ e2
  have hto := hp.to g.taken (by omega)
  have htl := tot_take_le g.came g.taken
  have hg := World.grownBy_alloc w (.cells #[.slice (some ⟨ga, go, none⟩) g.came.length cc, .int .i64 (g.taken : Nat), .slice sa sn sc] 40) none
  have hlen : (g.came.take g.taken).length = g.taken := by simp; omega
  have hne : ((g.taken : Int) == (g.came.length : Nat)) = false := by simp; omega
  have hlt' : (g.taken : Int) < (g.came.length : Nat) := by omega
  have hle : g.taken ≤ cc := by omega
  have CB := fun (u : World) (hgu : (w.alloc (.cells #[.slice (some ⟨ga, go, none⟩) g.came.length cc, .int .i64 (g.taken : Nat), .slice sa sn sc] 40)).grownBy u none) => bytes_any M (some ⟨ga, go, none⟩) cc (vs.take (g.taken * eL.sz)) (g.came.take g.taken) u (by rw [hlen]; exact hto.keptNone (hg.trans hgu)) (by have := (hb.take g.taken).keeps (X := fun _ => False) (Keeps.keep (hg.trans hgu)) (fun _ _ h => h.elim); simpa [eL] using this) (by omega) (by omega)
  simp only [hlen] at CB
  have hn := heap_alloc_new w (.cells #[.slice (some ⟨ga, go, none⟩) g.came.length cc, .int .i64 (g.taken : Nat), .slice sa sn sc] 40)
  have hc := (hp.keptNone hg).cell g.taken _ hv
  have HX := Lib.hid hn
  have HC := Lib.hid hc
  have HG := Lib.hid hg
  have HI := Lib.hid hi
  have HLE := Lib.hid hle
  clear h hp hb hv hi hto htl hg hlen hn hc hle hcc e2 hl hbd
  go_enter Try.func34, Try.ntmps34
  go_wp2_with fail
  subst_vars
  apply Lib.hid
  refine reg_open (none) (n := 15) rfl (by kernel_rfl) ?_
  refine reg_take 0 (some 11) (v := ?_) rfl rfl (by kernel_rfl) (by kernel_rfl) (by kernel_rfl) (fun _ _ _ h => h) (by rfl) ?_ ?_
  rotate_left
  · intro W hW; go_simp; first | done | with_reducible rfl
  try simp only [Act.put, List.setIfInBounds_toArray, List.set_cons_zero, List.set_cons_succ]
  refine reg_take 1 (some 12) (v := ?_) rfl rfl (by kernel_rfl) (by kernel_rfl) (by kernel_rfl) (fun _ _ _ h => h) (by rfl) ?_ ?_
  rotate_left
  · intro W hW; have k := cells_all (keep_blk hW HX.out) 0; go_simp; first | done | with_reducible rfl
  try simp only [Act.put, List.setIfInBounds_toArray, List.set_cons_zero, List.set_cons_succ]
  refine reg_take 2 (some 13) (v := ?_) rfl rfl (by kernel_rfl) (by kernel_rfl) (by kernel_rfl) (fun _ _ _ h => h) (by rfl) ?_ ?_
  rotate_left
  · intro W hW; go_simp; first | done | with_reducible rfl
  try simp only [Act.put, List.setIfInBounds_toArray, List.set_cons_zero, List.set_cons_succ]
  refine reg_take 3 (some 14) (v := ?_) rfl rfl (by kernel_rfl) (by kernel_rfl) (by kernel_rfl) (fun _ _ _ h => h) (by rfl) ?_ ?_
  rotate_left
  · intro W hW; have k := cells_all (keep_blk hW HX.out) 1; go_simp; first | done | with_reducible rfl
  try simp only [Act.put, List.setIfInBounds_toArray, List.set_cons_zero, List.set_cons_succ]
  refine reg_take 4 (some 15) (v := ?_) rfl rfl (by kernel_rfl) (by kernel_rfl) (by kernel_rfl) (fun _ _ _ h => h) (by rfl) ?_ ?_
  rotate_left
  · intro W hW; go_simp; first | done | with_reducible rfl
  try simp only [Act.put, List.setIfInBounds_toArray, List.set_cons_zero, List.set_cons_succ]
  refine reg_take 5 (some 16) (v := ?_) rfl rfl (by kernel_rfl) (by kernel_rfl) (by kernel_rfl) (fun _ _ _ h => h) (by rfl) ?_ ?_
  rotate_left
  · intro W hW; have k := keep_cell (drewl hW) HC.out; go_simp; first | done | with_reducible rfl
  try simp only [Act.put, List.setIfInBounds_toArray, List.set_cons_zero, List.set_cons_succ]
  refine reg_take 6 (some 17) (v := ?_) rfl rfl (by kernel_rfl) (by kernel_rfl) (by kernel_rfl) (fun _ _ _ h => h) (by rfl) ?_ ?_
  rotate_left
  · intro W hW; go_simp; first | done | with_reducible rfl
  try simp only [Act.put, List.setIfInBounds_toArray, List.set_cons_zero, List.set_cons_succ]
  refine reg_take 7 (some 18) (v := ?_) rfl rfl (by kernel_rfl) (by kernel_rfl) (by kernel_rfl) (fun _ _ _ h => h) (by rfl) ?_ ?_
  rotate_left
  · intro W hW; have k := cells_all (keep_blk hW HX.out) 0; go_simp; first | done | with_reducible rfl
  try simp only [Act.put, List.setIfInBounds_toArray, List.set_cons_zero, List.set_cons_succ]
  refine reg_take 8 (some 19) (v := ?_) rfl rfl (by kernel_rfl) (by kernel_rfl) (by kernel_rfl) (fun _ _ _ h => h) (by rfl) ?_ ?_
  rotate_left
  · intro W hW; go_simp; first | done | with_reducible rfl
  try simp only [Act.put, List.setIfInBounds_toArray, List.set_cons_zero, List.set_cons_succ]
  refine reg_take 9 (some 20) (v := ?_) rfl rfl (by kernel_rfl) (by kernel_rfl) (by kernel_rfl) (fun _ _ _ h => h) (by rfl) ?_ ?_
  rotate_left
  · intro W hW; have k := cells_all (keep_blk hW HX.out) 1; go_simp; first | done | with_reducible rfl
  try simp only [Act.put, List.setIfInBounds_toArray, List.set_cons_zero, List.set_cons_succ]
  refine reg_take 10 (some 21) (v := ?_) rfl rfl (by kernel_rfl) (by kernel_rfl) (by kernel_rfl) (fun _ _ _ h => h) (by rfl) ?_ ?_
  rotate_left
  · intro W hW; refine exec_sl_hi eL elemL (x := .tmp 18) (y := .tmp 20) ?_ (some ⟨ga, go, none⟩) g.came.length cc g.taken ?_ ?_ HLE.out W <;> rfl
  try simp only [Act.put, List.setIfInBounds_toArray, List.set_cons_zero, List.set_cons_succ]
  refine wpAnyH_ready (rs := [11]) (by kernel_rfl) (by simp) ?_
  refine (AllReadyH.cons (o := { dst := some 22, op := Op.call { callee := Callee.value (Operand.func 37), args := #[Operand.tmp 21], argTypes := #[34] }, type := 3, pos := "ref.go:44", after := #[{ on := 10, ground := Ground.data }], guard := none }) rfl (fun K hK => ?_) AllReadyH.nil)
  go_simp
  refine (CB _ (drewl (World.grownBy.refl _ _))).mono ?_; rintro e w' ⟨rfl, rfl⟩
  refine reg_same hK ?_
  clear hK K
  try simp only [Act.put, List.setIfInBounds_toArray, List.set_cons_zero, List.set_cons_succ]
  refine reg_take 12 (some 2) (v := ?_) rfl rfl (by kernel_rfl) (by kernel_rfl) (by kernel_rfl) (fun _ _ _ h => h) (by rfl) ?_ ?_
  rotate_left
  · intro W hW; go_simp; first | done | with_reducible rfl
  try simp only [Act.put, List.setIfInBounds_toArray, List.set_cons_zero, List.set_cons_succ]
  refine reg_take 13 (some 3) (v := ?_) rfl rfl (by kernel_rfl) (by kernel_rfl) (by kernel_rfl) (fun _ _ _ h => h) (by rfl) ?_ ?_
  rotate_left
  · intro W hW; go_simp; first | done | with_reducible rfl
  try simp only [Act.put, List.setIfInBounds_toArray, List.set_cons_zero, List.set_cons_succ]
  refine reg_take 14 (some 4) (v := ?_) rfl rfl (by kernel_rfl) (by kernel_rfl) (by kernel_rfl) (fun _ _ _ h => h) (by rfl) ?_ ?_
  rotate_left
  · intro W hW; go_simp; first | done | with_reducible rfl
  try simp only [Act.put, List.setIfInBounds_toArray, List.set_cons_zero, List.set_cons_succ]
  refine wpAnyH_done (by kernel_rfl) ?_ _
  have HG2 := Lib.hid (HG.out.trans (drewl (World.grownBy.refl _ _)))
  go_wp2
  refine bodyPost_ret (results_ttt rfl _ _) (by rfl) ?_
  exact ⟨v, rfl, HI.out.keeps (X := fun _ => False) (Keeps.keep HG2.out) (fun _ _ h => h.elim), HG2.out⟩
end Go.Proofs.Ytnglbneefkdfgaa
