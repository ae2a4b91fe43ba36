import Derived.Test.YtnglbneefkdfgaaB
set_option linter.unusedVariables false
namespace Go.Proofs.Ytnglbneefkdfgaa
open Go.RowKit
theorem wp_of_exec {P : Program} {op : Oper} {a : Act} {w : World} {v : Value} {K : Act → World → Prop} {Q : Exit → Act → World → Prop} (h : (execOp a.eval op).run P w = .ok (.value v) w) (k : K (a.put op.dst v) w) : op.wp P a w K Q := by
  unfold Oper.wp
  rw [h]
  exact k
theorem wpList_val {P : Program} {ops : Array Oper} {rest : List Oper} {op : Oper} {a : Act} {w : World} {v : Value} {Q : Exit → Act → World → Prop} (hw : Region.wanted op (yielded ops a.tmps) = true) (h : (execOp a.eval op).run P w = .ok (.value v) w)
    (k : wpList P ops Q rest (a.put op.dst v) w) : wpList P ops Q (op :: rest) a w := by
  unfold wpList
  simp only [hw, if_true]
  exact .inl (wp_of_exec h k)
theorem hold_sl {P : Program} {ops : Array Oper} {rest : List Oper} {op : Oper} {a : Act} {w : World} {Q : Exit → Act → World → Prop} (ty : TypeId) (x : Operand) (lo hi mx : Option Operand) (_ : op.op = .slice ty x lo hi mx) (h : Hid (wpList P ops Q (op :: rest) a w)) : wpList P ops Q (op :: rest) a w := h.out
theorem El.size (E : El) (w : World) (he : Try.prog.elem E.t = E.e) : (sizeOf (Try.prog.elem E.t)).run Try.prog w = .ok E.sz w := by
  obtain ⟨i, hi, _, hs, _⟩ := E.info
  rw [he]
  simp [sizeOf, typeInfo, hi, hs]
theorem elemL : Try.prog.elem 34 = 22 := by kernel_rfl
theorem elemP : Try.prog.elem 57 = 65 := by kernel_rfl
theorem exec_sl (E : El) (he : Try.prog.elem E.t = E.e) {ev : Operand → Value} {op : Oper} {x y : Operand} (hop : op.op = .slice E.t x (some y) none none) (a : Option Addr) (n cap : Nat) (k : Nat) (hx : ev x = .slice a n cap) (hy : ev y = .int .i64 (k : Nat)) (hk : k ≤ n) (w : World) (v : Value) (hv : v = sliced a k n cap E.sz) :
    (execOp ev op).run Try.prog w = .ok (.value v) w := by
  have hu : Try.prog.underlying E.t = some (.slice (Try.prog.elem E.t)) := by rw [he]; exact E.hu
  subst hv
  have h1 := run_sliceAt_slice (P := Try.prog) (w := w) E.t (.slice a n cap) (some (.int .i64 (k : Nat))) none none hu
  have h2 := run_slice_l (P := Try.prog) (w := w) E.t a n cap hu .i64 (k : Nat) (by omega) (by omega)
  rw [h2, E.size w he] at h1
  simp only [execOp, hop, hx, hy, Option.map_some, Option.map_none, Sem.run_bind, h1, Result.andThen_ok, Sem.run_pure, Int.toNat_natCast]
theorem LPost.mk' {M : Nat → Prop} {w w' : World} {B : Nat} {c c' : Nc} {g : Nh} (hns : NS (with_ M (own c' B)) w' B c' g) (hk : Keeps (own c B) w w') (hn : ∀ k, own c' B k → own c B k ∨ w.heap.size ≤ k) : LPost M w w' B c c' g := ⟨hns, hk, hn⟩
theorem take_none (M : Nat → Prop) (B : Nat) (c : Nc) (g : Nh) (w : World) (h : NS M w B c g) (hk : g.taken = g.came.length) : Calls Try.prog 13 #[.pointer (some ⟨B, 0, none⟩)] w fun e w' => e = .returned (.bool false) ∧ w = w' := by
  obtain ⟨vs, hq, _⟩ := h.q
  rw [hk, Nat.sub_self] at hq
  have C := waits_nk B c 0 vs w h.nk hq
  clear h hq
  go_enter Try.func13, Try.ntmps13
  go_wp2_with fail
  refine C.mono ?_; rintro e w' ⟨rfl, rfl⟩
  go_wp2
  go_ret
  exact ⟨rfl, rfl⟩
set_option maxHeartbeats 4000000 in
theorem take_one (M : Nat → Prop) (B : Nat) (c : Nc) (g : Nh) (w : World) (h : NS M w B c g) (hk : g.taken < g.came.length) : Calls Try.prog 13 #[.pointer (some ⟨B, 0, none⟩)] w fun e w' => e = .returned (.bool true) ∧ ∃ c', LPost M w w' B c c' { g with taken := g.taken + 1 } := by
  obtain ⟨vs, hq, hpk⟩ := h.q
  obtain ⟨n, hn⟩ : ∃ n, n = g.came.length - g.taken := ⟨_, rfl⟩
  rw [← hn] at hq
  obtain ⟨qa, qcap, hqv, _⟩ := hq.shape
  have C := waits_nk B c n vs w h.nk hq
  obtain ⟨hf1, hf2⟩ := (hqv ▸ hq).from 1 (by omega)
  obtain ⟨nv, hnv⟩ : ∃ nv, nv = sliced qa 1 n qcap eP.sz := ⟨_, rfl⟩
  rw [← hnv] at hf1 hf2
  obtain ⟨na, nc, hnv2, _⟩ := hf1.shape
  subst hnv2
  have HNV := Lib.hid hnv
  have hn1 : 1 ≤ n := by omega
  have hne : ((n : Int) == 0) = false := by simp; omega
  have hgr := grown_setCell w B 0 (.slice na (n - 1) nc)
  have hNk := Lib.hid (h.nk.set (c' := { c with wv := .slice na (n - 1) nc }) 0 (.slice na (n - 1) nc) rfl)
  have hrow : rowOf (.slice na (n - 1) nc) = rowOf c.wv := by rw [hf2, hqv]
  have hneB : ∀ k, rowOf c.wv = some k → k ≠ B := fun k hk e => by subst e; exact hq.ne h.nk.blk (by decide) hk
  have HNS := Lib.hid (show LPost M w (w.setCell ⟨B, 0, none⟩ (.slice na (n - 1) nc)) B c { c with wv := .slice na (n - 1) nc } { g with taken := g.taken + 1 } from by
    have hsub : ∀ k, own { c with wv := .slice na (n - 1) nc } B k → own c B k := fun k hk => by
      rcases hk with h | h | h
      · exact .inl h
      · exact .inr (.inl (hrow ▸ h))
      · exact .inr (.inr h)
    have hkp : Keeps (fun k => k = B) w (w.setCell ⟨B, 0, none⟩ (.slice na (n - 1) nc)) := Keeps.row hgr rfl
    have hxB : ∀ k, k < w.heap.size → k = B → M k := fun k _ e => h.ow k (.inl e)
    obtain ⟨us, hs1, hs2⟩ := h.s
    have hwM : ∀ k, with_ M (own { c with wv := .slice na (n - 1) nc } B) k → M k := fun k hk => hk.elim id (fun h2 => h.ow k (hsub k h2))
    have hdr : g.came.drop g.taken = (g.came[g.taken]'hk) :: g.came.drop (g.taken + 1) := List.drop_eq_getElem_cons hk
    rw [hdr] at hpk
    have hpk2 := hpk.tail
    refine ⟨⟨hNk.out, hk, ⟨vs.drop (1 * eP.sz), ?_, ?_⟩, ⟨us, hs1.keeps hkp (fun k hk e => hs1.ne h.nk.blk (by decide) (e ▸ hk)), (hs2.keeps hkp hxB).less hwM⟩, h.ni, h.no, fun k hk => .inl (h.ow k (hsub k hk))⟩, Keeps.row hgr (.inl rfl), fun k hk => .inl (hsub k hk)⟩
    · rw [show g.came.length - (g.taken + 1) = n - 1 from by omega]
      exact hf1.keeps hkp (fun k hk e => hneB k (hrow ▸ hk) e)
    · rw [tot_succ g.came g.taken hk]
      exact (hpk2.keeps hkp hxB).less hwM)
  have c0 : w.cell? ⟨B, 0, none⟩ = some (.slice qa n qcap) := (h.nk.cell 0).trans (congrArg some hqv)
  have f0 := h.nk.free 0
  clear h hq hpk hf1 hf2 hnv hgr hrow hneB hqv hn
  go_enter Try.func13, Try.ntmps13
  go_wp2_with fail
  refine C.mono ?_; rintro e w' ⟨rfl, rfl⟩
  clear C
  go_wp2_with (with_reducible refine hold_sl 57 _ _ _ _ rfl ?_)
  apply Lib.hid
  refine wpList_val (by rfl) (exec_sl eP elemP (x := .tmp 10) (y := .const (.int .i64 1)) rfl qa n qcap 1 (by rfl) (by rfl) hn1 _ (.slice na (n - 1) nc) HNV.out) ?_
  go_wp2
  go_ret
  exact ⟨rfl, _, HNS.out⟩
end Go.Proofs.Ytnglbneefkdfgaa
