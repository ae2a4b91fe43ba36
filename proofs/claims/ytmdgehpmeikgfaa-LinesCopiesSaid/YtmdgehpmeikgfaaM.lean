import Derived.Test.YtmdgehpmeikgfaaL
set_option linter.unusedVariables false
namespace Go.Proofs.Ytmdgehpmeikgfaa
open Go.RowKit
theorem wp_of_exec {P : Program} {op : Oper} {a : Act} {w : World} {v : Value} {K : Act → World → Prop} {Q : Exit → Act → World → Prop} (h : (execOp a.eval op).run P w = .ok (.value v) w) (k : K (a.put op.dst v) w) : op.wp P a w K Q := by
  unfold Oper.wp
  rw [h]
  exact k
theorem wpList_val {P : Program} {ops : Array Oper} {rest : List Oper} {op : Oper} {a : Act} {w : World} {v : Value} {Q : Exit → Act → World → Prop} (hw : Region.wanted op (yielded ops a.tmps) = true) (h : (execOp a.eval op).run P w = .ok (.value v) w)
    (k : wpList P ops Q rest (a.put op.dst v) w) : wpList P ops Q (op :: rest) a w := by
  unfold wpList
  simp only [hw, if_true]
  exact .inl (wp_of_exec h k)
theorem hold_sl {P : Program} {ops : Array Oper} {rest : List Oper} {op : Oper} {a : Act} {w : World} {Q : Exit → Act → World → Prop} (ty : TypeId) (x : Operand) (lo hi mx : Option Operand) (_ : op.op = .slice ty x lo hi mx) (h : Hid (wpList P ops Q (op :: rest) a w)) : wpList P ops Q (op :: rest) a w := h.out
theorem size5 (w : World) : (sizeOf (Try.prog.elem 27)).run Try.prog w = .ok 1 w := by
  have e : Try.prog.elem 27 = 5 := by kernel_rfl
  rw [e]
  simp [sizeOf]
  rfl
/-- A list from a place on. -/
theorem Sl.from {w : World} {a : Option Addr} {n cap : Nat} {l : List UInt8} (h : Sl w (.slice a n cap) l) (k : Nat) (hk : k ≤ n) : Sl w (sliced a k n cap 1) (l.drop k) ∧ (rowOf (sliced a k n cap 1) = rowOf (.slice a n cap)) ∧ (l.drop k).length = n - k := by
  rcases h with ⟨h0, hl⟩ | ⟨g, o, cap', cur, h0, h1, h2, h3, h4, h5⟩
  · injection h0 with e0 e1 e2
    subst e0 e1 e2 hl
    have : k = 0 := by omega
    subst this
    exact ⟨.inl ⟨rfl, rfl⟩, rfl, rfl⟩
  · injection h0 with e0 e1 e2
    subst e0 e1 e2
    have hlen : (l.drop k).length = l.length - k := List.length_drop
    have hmid : (cur.drop (o + k)).take (l.length - k) = bsV (l.drop k) := by
      have := congrArg (List.drop k) h5
      rw [List.drop_take, List.drop_drop] at this
      rw [this]
      simp [bsV, List.map_drop]
    refine ⟨.inr ?_, ?_, hlen⟩
    · unfold sliced
      by_cases he : cap = k
      · subst he
        have hz : (l.drop cap).length = 0 := by rw [hlen]; omega
        have hz2 : l.drop cap = [] := List.length_eq_zero_iff.1 hz
        refine ⟨g, o, 0, cur, ?_, by omega, by omega, h3, by omega, ?_⟩
        · rw [if_pos rfl, hz, hlen.symm.trans hz, Nat.sub_self]
        · rw [hz2]; simp [bsV]
      · refine ⟨g, o + k, cap - k, cur, ?_, by omega, by omega, h3, by omega, by rw [hlen]; exact hmid⟩
        rw [if_neg he, hlen]
        simp [Addr.add]
    · unfold sliced
      split
      · rfl
      · simp only [rowOf, Addr.add, Option.map_some]
        split <;> rfl
theorem exec_sl {ev : Operand → Value} {op : Oper} {x y : Operand} (hop : op.op = .slice 27 x (some y) none none) (a : Option Addr) (n cap : Nat) (k : Nat) (hx : ev x = .slice a n cap) (hy : ev y = .int .i64 (k : Nat)) (hk : k ≤ n) (w : World) (v : Value) (hv : v = sliced a k n cap 1) :
    (execOp ev op).run Try.prog w = .ok (.value v) w := by
  have hu : Try.prog.underlying 27 = some (.slice (Try.prog.elem 27)) := by kernel_rfl
  subst hv
  have h1 := run_sliceAt_slice (P := Try.prog) (w := w) 27 (.slice a n cap) (some (.int .i64 (k : Nat))) none none hu
  have h2 := run_slice_l (P := Try.prog) (w := w) 27 a n cap hu .i64 (k : Nat) (by omega) (by omega)
  rw [h2, size5] at h1
  simp only [execOp, hop, hx, hy, Option.map_some, Option.map_none, Sem.run_bind, h1, Result.andThen_ok, Sem.run_pure, Int.toNat_natCast]
theorem num_any (x : Int) (w : World) : Calls Try.prog 19 #[.int .i64 x] w fun e w' => e = .returned (.int .i64 x) ∧ w = w' := by
  go_enter Try.func19, Try.ntmps19
  go_wp2
  go_ret
  exact ⟨rfl, rfl⟩
set_option maxHeartbeats 4000000 in
theorem rwaits (r : Rf) (k : Nat) (hk : r.taken = (k : Nat)) (hkn : k ≤ r.pn) (w : World) : Calls Try.prog 40 #[r.val] w fun e w' => e = .returned (sliced r.pa k r.pn r.pc 1) ∧ w.grownBy w' none := by
  have HG := Lib.hid (World.grownBy_alloc w (.cells r.cells 29) none)
  have HX := heap_alloc_new w (.cells r.cells 29)
  have c3 : (w.alloc (.cells r.cells 29)).cell? ⟨w.heap.size, 6, none⟩ = some (.slice r.pa r.pn r.pc) := cells_all HX 6
  have c4 : (w.alloc (.cells r.cells 29)).cell? ⟨w.heap.size, 7, none⟩ = some (.int .i64 r.taken) := cells_all HX 7
  rw [hk] at c4
  have HK := Lib.hid hk
  obtain ⟨nv, hnv⟩ : ∃ nv, nv = sliced r.pa k r.pn r.pc 1 := ⟨_, rfl⟩
  rw [← hnv]
  have HN := Lib.hid hnv
  clear HX hk hnv
  go_enter Try.func40, Try.ntmps40
  go_wp2_with (with_reducible refine hold_sl 27 _ _ _ _ rfl ?_)
  apply Lib.hid
  refine wpList_val (by rfl) (exec_sl (x := .tmp 4) (y := .tmp 6) rfl r.pa r.pn r.pc k (by rfl) (by first | rfl | exact congrArg (Value.int IntKind.i64) HK.out) hkn _ nv HN.out) ?_
  go_wp2
  go_ret
  exact ⟨rfl, HG.out⟩
end Go.Proofs.Ytmdgehpmeikgfaa
