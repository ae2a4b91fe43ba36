import Derived.Test.YtpoifobhbmhelaaGs
import Derived.Test.YtpoifobhbmhelaaBlkIn
import Derived.Test.YtpoifobhbmhelaaBw
set_option linter.unusedVariables false
set_option linter.unusedSimpArgs false
namespace Go.Proofs.Ytpoifobhbmhelaa
open Go.RowKit Go.Shelf
theorem elemB : Try.prog.elem 23 = 5 := by kernel_rfl
theorem elemR : Try.prog.elem 29 = 25 := by kernel_rfl
theorem Try.size25 : (Try.prog.info? 25).map (·.size) = some 4 := by kernel_rfl
theorem Try.size28 : (Try.prog.info? 28).map (·.size) = some 2 := by kernel_rfl
theorem Try.size31 : (Try.prog.info? 31).map (·.size) = some 6 := by kernel_rfl
theorem Try.size66 : (Try.prog.info? 66).map (·.size) = some 1 := by kernel_rfl
theorem Try.size86 : (Try.prog.info? 86).map (·.size) = some 4 := by kernel_rfl
variable {P : Program}
theorem wp_of_run {op : Oper} {a : Act} {w w' : World} {v : Value} {K : Act → World → Prop} {Q : Exit → Act → World → Prop} (h : (execOp a.eval op).run P w = .ok (.value v) w') (k : K (a.put op.dst v) w') : op.wp P a w K Q := by
  unfold Oper.wp
  rw [h]
  exact k
theorem Keeps.then {X Y : Nat → Prop} {a b c : World} (h : Keeps X a b) (k : Keeps Y b c) (hy : ∀ i, Y i → i < a.heap.size → X i) : Keeps X a c :=
  ⟨k.os.trans h.os, k.tape.trans h.tape, k.output.trans h.output, Nat.le_trans h.size k.size, fun i hi hx => (k.block i (Nat.lt_of_lt_of_le hi h.size) (fun e => hx (hy i e hi))).trans (h.block i hi hx)⟩
theorem Keeps.keep {X : Nat → Prop} {a b : World} (k : a.grownBy b none) : Keeps X a b := Keeps.of k (fun r e => by cases e)
theorem Keeps.row {X : Nat → Prop} {a b : World} {g : Nat} (k : a.grownBy b (some g)) (hg : X g) : Keeps X a b := Keeps.of k (fun r e => by cases e; exact hg)
theorem Keeps.mono {X Y : Nat → Prop} {a b : World} (k : Keeps X a b) (h : ∀ i, i < a.heap.size → X i → Y i) : Keeps Y a b :=
  ⟨k.os, k.tape, k.output, k.size, fun i hi hy => k.block i hi (fun hx => hy (h i hi hx))⟩
theorem Keeps.toGrown {X : Nat → Prop} {a b : World} (k : Keeps X a b) (h : ∀ i, i < a.heap.size → ¬ X i) : a.grownBy b none :=
  ⟨k.os, k.tape, k.output, k.size, fun i hi _ => k.block i hi (h i hi)⟩
theorem Keeps.fresh {X : Nat → Prop} {a b c : World} {g : Nat} (h : Keeps X a b) (k : b.grownBy c (some g)) (hg : a.heap.size ≤ g) : Keeps X a c :=
  h.then (Keeps.of (X := fun i => i = g) k (fun r e => by cases e; rfl)) (fun i e hi => by subst e; omega)
theorem Keeps.undrew {X : Nat → Prop} {a b : World} (h : Keeps X a.drew b) : Keeps X a b := ⟨h.os, h.tape, h.output, h.size, h.block⟩
theorem Keeps.drewk {X : Nat → Prop} {w : World} : Keeps X w w.drew := ⟨rfl, rfl, rfl, Nat.le_refl _, fun _ _ _ => rfl⟩
theorem keeps_cell {X : Nat → Prop} {w w' : World} {b o : Nat} {v : Value} (hg : Keeps X w w') (hc : w.cell? ⟨b, o, none⟩ = some v) (hn : ¬ X b) : w'.cell? ⟨b, o, none⟩ = some v := by
  have hb := hg.block b (World.block_lt_of_cell? w _ hc) hn
  rw [← hc]
  simp [World.cell?, hb]
theorem grown_new3 {a b c : World} {row : Option Nat} (h : a.grownBy b none) (k : b.grownBy c row) (hg : ∀ g, row = some g → a.heap.size ≤ g) : a.grownBy c none := by
  cases row with
  | none => exact h.trans k
  | some g => exact grown_new h k (hg g rfl)
theorem wp_of_exec {P : Program} {op : Oper} {a : Act} {w : World} {v : Value} {K : Act → World → Prop} {Q : Exit → Act → World → Prop} (h : (execOp a.eval op).run P w = .ok (.value v) w) (k : K (a.put op.dst v) w) : op.wp P a w K Q := by
  unfold Oper.wp
  rw [h]
  exact k
theorem wpList_val {P : Program} {ops : Array Oper} {rest : List Oper} {op : Oper} {a : Act} {w : World} {v : Value} {Q : Exit → Act → World → Prop} (hw : Region.wanted op (yielded ops a.tmps) = true) (h : (execOp a.eval op).run P w = .ok (.value v) w)
    (k : wpList P ops Q rest (a.put op.dst v) w) : wpList P ops Q (op :: rest) a w := by
  unfold wpList
  simp only [hw, if_true]
  exact .inl (wp_of_exec h k)
theorem hold_sl {P : Program} {ops : Array Oper} {rest : List Oper} {op : Oper} {a : Act} {w : World} {Q : Exit → Act → World → Prop} (ty : TypeId) (x : Operand) (lo hi mx : Option Operand) (_ : op.op = .slice ty x lo hi mx) (h : Hid (wpList P ops Q (op :: rest) a w)) : wpList P ops Q (op :: rest) a w := h.out
theorem El.size (E : El) (w : World) (he : Try.prog.elem E.t = E.e) : (sizeOf (Try.prog.elem E.t)).run Try.prog w = .ok E.sz w := by
  obtain ⟨i, hi, _, hs, _⟩ := E.info
  rw [he]
  simp [sizeOf, typeInfo, hi, hs]
theorem exec_sl (E : El) (he : Try.prog.elem E.t = E.e) {ev : Operand → Value} {op : Oper} {x y : Operand} (hop : op.op = .slice E.t x (some y) none none) (a : Option Addr) (n cap : Nat) (k : Nat) (hx : ev x = .slice a n cap) (hy : ev y = .int .i64 (k : Nat)) (hk : k ≤ n) (w : World) (v : Value) (hv : v = sliced a k n cap E.sz) :
    (execOp ev op).run Try.prog w = .ok (.value v) w := by
  have hu : Try.prog.underlying E.t = some (.slice (Try.prog.elem E.t)) := by rw [he]; exact E.hu
  subst hv
  have h1 := run_sliceAt_slice (P := Try.prog) (w := w) E.t (.slice a n cap) (some (.int .i64 (k : Nat))) none none hu
  have h2 := run_slice_l (P := Try.prog) (w := w) E.t a n cap hu .i64 (k : Nat) (by omega) (by omega)
  rw [h2, E.size w he] at h1
  simp only [execOp, hop, hx, hy, Option.map_some, Option.map_none, Sem.run_bind, h1, Result.andThen_ok, Sem.run_pure, Int.toNat_natCast]
theorem sliced_zero (a : Option Addr) (k cap s : Nat) : sliced a 0 k cap s = .slice a k cap := by
  cases a with
  | none => simp [sliced]
  | some a => simp [sliced, Addr.add]
theorem exec_sl_hi (E : El) (he : Try.prog.elem E.t = E.e) {ev : Operand → Value} {op : Oper} {x y : Operand} (hop : op.op = .slice E.t x none (some y) none) (a : Option Addr) (n cap : Nat) (k : Nat) (hx : ev x = .slice a n cap) (hy : ev y = .int .i64 (k : Nat)) (hk : k ≤ cap) (w : World) :
    (execOp ev op).run Try.prog w = .ok (.value (.slice a k cap)) w := by
  have hu : Try.prog.underlying E.t = some (.slice (Try.prog.elem E.t)) := by rw [he]; exact E.hu
  have h1 := run_sliceAt_slice (P := Try.prog) (w := w) E.t (.slice a n cap) none (some (.int .i64 (k : Nat))) none hu
  have h2 := run_slice_h (P := Try.prog) (w := w) E.t a n cap hu .i64 (k : Nat) (by omega) (by omega)
  rw [h2, E.size w he] at h1
  simp only [execOp, hop, hx, hy, Option.map_some, Option.map_none, Sem.run_bind, h1, Result.andThen_ok, Sem.run_pure, Int.toNat_natCast, sliced_zero]
theorem keep_blk {w w' : World} {b : Nat} {o : Obj} (hg : w.grownBy w' none) (h : w.heap[b]? = some o) : w'.heap[b]? = some o :=
  (hg.block b (lt_of_block h) (by simp)).trans h
theorem keep_cell {w w' : World} {b o : Nat} {v : Value} (hg : w.grownBy w' none) (h : w.cell? ⟨b, o, none⟩ = some v) : w'.cell? ⟨b, o, none⟩ = some v :=
  keeps_cell (X := fun _ => False) (Keeps.keep hg) h id
theorem bs_one (l : List UInt8) : ∀ u ∈ bsV l, u.oneCell' = true := by
  intro u hu
  obtain ⟨c, _, rfl⟩ := List.mem_map.1 hu
  rfl
theorem src_go {w : World} {a : Option Addr} {bs : List UInt8} {cap : Nat} (h : Go.Proofs.Ytpoifobhbmhelaa.Src w a bs) : Go.Src Try.prog 1 23 (.slice a bs.length cap) bs.length (bsV bs) w := by
  rcases h with rfl | ⟨b, o, rfl, h⟩
  · cases a with
    | none => exact Go.Src.ofNil w Try.underlying23 cap
    | some a => exact Go.Src.ofSlice w Try.underlying23 a 0 cap [] rfl (fun j u hj => by cases hj) (fun u hu => by cases hu)
  · exact Go.Src.ofSlice w Try.underlying23 ⟨b, o, none⟩ bs.length cap (bsV bs) (by simp [bsV]) (fun j u hj => by
      have hl : j < bs.length := by
        have := (List.getElem?_eq_some_iff.1 hj).1
        simpa [bsV] using this
      rw [Addr.add_lit, h j hl, ← hj]
      exact (bV_get bs j hl).symm) (bs_one bs)
theorem wp_gs (E : El) {o : Oper} {a : Act} {w : World} {K : Act → World → Prop} {Q : Exit → Act → World → Prop} (tx : TypeId) (s x : Operand) (ho : o.op = .call { callee := .builtin .append, args := #[s, x], argTypes := #[E.t, tx] }) (v u : Value) (n m : Nat) (vs us : List Value) (hs : a.eval s = v) (hx : a.eval x = u)
    (hv : Gs E w v n vs) (hu : Go.Src Try.prog E.sz tx u m us w) (hone : ∀ u ∈ us, u.oneCell' = true) (hlen : n + m ≤ 1000000)
    (h : ∀ v' w', Gs E w' v' (n + m) (vs ++ us) → w.grownBy w' (rowOf v) → (rowOf v' = rowOf v ∨ rowOf v' = some w.heap.size) → K (a.put o.dst v') w') : o.wp Try.prog a w K Q := by
  obtain ⟨v', w', hr, h2, h3, h4⟩ := Gs.append tx o.type hv hu hone hlen
  unfold Oper.wp execOp
  simp only [ho, resolve, invoke, builtin, Sem.run_bind, Sem.run_pure, Result.andThen_ok, List.map_toArray, List.map_cons, List.map_nil, hs, hx, hr]
  exact h v' w' h2 h3 h4
theorem hold_ld {P : Program} {ops : Array Oper} {rest : List Oper} {op : Oper} {a : Act} {w : World} {Q : Exit → Act → World → Prop} (ty : TypeId) (x : Operand) (_ : op.op = .load ty x) (h : Hid (wpList P ops Q (op :: rest) a w)) : wpList P ops Q (op :: rest) a w := h.out
theorem hold_st {P : Program} {ops : Array Oper} {rest : List Oper} {op : Oper} {a : Act} {w : World} {Q : Exit → Act → World → Prop} (ty : TypeId) (x y : Operand) (_ : op.op = .store ty x y) (h : Hid (wpList P ops Q (op :: rest) a w)) : wpList P ops Q (op :: rest) a w := h.out
theorem hold_ldn {P : Program} {ops : Array Oper} {rest : List Oper} {op : Oper} {a : Act} {w : World} {Q : Exit → Act → World → Prop} (ty : TypeId) (x : Operand) (_ : op.guard = none) (_ : op.op = .load ty x) (h : Hid (wpList P ops Q (op :: rest) a w)) : wpList P ops Q (op :: rest) a w := h.out
theorem results_ttt {fn : Func} {t u v : Tmp} (h : fn.results = #[.tmp t, .tmp u, .tmp v]) (tmps : Array Value) (w : World) : (results fn tmps).run Try.prog w = .ok (.tuple #[tmps.getD t undef, tmps.getD u undef, tmps.getD v undef]) w := by
  simp [results, h]
theorem cell_row {w w' : World} {X b o : Nat} {v : Value} (hg : w.grownBy w' (some X)) (hc : w.cell? ⟨b, o, none⟩ = some v) (hn : b ≠ X) : w'.cell? ⟨b, o, none⟩ = some v :=
  (World.cell?_of_block (a := ⟨b, o, none⟩) (hg.block b (World.block_lt_of_cell? w _ hc) (by simpa using hn))).trans hc
theorem block_kept {A B : World} {S : Nat} {cs : Array Value} {t : TypeId} {fz : Nat × Nat} {row : Option Nat} (h : A.heap[S]? = some (.cells cs t fz)) (hg : A.grownBy B row) (hr : ∀ r, row = some r → ∃ o : Obj, A.heap[r]? = some o ∧ o.isCells = false) : B.heap[S]? = some (.cells cs t fz) := by
  refine (hg.block S (lt_of_block h) (fun e => ?_)).trans h
  obtain ⟨o, ho, hc⟩ := hr S e.symm
  rw [h] at ho
  cases ho
  cases hc
theorem below_cell {n₀ : Nat} {w w' : World} (h : Below n₀ w w') {b o : Nat} (hb : b < n₀) : w'.cell? ⟨b, o, none⟩ = w.cell? ⟨b, o, none⟩ := h.cell (p := ⟨b, o, none⟩) hb
theorem conv_src {w : World} {a : Option Addr} {c : Nat} {l : List UInt8} (h : Go.Proofs.Ytpoifobhbmhelaa.Src w a l) : (convert 23 9 (.slice a l.length c)).run Try.prog w = .ok (.string ⟨l.toArray⟩) w := by
  cases a with
  | some a =>
    refine run_convert_bytes_back (P := Try.prog) w 23 9 5 a c l Try.underlying23 Try.underlying5 Try.underlying9 ?_
    intro j hj
    rcases h with rfl | ⟨g, o, h0, h⟩
    · simp at hj
    · cases h0
      rw [Addr.add_lit]
      exact h j hj
  | none =>
    obtain rfl : l = [] := by
      rcases h with h | ⟨g, o, h0, _⟩
      · exact h
      · cases h0
    exact run_convert_bytes_nil (P := Try.prog) w 23 5 Try.underlying23 Try.underlying5 0 c 9 Try.underlying9
theorem conv_srcn {w : World} {a : Option Addr} {n c : Nat} {l : List UInt8} (hn : n = l.length) (h : Go.Proofs.Ytpoifobhbmhelaa.Src w a l) : (convert 23 9 (.slice a n c)).run Try.prog w = .ok (.string ⟨l.toArray⟩) w := by
  subst hn
  exact conv_src h
theorem src_gon {w : World} {a : Option Addr} {n c : Nat} {bs : List UInt8} (hn : n = bs.length) (h : Go.Proofs.Ytpoifobhbmhelaa.Src w a bs) : Go.Src Try.prog 1 23 (.slice a n c) n (bsV bs) w := by
  subst hn
  exact src_go h
theorem wp_store_all {P : Program} {op : Oper} {a : Act} {w : World} {K : Act → World → Prop} {Q : Exit → Act → World → Prop} (ty : TypeId) (x y : Operand) (ho : op.op = .store ty x y)
    (b : Nat) (cs : List Value) (hx : a.eval x = .pointer (some ⟨b, 0, none⟩)) (hy : a.eval y = .agg cs.toArray) (cur : List Value) (t : TypeId) (hb : w.heap[b]? = some (.cells cur.toArray t (0, 0))) (hfit : cs.length = cur.length)
    (n : Nat) (hn : cs.length = n) (hi : (P.info? ty).map (·.size) = some n) (h1 : allOne cs = true)
    (h : ∀ w', w'.heap[b]? = some (.cells cs.toArray t (0, 0)) → w.grownBy w' (some b) → K (a.put op.dst undef) w') : op.wp P a w K Q := by
  obtain ⟨w', hrun, h2, h3⟩ := store_all (P := P) ty cs hb hfit (by subst hn; exact hi) h1
  unfold Oper.wp
  simp only [execOp, ho, hx, hy, Sem.run_bind, hrun, Result.andThen_ok, Sem.run_pure]
  exact h w' h2 h3
theorem exec_ldm {P : Program} {op : Oper} {ρ : Operand → Value} {W : World} {x : Operand} (ty : TypeId) (ho : op.op = .load ty x) (b o : Nat) (hx : ρ x = .pointer (some ⟨b, o, none⟩)) (cs : List Value) (d : TypeDesc) (hc : W.rangeAt b o cs)
    (hu : P.underlying ty = some d) (hd : d.isRow = true) (hi : (P.info? ty).map (·.size) = some cs.length) :
    (execOp ρ op).run P W = .ok (.value (.agg cs.toArray)) W := by
  have hrun := run_loadAt_mid (P := P) W b o ty cs d hc hu hd hi
  simp only [execOp, ho, hx, Sem.run_bind, hrun, Result.andThen_ok, Sem.run_pure]
theorem src_lit (w : World) (l : List UInt8) (p q : Nat) : Go.Proofs.Ytpoifobhbmhelaa.Src (w.alloc (.cells (bsV l).toArray 5 (p, q))) (some ⟨w.heap.size, 0, none⟩) l := by
  refine .inr ⟨_, _, rfl, fun j hj => ?_⟩
  rw [Nat.zero_add, cells_all (heap_alloc_new w _)]
  rw [List.getElem?_toArray]
  exact bV_get l j hj
theorem Keeps.below {X : Nat → Prop} {W W' : World} {B : Nat} (h : Keeps X W W') (hB : B ≤ W.heap.size) (hx : ∀ k, X k → B ≤ k) : Below B W W' :=
  ⟨h.os, h.tape, h.output, h.size, fun k hk => h.block k (by omega) (fun hX => by have := hx k hX; omega)⟩
end Go.Proofs.Ytpoifobhbmhelaa
