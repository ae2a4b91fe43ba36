/- An append behind a slice without room (a literal's bytes). -/
import Derived.Test.YtpoifobhbmhelaaW
import Derived.Lib.SlBytesConst
set_option linter.unusedVariables false
set_option linter.unusedSimpArgs false
namespace Go.Proofs.Ytpoifobhbmhelaa
open Go.RowKit
theorem append_full {E : El} {w : World} {a : Option Addr} {n : Nat} {vs : List Value} {x : Value} {m : Nat} {us : List Value} (tx ty : TypeId) (h : Go.Src Try.prog E.sz E.t (.slice a n n) n vs w) (hvl : vs.length = n * E.sz) (hvo : ∀ u ∈ vs, u.oneCell' = true) (hs : Go.Src Try.prog E.sz tx x m us w) (hone : ∀ u ∈ us, u.oneCell' = true) (hm : 0 < m) (hlen : n + m ≤ 1000000) :
    ∃ v' w', (Builtin.append_ #[E.t, tx] ty #[.slice a n n, x]).run Try.prog w = .ok v' w' ∧ Gs E w' v' (n + m) (vs ++ us) ∧ w.grownBy w' none ∧ rowOf v' = some w.heap.size := by
  have hlen2 : (n + m) * E.by_ ≤ 140737488355328 := Nat.le_trans (Nat.mul_le_mul hlen E.hb) (by decide)
  obtain ⟨i, hi, hz, hsz, hby⟩ := E.info
  have hs' : Go.Src Try.prog i.size tx x m us w := by rw [hsz]; exact hs
  have hul : us.length = m * E.sz := hs.newsLen
  have hall : ∀ u ∈ vs ++ us, u.oneCell' = true := fun u hu => (List.mem_append.1 hu).elim (hvo u) (hone u)
  have hp := E.hp
  have hold : (Builtin.firstCells i.size n (.slice a n n)).run Try.prog w.drew = .ok vs.toArray w.drew := by
    have := h.cellsD
    rw [hsz]
    exact this
  have hr := run_append_grow_src (P := Try.prog) w E.t tx ty E.e i E.z E.hu hi hz a n n vs hold x m us hs' (by omega) (by omega) (growslice_fits (by omega) (by rw [hby]; exact hlen2))
  have hge := grownCap_ge w (n + m) n E.e
  have hcm := grownCap_le_maxLen w (n + m) n E.e (by simp only [maxLen]; omega)
  generalize grownCap w (n + m) n E.e = cap' at *
  have hzc : (Builtin.zeroCells E.z.cells (cap' - (n + m))).size = (cap' - (n + m)) * E.sz := by rw [size_zeroCells, E.hz]
  refine ⟨_, _, hr, ⟨by rw [List.length_append, hvl, hul, Nat.add_mul], hall, .inr ⟨w.heap.size, 0, cap', vs ++ us ++ (Builtin.zeroCells E.z.cells (cap' - (n + m))).toList, rfl, hge, hcm, ?_, ?_, ?_⟩⟩, ⟨rfl, rfl, rfl, by simp, fun k hk _ => heap_alloc_old w.drew _ hk⟩, rfl⟩
  · have := heap_alloc_new w.drew (.cells ((vs ++ us).toArray ++ Builtin.zeroCells E.z.cells (cap' - (n + m))) E.e)
    refine this.trans ?_
    congr 2
    apply Array.ext'
    simp
  · simp only [List.length_append, hvl, hul, Array.length_toList, hzc]
    rw [← Nat.add_mul, ← Nat.add_mul, Nat.zero_add, show n + m + (cap' - (n + m)) = cap' from by omega]
    exact Nat.le_refl _
  · rw [List.drop_zero]
    exact List.take_left' (by rw [List.length_append, hvl, hul, Nat.add_mul])
/-- Bytes that an append may be put behind: made behind w0, or a literal's. -/
def Wb (w0 W : World) (v : Value) (l : List UInt8) : Prop :=
  Mb w0 W v l ∨ ∃ g, v = .slice (some ⟨g, 0, none⟩) l.length l.length ∧ w0.heap.size ≤ g ∧ (∃ (cs : Array Value) (fz : Nat × Nat), W.heap[g]? = some (.cells cs 5 fz)) ∧ Go.Proofs.Ytpoifobhbmhelaa.Src W (some ⟨g, 0, none⟩) l
theorem Mb.wb {w0 W : World} {v : Value} {l : List UInt8} (h : Mb w0 W v l) : Wb w0 W v l := .inl h
theorem Wb.shape {w0 W : World} {v : Value} {l : List UInt8} (h : Wb w0 W v l) : ∃ a c, v = .slice a l.length c ∧ l.length ≤ c := by
  rcases h with h | ⟨g, rfl, _, _, _⟩
  · exact h.shape
  · exact ⟨_, _, rfl, Nat.le_refl _⟩
theorem Wb.kept {w0 W W' : World} {v : Value} {l : List UInt8} (h : Wb w0 W v l) (hg : W.grownBy W' none) : Wb w0 W' v l := by
  rcases h with h | ⟨g, hv, h1, ⟨cs, fz, h3⟩, h2⟩
  · exact .inl (h.kept hg)
  · exact .inr ⟨g, hv, h1, ⟨cs, fz, keep_blk hg h3⟩, h2.keptNone hg⟩
theorem Wb.ne {w0 W : World} {v : Value} {l : List UInt8} (h : Wb w0 W v l) {T : Nat} {cs : Array Value} {t : TypeId} (hT : W.heap[T]? = some (.cells cs t (0, 0))) (ht : t ≠ 5) : rowOf v ≠ some T := by
  rcases h with h | ⟨g, rfl, h1, ⟨cs2, fz, h3⟩, h2⟩
  · exact h.1.ne hT ht
  · intro e
    cases e
    simp only at hT
    rw [h3] at hT
    cases hT
    exact ht rfl
theorem Wb.app {w0 W : World} {a : Option Addr} {q c : Nat} {l m : List UInt8} (tx ty : TypeId) {u : Value} (h : Wb w0 W (.slice a q c) l) (hq : q = l.length) (h0 : w0.grownBy W none) (hu : Go.Src Try.prog 1 tx u m.length (bsV m) W) (hm : 0 < m.length) (hlen : l.length + m.length ≤ 1000000) :
    ∃ v' w', (Builtin.append_ #[23, tx] ty #[.slice a q c, u]).run Try.prog W = .ok v' w' ∧ Mb w0 w' v' (l ++ m) ∧ w0.grownBy w' none ∧ W.grownBy w' (rowOf (.slice a q c)) ∧ (∀ r, rowOf (.slice a q c) = some r → w0.heap.size ≤ r) ∧ (∀ r, rowOf v' = some r → rowOf (.slice a q c) = some r ∨ W.heap.size ≤ r) := by
  rcases h with h | ⟨g, hv, h1, _, h2⟩
  · subst hq
    obtain ⟨v', w', hr, h3, h4, h5⟩ := Gs.append (E := eB) tx ty h.1 hu (bs_one m) hlen
    obtain ⟨h6, h7⟩ := Mb.app (W1 := W) h (World.grownBy.refl _ _) h3 h4 h5 h0 (Nat.le_refl _)
    exact ⟨v', w', hr, h6, h7, h4, h.2, fun r e => h5.elim (fun h => .inl (h ▸ e)) (fun h => .inr (by rw [h] at e; cases e; exact Nat.le_refl _))⟩
  · injection hv with e0 e1 e2
    subst e0 e1 e2
    obtain ⟨v', w', hr, h3, h4, h5⟩ := append_full (E := eB) tx ty (src_go h2) (by rw [bsV_length]; exact (Nat.mul_one _).symm) (bs_one l) hu (bs_one m) hm hlen
    refine ⟨v', w', hr, ⟨?_, fun k hk => ?_⟩, h0.trans h4, ⟨h4.os, h4.tape, h4.output, h4.size, fun k hk _ => h4.block k hk (by simp)⟩, fun r e => ?_, fun r e => .inr (by rw [h5] at e; cases e; exact Nat.le_refl _)⟩
    · rw [List.length_append, show bsV (l ++ m) = bsV l ++ bsV m from by simp [bsV]]; exact h3
    · rw [h5] at hk; cases hk; exact h0.size
    · cases e; exact h1
/-- THE APPEND behind such bytes, in a walk. -/
theorem wpList_wb {ops : Array Oper} {rest : List Oper} {o : Oper} {b : Act} {w0 W : World} {Q : Exit → Act → World → Prop} (hgd : o.guard = none) (s x : Operand) (tx : TypeId)
    (ho : o.op = .call { callee := .builtin .append, args := #[s, x], argTypes := #[23, tx] }) (a : Option Addr) (q c : Nat) (u : Value) (l m : List UInt8) (mn : Nat) (hmn : mn = m.length) (hs : b.eval s = .slice a q c) (hx : b.eval x = u) (h : Wb w0 W (.slice a q c) l) (hq : q = l.length) (h0 : w0.grownBy W none) (hu : Go.Src Try.prog 1 tx u mn (bsV m) W) (hm : 0 < mn) (hlen : q + mn ≤ 1000000)
    (k : ∀ v' w', Mb w0 w' v' (l ++ m) → w0.grownBy w' none → W.grownBy w' (rowOf (.slice a q c)) → (∀ r, rowOf (.slice a q c) = some r → w0.heap.size ≤ r) → (∀ r, rowOf v' = some r → rowOf (.slice a q c) = some r ∨ W.heap.size ≤ r) → wpList Try.prog ops Q rest (b.put o.dst v') w') : wpList Try.prog ops Q (o :: rest) b W := by
  subst hmn
  refine wpList_plain hgd fun K hK => ?_
  obtain ⟨v', w', hr, h2, h3, h4, h5, h6⟩ := Wb.app tx o.type h hq h0 hu hm (by omega)
  unfold Oper.wp execOp
  simp only [ho, resolve, invoke, builtin, Sem.run_bind, Sem.run_pure, Result.andThen_ok, List.map_toArray, List.map_cons, List.map_nil, hs, hx, hr]
  exact hK _ _ (k v' w' h2 h3 h4 h5 h6)
theorem lit_mark (w : World) (l : List UInt8) (p q : Nat) : Wb w (w.alloc (.cells (bsV l).toArray 5 (p, q))) (.slice (some ⟨w.heap.size, 0, none⟩) l.length l.length) l :=
  .inr ⟨_, rfl, Nat.le_refl _, ⟨_, _, heap_alloc_new w _⟩, src_lit w l p q⟩
theorem conv_lit (w : World) (C : Array Value) (n c : Nat) : (convert 23 23 (.slice (some ⟨w.heap.size, 0, none⟩) n c)).run Try.prog (w.alloc (.cells C 5)) = .ok (.slice (some ⟨w.heap.size, 0, none⟩) n c) (w.alloc (.cells C 5 (C.size, C.size + 1))) :=
  Lib.run_convert_bytes_const (P := Try.prog) w 23 5 C n c Try.underlying23 Try.underlying5
end Go.Proofs.Ytpoifobhbmhelaa
