/- log.Decode's variables, and how they stand. -/
import Derived.Test.YtpoifobhbmhelaaAE
import Derived.Test.YtpoifobhbmhelaaF2
set_option linter.unusedVariables false
set_option linter.unusedSimpArgs false
namespace Go.Proofs.Ytpoifobhbmhelaa
open Go.RowKit
theorem regx_open_n {P : Program} {ops : Array Oper} {Q : Exit → Act → World → Prop} (X : Nat → Prop) {id n : Nat} {a : Act} {w : World} (hn : ops.size = n) (hm : P.follows .mixedOrders = true)
    (h : wpAnyH P .any ops (OnlyNormal Q) (fun W => Keeps X w.drew W) n (Array.replicate n false) a w.drew) : (Code.region id ops true).wp P Q a w :=
  wp_mono (regx_open X hn hm h) OnlyNormal.out
def noU8 (cs : List Value) : Bool := cs.all (fun v => match v with | .int .u8 _ => false | _ => true)
/-- Bytes that can be read do not lie in a block of other cells. -/
theorem src_off {W : World} {x : Option Addr} {l : List UInt8} {B : Nat} {cs : List Value} {t : TypeId} {fz : Nat × Nat} (h : Go.Proofs.Ytpoifobhbmhelaa.Src W x l) (hB : W.heap[B]? = some (.cells cs.toArray t fz)) (hn : noU8 cs = true) (b o : Nat) (hx : x = some ⟨b, o, none⟩) (hl : l ≠ []) : b ≠ B := by
  rcases h with h | ⟨b', o', hx', hc⟩
  · exact absurd h hl
  · intro e
    rw [hx] at hx'
    cases hx'
    have hlp := List.length_pos_iff.2 hl
    have h0 := hc 0 hlp
    rw [e, cells_all hB] at h0
    rw [List.getElem?_toArray] at h0
    have hm : (Value.int .u8 (l[0].toNat : Int)) ∈ cs := List.mem_of_getElem? h0
    have := List.all_eq_true.1 hn _ hm
    simp at this
theorem Src.other {W W' : World} {x : Option Addr} {l : List UInt8} {B : Nat} {cs : List Value} {t : TypeId} {fz : Nat × Nat} (h : Go.Proofs.Ytpoifobhbmhelaa.Src W x l) (hB : W.heap[B]? = some (.cells cs.toArray t fz)) (hn : noU8 cs = true) (hg : W.grownBy W' (some B)) : Go.Proofs.Ytpoifobhbmhelaa.Src W' x l := by
  by_cases hl : l = []
  · exact .inl hl
  · exact h.kept hg (fun b o hx e => src_off h hB hn b o hx hl (by cases e; rfl))
/-- The variables: the log, how many bytes are read, the error, the bytes that are left, their reader. -/
structure Dv (w W : World) (B : Nat) (lf ls lm : Int) (ra : Option Addr) (rn rc : Nat) (lwh : Bool) (le rd : Int) (lx : Option Addr) (lc : Nat) (left : List UInt8) (ts : List Rv) : Prop where
  l : W.heap[w.heap.size]? = some (.cells #[.int .i64 lf, .int .i64 ls, .int .i64 lm, .slice ra rn rc, .bool lwh, .int .i64 le] 31 (0, 0))
  r : W.heap[w.heap.size + 1]? = some (.cells #[.int .i64 rd] 3 (0, 0))
  e : W.heap[w.heap.size + 1 + 1]? = some (.cells #[.int .i64 0] 32 (0, 0))
  f : Lf W B lx lc left
  d : Made w W (.slice ra rn rc) ts
  n : rn = ts.length
  g : w.grownBy W none
  b : w.heap.size + 1 + 1 < B
  q : ∀ b o, lx = some ⟨b, o, none⟩ → left ≠ [] → b < w.heap.size
variable {w W W' : World} {B : Nat} {lf ls lm : Int} {ra : Option Addr} {rn rc : Nat} {lwh : Bool} {le rd : Int} {lx : Option Addr} {lc : Nat} {left : List UInt8} {ts : List Rv}
theorem Dv.kept (h : Dv w W B lf ls lm ra rn rc lwh le rd lx lc left ts) (hg : W.grownBy W' none) : Dv w W' B lf ls lm ra rn rc lwh le rd lx lc left ts :=
  ⟨keep_blk hg h.l, keep_blk hg h.r, keep_blk hg h.e, ⟨h.f.s.keptNone hg, h.f.c, h.f.n, keep_blk hg h.f.b⟩, h.d.kept hg, h.n, h.g.trans hg, h.b, h.q⟩
/-- What is left has turned (by a reader, or by hand). -/
theorem Dv.step (h : Dv w W B lf ls lm ra rn rc lwh le rd lx lc left ts) {lx' : Option Addr} {lc' : Nat} {left' : List UInt8} (hl : Lf W' B lx' lc' left') (hg : W.grownBy W' (some B)) (hq : ∀ b o, lx' = some ⟨b, o, none⟩ → left' ≠ [] → b < w.heap.size) : Dv w W' B lf ls lm ra rn rc lwh le rd lx' lc' left' ts := by
  have hb := h.b
  exact ⟨(hg.block _ (lt_of_block h.l) (by simp; omega)).trans h.l, (hg.block _ (lt_of_block h.r) (by simp; omega)).trans h.r, (hg.block _ (lt_of_block h.e) (by simp; omega)).trans h.e, hl, h.d.other h.f.b (by decide) (by decide) hg, h.n, grown_new h.g hg (by omega), hb, hq⟩
theorem Lf.set {x' : Option Addr} {c' : Nat} {r : List UInt8} (h : Lf W B lx lc left) (hs : Go.Proofs.Ytpoifobhbmhelaa.Src W x' r) (hc : r.length ≤ c') : Lf (W.setCell ⟨B, 0, none⟩ (.slice x' r.length c')) B x' c' r ∧ W.grownBy (W.setCell ⟨B, 0, none⟩ (.slice x' r.length c')) (some B) :=
  ⟨lf_set h.b hs (fun b o hx hr => src_off (cs := [.slice lx left.length lc]) hs h.b rfl b o hx hr) hc, grown_setCell _ _ _ _⟩
theorem Lf.other {T : Nat} {cs : List Value} {t : TypeId} (h : Lf W B lx lc left) (hT : W.heap[T]? = some (.cells cs.toArray t (0, 0))) (hn : noU8 cs = true) (hne : B ≠ T) (hg : W.grownBy W' (some T)) : Lf W' B lx lc left :=
  ⟨Src.other h.s hT hn hg, h.c, h.n, (hg.block B (lt_of_block h.b) (by simpa using hne)).trans h.b⟩
/-- The log has turned. -/
theorem Dv.setL (h : Dv w W B lf ls lm ra rn rc lwh le rd lx lc left ts) {lf' ls' lm' : Int} {ra' : Option Addr} {rn' rc' : Nat} {lwh' : Bool} {le' : Int} {ts' : List Rv} (hg : W.grownBy W' (some w.heap.size)) (hl : W'.heap[w.heap.size]? = some (.cells #[.int .i64 lf', .int .i64 ls', .int .i64 lm', .slice ra' rn' rc', .bool lwh', .int .i64 le'] 31 (0, 0)))
    (hd : Made w W (.slice ra' rn' rc') ts') (hn : rn' = ts'.length) : Dv w W' B lf' ls' lm' ra' rn' rc' lwh' le' rd lx lc left ts' := by
  have hb := h.b
  exact ⟨hl, (hg.block _ (lt_of_block h.r) (by simp)).trans h.r, (hg.block _ (lt_of_block h.e) (by simp <;> omega)).trans h.e, Lf.other (cs := [.int .i64 lf, .int .i64 ls, .int .i64 lm, .slice ra rn rc, .bool lwh, .int .i64 le]) h.f h.l rfl (by omega) hg, hd.other h.l (by decide) (by decide) hg, hn, grown_new h.g hg (Nat.le_refl _), hb, h.q⟩
/-- A record more: an append, and the log turned. -/
theorem Dv.app (h : Dv w W B lf ls lm ra rn rc lwh le rd lx lc left ts) {V : World} {ra' : Option Addr} {rn' rc' : Nat} {ts' : List Rv} (hg : W.grownBy V (rowOf (.slice ra rn rc))) (h0 : w.grownBy V none) (hd : Made w V (.slice ra' rn' rc') ts') (hn : rn' = ts'.length) :
    V.heap[w.heap.size]? = some (.cells #[.int .i64 lf, .int .i64 ls, .int .i64 lm, .slice ra rn rc, .bool lwh, .int .i64 le] 31 (0, 0)) ∧ V.heap[w.heap.size + 1]? = some (.cells #[.int .i64 rd] 3 (0, 0)) ∧ V.heap[B]? = some (.cells #[.slice lx left.length lc] 23 (0, 0)) ∧ Dv w (V.setCell ⟨w.heap.size, 3, none⟩ (.slice ra' rn' rc')) B lf ls lm ra' rn' rc' lwh le rd lx lc left ts' := by
  have hb := h.b
  have hl := (hg.block _ (lt_of_block h.l) (fun e => h.d.g.ne h.l (by decide) e.symm)).trans h.l
  have hr := (hg.block _ (lt_of_block h.r) (fun e => h.d.g.ne h.r (by decide) e.symm)).trans h.r
  have he := (hg.block _ (lt_of_block h.e) (fun e => h.d.g.ne h.e (by decide) e.symm)).trans h.e
  have hB := (hg.block _ (lt_of_block h.f.b) (fun e => h.d.g.ne h.f.b (by decide) e.symm)).trans h.f.b
  have hs : Go.Proofs.Ytpoifobhbmhelaa.Src V lx left := by
    by_cases hle : left = []
    · exact .inl hle
    · exact h.f.s.kept hg (fun b o hx e => by have h1 := h.q b o hx hle; have h2 := h.d.r b e.symm; omega)
  have gs := grown_setCell V w.heap.size 3 (.slice ra' rn' rc')
  exact ⟨hl, hr, hB, heap_setCell_at (j := 3) _ hl, (gs.block _ (lt_of_block hr) (by simp)).trans hr, (gs.block _ (lt_of_block he) (by simp <;> omega)).trans he, Lf.other (cs := [.int .i64 lf, .int .i64 ls, .int .i64 lm, .slice ra rn rc, .bool lwh, .int .i64 le]) ⟨hs, h.f.c, h.f.n, hB⟩ hl rfl (by omega) gs, hd.other hl (by decide) (by decide) gs, hn, grown_new h0 gs (Nat.le_refl _), hb, h.q⟩
/-- How many bytes are read has turned. -/
theorem Dv.setR (h : Dv w W B lf ls lm ra rn rc lwh le rd lx lc left ts) (rd' : Int) : Dv w (W.setCell ⟨w.heap.size + 1, 0, none⟩ (.int .i64 rd')) B lf ls lm ra rn rc lwh le rd' lx lc left ts := by
  have hb := h.b
  have hg := grown_setCell W (w.heap.size + 1) 0 (.int .i64 rd')
  exact ⟨(hg.block _ (lt_of_block h.l) (by simp)).trans h.l, heap_setCell_at (j := 0) _ h.r, (hg.block _ (lt_of_block h.e) (by simp)).trans h.e, Lf.other (cs := [.int .i64 rd]) h.f h.r rfl (by omega) hg, h.d.other h.r (by decide) (by decide) hg, h.n, grown_new h.g hg (Nat.le_succ _), hb, h.q⟩
theorem Rd.other {C1 C2 C3 T : Nat} {e1 e2 : Int} {cs : Array Value} {t : TypeId} (h : Rd W B C1 C2 C3 e1 e2) (hb : W.heap[T]? = some (.cells cs t (0, 0))) (h1 : t ≠ 72) (h2 : t ≠ 32) (hg : W.grownBy W' (some T)) : Rd W' B C1 C2 C3 e1 e2 := by
  obtain ⟨n1, n2, n3⟩ := h.ne hb h1 h2
  exact h.row hg n1 n2 n3
theorem Rd.app {C1 C2 C3 : Nat} {e1 e2 : Int} {v : Value} {n : Nat} {vs : List Value} (h : Rd W B C1 C2 C3 e1 e2) (hd : Gs eR W v n vs) (hg : W.grownBy W' (rowOf v)) : Rd W' B C1 C2 C3 e1 e2 :=
  ⟨(hg.block _ (lt_of_block h.c1) (fun e => hd.ne h.c1 (by decide) e.symm)).trans h.c1, (hg.block _ (lt_of_block h.c2) (fun e => hd.ne h.c2 (by decide) e.symm)).trans h.c2, (hg.block _ (lt_of_block h.c3) (fun e => hd.ne h.c3 (by decide) e.symm)).trans h.c3⟩
theorem take_rest {b u v x : List UInt8} {f s m : Nat} (h1 : take (b.drop 4) = .num f u) (h2 : take u = .num s v) (h3 : take v = .num m x) : b.drop (b.length - x.length) = x ∧ x.length ≤ b.length := by
  have l1 := take_lt h1
  have l2 := take_lt h2
  have l3 := take_lt h3
  rw [List.length_drop] at l1
  have d1 := take_drop (l := b) (k := 4) (by omega) h1
  have d2 := take_drop (l := b) (k := b.length - u.length) (by omega) (by rw [d1]; exact h2)
  have d3 := take_drop (l := b) (k := b.length - v.length) (by omega) (by rw [d2]; exact h3)
  exact ⟨d3, by omega⟩
/-- An error. -/
theorem Dv.fail {D : Lg × Nat × Int} {tmps : Array Value} {err : Int} (h : Dv w W B lf ls lm ra rn rc lwh le rd lx lc left ts) (hD : D = (.zero, 0, err)) (h2 : tmps.getD 2 undef = .pointer (some ⟨w.heap.size, 0, none⟩)) (h3 : tmps.getD 3 undef = .pointer (some ⟨w.heap.size + 1, 0, none⟩)) (h4 : tmps.getD 4 undef = .pointer (some ⟨w.heap.size + 1 + 1, 0, none⟩)) (hz : err ≠ 0) :
    bodyPostD Try.prog Try.f15 (fun e w' => DecDo w D e w') (Exit.panic [{ v := .iface 66 (.agg #[.int .i64 err]), recovered := false }]) { tmps := tmps, defers := [{ target := .fn (.func 31) #[.pointer (some ⟨w.heap.size + 1 + 1, 0, none⟩), .pointer (some ⟨w.heap.size, 0, none⟩), .pointer (some ⟨w.heap.size + 1, 0, none⟩)], args := #[] }] } W :=
  dec_panic (cs0 := [.int .i64 lf, .int .i64 ls, .int .i64 lm, .slice ra rn rc, .bool lwh, .int .i64 le]) h.l rfl h.r h.e h2 h3 h4 hz (fun W' hk => DecDo.fail hD (grown_ge h.g hk))
theorem Dv.rl_after {X : Nat → Prop} (h : Dv w W B lf ls lm ra rn rc lwh le rd lx lc left ts) (hk : Keeps (fun k => k = w.heap.size + 1 + 1 ∨ k = w.heap.size ∨ k = w.heap.size + 1) W W') : RL W' ra ts := by
  have hno : ∀ {E : El} {v : Value} {n : Nat} {vs : List Value}, E.e ≠ 32 → E.e ≠ 31 → E.e ≠ 3 → Gs E W v n vs → Gs E W' v n vs := fun h1 h2 h3 hv => hv.keeps hk (fun k e hX => by
    rcases hX with rfl | rfl | rfl
    · exact hv.ne h.e (fun e => h1 e.symm) e
    · exact hv.ne h.l (fun e => h2 e.symm) e
    · exact hv.ne h.r (fun e => h3 e.symm) e)
  have hm : Made w W' (.slice ra rn rc) ts := ⟨hno (by decide) (by decide) (by decide) h.d.g, h.d.r, fun t ht => hno (by decide) (by decide) (by decide) (h.d.b t ht)⟩
  exact hm.rl h.n
/-- The bytes end too soon. -/
theorem Dv.soon {D : Lg × Nat × Int} {b : List UInt8} {k p : Nat} {tmps : Array Value} (h : Dv w W B lf ls lm ra rn rc lwh le rd lx lc left ts) (hD : D = dec2 b (some (⟨lf, ls, lm, rsOf ts, lwh, le⟩, k))) (hp : b.length - k = p) (hr : rd = (p : Nat)) (h2 : tmps.getD 2 undef = .pointer (some ⟨w.heap.size, 0, none⟩)) (h3 : tmps.getD 3 undef = .pointer (some ⟨w.heap.size + 1, 0, none⟩)) (h4 : tmps.getD 4 undef = .pointer (some ⟨w.heap.size + 1 + 1, 0, none⟩)) :
    bodyPostD Try.prog Try.f15 (fun e w' => DecDo w D e w') (Exit.panic [{ v := .iface 66 (.agg #[.int .i64 0]), recovered := false }]) { tmps := tmps, defers := [{ target := .fn (.func 31) #[.pointer (some ⟨w.heap.size + 1 + 1, 0, none⟩), .pointer (some ⟨w.heap.size, 0, none⟩), .pointer (some ⟨w.heap.size + 1, 0, none⟩)], args := #[] }] } W :=
  dec_soon (cs0 := [.int .i64 lf, .int .i64 ls, .int .i64 lm, .slice ra rn rc, .bool lwh, .int .i64 le]) h.l rfl h.r h.e h2 h3 h4 (fun W' hk => by
    have hrl := h.rl_after (X := fun _ => True) hk
    have hg := grown_ge h.g (hk.mono (fun i _ h => by omega))
    have hn := h.n
    subst hn hr
    exact DecDo.ok hD hp rfl hrl hg)
/-- A return. -/
theorem Dv.ret {D : Lg × Nat × Int} {b : List UInt8} {k p : Nat} {tmps : Array Value} (h : Dv w W B lf ls lm ra rn rc lwh le rd lx lc left ts) (hD : D = dec2 b (some (⟨lf, ls, lm, rsOf ts, lwh, le⟩, k))) (hp : b.length - k = p) (hr : rd = (p : Nat)) (h2 : tmps.getD 2 undef = .pointer (some ⟨w.heap.size, 0, none⟩)) (h3 : tmps.getD 3 undef = .pointer (some ⟨w.heap.size + 1, 0, none⟩)) (h4 : tmps.getD 4 undef = .pointer (some ⟨w.heap.size + 1 + 1, 0, none⟩)) :
    bodyPostD Try.prog Try.f15 (fun e w' => DecDo w D e w') Exit.ret { tmps := tmps, defers := [{ target := .fn (.func 31) #[.pointer (some ⟨w.heap.size + 1 + 1, 0, none⟩), .pointer (some ⟨w.heap.size, 0, none⟩), .pointer (some ⟨w.heap.size + 1, 0, none⟩)], args := #[] }] } W :=
  dec_ret (cs0 := [.int .i64 lf, .int .i64 ls, .int .i64 lm, .slice ra rn rc, .bool lwh, .int .i64 le]) h.l rfl h.r h.e h2 h3 h4 (by
    have hrl := h.d.rl h.n
    have hg := h.g
    have hn := h.n
    subst hn hr
    exact DecDo.ok hD hp rfl hrl hg)
theorem Dv.ret2 {V : World} {D : Lg × Nat × Int} {b : List UInt8} {k p : Nat} {tmps : Array Value} (h : Dv w W B lf ls lm ra rn rc lwh le rd lx lc left ts) (hk : Keeps (fun k => k = w.heap.size + 1 + 1 ∨ k = w.heap.size ∨ k = w.heap.size + 1) W V) (hL : V.heap[w.heap.size]? = some (.cells #[.int .i64 lf, .int .i64 ls, .int .i64 lm, .slice ra rn rc, .bool lwh, .int .i64 le] 31 (0, 0))) (hR : V.heap[w.heap.size + 1]? = some (.cells #[.int .i64 (p : Nat)] 3 (0, 0))) (hE : V.heap[w.heap.size + 1 + 1]? = some (.cells #[.int .i64 0] 32 (0, 0)))
    (hD : D = dec2 b (some (⟨lf, ls, lm, rsOf ts, lwh, le⟩, k))) (hp : b.length - k = p) (h2 : tmps.getD 2 undef = .pointer (some ⟨w.heap.size, 0, none⟩)) (h3 : tmps.getD 3 undef = .pointer (some ⟨w.heap.size + 1, 0, none⟩)) (h4 : tmps.getD 4 undef = .pointer (some ⟨w.heap.size + 1 + 1, 0, none⟩)) :
    bodyPostD Try.prog Try.f15 (fun e w' => DecDo w D e w') Exit.ret { tmps := tmps, defers := [{ target := .fn (.func 31) #[.pointer (some ⟨w.heap.size + 1 + 1, 0, none⟩), .pointer (some ⟨w.heap.size, 0, none⟩), .pointer (some ⟨w.heap.size + 1, 0, none⟩)], args := #[] }] } V :=
  dec_ret (cs0 := [.int .i64 lf, .int .i64 ls, .int .i64 lm, .slice ra rn rc, .bool lwh, .int .i64 le]) hL rfl hR hE h2 h3 h4 (by
    have hrl := h.rl_after (X := fun _ => True) hk
    have hg := grown_ge h.g (hk.mono (fun i _ h => by omega))
    have hn := h.n
    subst hn
    exact DecDo.ok hD hp rfl hrl hg)
theorem exec_ld31 {op : Oper} {ρ : Operand → Value} {W : World} {x : Operand} {b : Nat} {c0 c1 c2 c3 c4 c5 : Value} {fz : Nat × Nat} (ho : op.op = .load 31 x) (hx : ρ x = .pointer (some ⟨b, 0, none⟩)) (hb : W.heap[b]? = some (.cells ([c0, c1, c2, c3, c4, c5] : List Value).toArray 31 fz)) :
    (execOp ρ op).run Try.prog W = .ok (.value (.agg #[c0, c1, c2, c3, c4, c5])) W :=
  exec_ldm 31 ho b 0 hx [c0, c1, c2, c3, c4, c5] _ (fun j v hj => by rw [cells_all hb]; simpa using hj) Try.underlying31 rfl Try.size31
def rdOf (W : World) (R : Nat) : Nat := match W.cell? ⟨R, 0, none⟩ with | some v => (intOf v).toNat | none => 0
theorem Dv.rdOf (h : Dv w W B lf ls lm ra rn rc lwh le rd lx lc left ts) : rdOf W (w.heap.size + 1) = rd.toNat := by
  unfold Go.Proofs.Ytpoifobhbmhelaa.rdOf
  rw [cells_all h.r]
  rfl
end Go.Proofs.Ytpoifobhbmhelaa
