/- Tools for the two Decodes: the head's numbers, slices between two places, results. -/
import Derived.Test.YtpoifobhbmhelaaAA
set_option linter.unusedVariables false
set_option linter.unusedSimpArgs false
namespace Go.Proofs.Ytpoifobhbmhelaa
open Go.RowKit
abbrev lz : List Value := [.int .i64 0, .int .i64 0, .int .i64 0, .slice none 0 0, .bool false, .int .i64 0]
theorem results_c31 {fn : Func} {p t u : Tmp} (h : fn.results = #[.cell p 31, .tmp t, .tmp u]) (tmps : Array Value) (w : World) (g : Nat) (cs : Array Value) (hs : cs.size = 6)
    (hp : tmps.getD p undef = .pointer (some ⟨g, 0, none⟩)) (hg : w.heap[g]? = some (.cells cs 31 (0, 0))) : (results fn tmps).run Try.prog w = .ok (.tuple #[.agg cs, tmps.getD t undef, tmps.getD u undef]) w := by
  have hp' : tmps[p]?.getD undef = .pointer (some ⟨g, 0, none⟩) := by simpa using hp
  have hl := run_loadVar_row (P := Try.prog) w g 31 31 cs (0, 0) _ hg Try.underlying31 rfl (by rw [hs]; exact Try.size31)
  simp [results, h, hp', asAddr, hl]
theorem wp_store_blk {P : Program} {op : Oper} {a : Act} {w : World} {K : Act → World → Prop} {Q : Exit → Act → World → Prop} (ty : TypeId) (x y : Operand) (ho : op.op = .store ty x y)
    (b o : Nat) (cs : List Value) (hx : a.eval x = .pointer (some ⟨b, o, none⟩)) (hy : a.eval y = .agg cs.toArray) (cur : List Value) (t : TypeId) (hb : w.heap[b]? = some (.cells cur.toArray t (0, 0))) (hfit : Nat.ble (o + cs.length) cur.length = true)
    (n : Nat) (hn : cs.length = n) (hi : (P.info? ty).map (·.size) = some n) (h1 : allOne cs = true)
    (h : ∀ w', w'.heap[b]? = some (.cells (setMany cur o cs).toArray t (0, 0)) → w.grownBy w' (some b) → K (a.put op.dst undef) w') : op.wp P a w K Q := by
  obtain ⟨w', hrun, h2, h3⟩ := store_blk (P := P) ty cs hb hfit (by subst hn; exact hi) h1
  unfold Oper.wp
  simp only [execOp, ho, hx, hy, Sem.run_bind, hrun, Result.andThen_ok, Sem.run_pure]
  exact h w' h2 h3
theorem src_take {w : World} {x : Option Addr} {l : List UInt8} (h : Go.Proofs.Ytpoifobhbmhelaa.Src w x l) (k : Nat) : Go.Proofs.Ytpoifobhbmhelaa.Src w x (l.take k) := by
  rcases h with h | ⟨b, o, rfl, h⟩
  · exact .inl (by rw [h]; simp)
  · refine .inr ⟨b, o, rfl, fun j hj => ?_⟩
    have hj2 : j < l.length := by rw [List.length_take] at hj; omega
    rw [h j hj2, List.getElem_take]
theorem sl_lh {w : World} {x : Option Addr} {cap : Nat} {l : List UInt8} (h : Go.Proofs.Ytpoifobhbmhelaa.Src w x l) (hc : l.length ≤ cap) (lo n : Nat) (hn : lo + n ≤ l.length) : ∃ x' c', Go.sliced x lo (lo + n) cap 1 = .slice x' n c' ∧ n ≤ c' ∧ Go.Proofs.Ytpoifobhbmhelaa.Src w x' ((l.drop lo).take n) ∧ ((l.drop lo).take n).length = n := by
  have hlen : ((l.drop lo).take n).length = n := by rw [List.length_take, List.length_drop]; omega
  unfold Go.sliced
  by_cases he : cap = lo
  · subst he
    obtain rfl : n = 0 := by omega
    rw [if_pos rfl]
    exact ⟨_, _, by rw [Nat.add_sub_cancel_left], by omega, .inl (by simp), hlen⟩
  · rw [if_neg he]
    refine ⟨_, _, by rw [Nat.add_sub_cancel_left], by omega, ?_, hlen⟩
    rcases h with rfl | ⟨b, o, rfl, h⟩
    · exact .inl (by simp)
    · refine .inr ⟨b, o + lo, by simp [Addr.add], fun j hj => ?_⟩
      rw [hlen] at hj
      have := h (lo + j) (by omega)
      rw [← Nat.add_assoc] at this
      rw [this]
      simp
/-- The head's numbers, read one by one. -/
def HdS (b : List UInt8) : Nat → Nat → Nat → Nat → Nat → Prop
  | 0, at_, y0, y1, y2 => at_ = 4 ∧ y0 = 0 ∧ y1 = 0 ∧ y2 = 0 ∧ 4 ≤ b.length
  | 1, at_, y0, y1, y2 => ∃ u, take (b.drop 4) = .num y0 u ∧ b.drop at_ = u ∧ at_ ≤ b.length ∧ y0 ≤ 65536 ∧ y1 = 0 ∧ y2 = 0
  | 2, at_, y0, y1, y2 => ∃ u v, take (b.drop 4) = .num y0 u ∧ take u = .num y1 v ∧ b.drop at_ = v ∧ at_ ≤ b.length ∧ y0 ≤ 65536 ∧ y1 ≤ 65536 ∧ y2 = 0
  | _, at_, y0, y1, y2 => ∃ u v x, take (b.drop 4) = .num y0 u ∧ take u = .num y1 v ∧ take v = .num y2 x ∧ b.drop at_ = x ∧ at_ ≤ b.length ∧ y0 ≤ 65536 ∧ y1 ≤ 65536 ∧ y2 ≤ 65536
theorem HdS.le {b : List UInt8} {k at_ y0 y1 y2 : Nat} (h : HdS b k at_ y0 y1 y2) : at_ ≤ b.length := by
  match k with
  | 0 => obtain ⟨h1, _, _, _, h2⟩ := h; omega
  | 1 => obtain ⟨u, _, _, h, _⟩ := h; exact h
  | 2 => obtain ⟨u, v, _, _, _, h, _⟩ := h; exact h
  | k + 3 => obtain ⟨u, v, x, _, _, _, _, h, _⟩ := h; exact h
theorem decL_nm {b : List UInt8} (h : b.take 4 ≠ magic) : decL b = (.zero, 0, 261) := by unfold decL; rw [if_neg h]
theorem decL_f {b : List UInt8} (h : ∀ n r, take (b.drop 4) ≠ .num n r) : decL b = (.zero, 0, 261) := by
  unfold decL
  split
  · split
    · rename_i h1; exact absurd h1 (h _ _)
    · rfl
  · rfl
theorem decL_s {b u : List UInt8} {f : Nat} (h1 : take (b.drop 4) = .num f u) (h : ∀ n r, take u ≠ .num n r) : decL b = (.zero, 0, 261) := by
  unfold decL
  rw [h1]
  cases h2 : take u with
  | num n r => exact absurd h2 (h n r)
  | no => simp [h2]
  | soon => simp [h2]
theorem decL_m {b u v : List UInt8} {f s : Nat} (h1 : take (b.drop 4) = .num f u) (h2 : take u = .num s v) (h : ∀ n r, take v ≠ .num n r) : decL b = (.zero, 0, 261) := by
  unfold decL
  rw [h1]
  simp only
  rw [h2]
  cases h3 : take v with
  | num n r => exact absurd h3 (h n r)
  | no => simp [h3]
  | soon => simp [h3]
theorem decL_hd {b u v x : List UInt8} {f s m : Nat} (h1 : take (b.drop 4) = .num f u) (h2 : take u = .num s v) (h3 : take v = .num m x) (h : ¬ Hd f s m) : decL b = (.zero, 0, 261) := by
  unfold decL
  split
  · rw [h1]
    simp only
    rw [h2]
    simp only
    rw [h3]
    simp only
    rw [if_neg h]
  · rfl
/-- What is told behind the head. -/
def dec2 (b : List UInt8) : Option (Lg × Nat) → Lg × Nat × Int
  | none => (.zero, 0, 260)
  | some (l, k) => (l, b.length - k, 0)
theorem decL_ok {b u v x : List UInt8} {f s m : Nat} (h0 : b.take 4 = magic) (h1 : take (b.drop 4) = .num f u) (h2 : take u = .num s v) (h3 : take v = .num m x) (h : Hd f s m) : decL b = dec2 b (decR 0 ⟨f, s, m, [], false, 0⟩ x) := by
  unfold decL
  rw [if_pos h0, h1]
  simp only
  rw [h2]
  simp only
  rw [h3]
  simp only
  rw [if_pos h]
  unfold dec2
  cases decR 0 ⟨f, s, m, [], false, 0⟩ x with
  | none => rfl
  | some p => rfl
theorem not_hd {f s m : Nat} (h : ¬ (f ≤ 65536 ∧ s ≤ 65536 ∧ m ≤ 65536)) : ¬ Hd f s m := fun hd => h ⟨by have := hd.1.1.2; omega, by have := hd.1.2.2; omega, by have := hd.2.2; omega⟩
/-- A number that is too great, wherever it stands in the head. -/
theorem decL_bf {b u : List UInt8} {f : Nat} (h1 : take (b.drop 4) = .num f u) (hb : ¬ f ≤ 65536) : decL b = (.zero, 0, 261) := by
  cases h2 : take u with
  | no => exact decL_s h1 (fun n r e => by rw [h2] at e; cases e)
  | soon => exact decL_s h1 (fun n r e => by rw [h2] at e; cases e)
  | num s v =>
    cases h3 : take v with
    | no => exact decL_m h1 h2 (fun n r e => by rw [h3] at e; cases e)
    | soon => exact decL_m h1 h2 (fun n r e => by rw [h3] at e; cases e)
    | num m x => exact decL_hd h1 h2 h3 (not_hd (fun h => hb h.1))
theorem decL_bs {b u v : List UInt8} {f s : Nat} (h1 : take (b.drop 4) = .num f u) (h2 : take u = .num s v) (hb : ¬ s ≤ 65536) : decL b = (.zero, 0, 261) := by
  cases h3 : take v with
  | no => exact decL_m h1 h2 (fun n r e => by rw [h3] at e; cases e)
  | soon => exact decL_m h1 h2 (fun n r e => by rw [h3] at e; cases e)
  | num m x => exact decL_hd h1 h2 h3 (not_hd (fun h => hb h.2.1))
theorem hd_fail {b : List UInt8} {k at_ y0 y1 y2 : Nat} (h : HdS b k at_ y0 y1 y2) (hk : k < 3) (ht : ∀ n r, take (b.drop at_) ≠ .num n r) : decL b = (.zero, 0, 261) := by
  match k, hk with
  | 0, _ => obtain ⟨rfl, _⟩ := h; exact decL_f ht
  | 1, _ => obtain ⟨u, h1, rfl, _⟩ := h; exact decL_s h1 ht
  | 2, _ => obtain ⟨u, v, h1, h2, rfl, _⟩ := h; exact decL_m h1 h2 ht
theorem hd_big {b r : List UInt8} {k at_ y0 y1 y2 n : Nat} (h : HdS b k at_ y0 y1 y2) (hk : k < 3) (ht : take (b.drop at_) = .num n r) (hn : ¬ n ≤ 65536) : decL b = (.zero, 0, 261) := by
  match k, hk with
  | 0, _ => obtain ⟨rfl, _⟩ := h; exact decL_bf ht hn
  | 1, _ => obtain ⟨u, h1, rfl, _⟩ := h; exact decL_bs h1 ht hn
  | 2, _ => obtain ⟨u, v, h1, h2, rfl, _⟩ := h; exact decL_hd h1 h2 ht (not_hd (fun h => hn h.2.2))
theorem hd_0 {b r : List UInt8} {at_ y0 y1 y2 n : Nat} (h : HdS b 0 at_ y0 y1 y2) (ht : take (b.drop at_) = .num n r) (hn : n ≤ 65536) : HdS b 1 (b.length - r.length) n y1 y2 := by
  have hd := take_drop h.le ht
  obtain ⟨rfl, h0, h1, h2, h3⟩ := h
  exact ⟨r, ht, hd, by omega, hn, h1, h2⟩
theorem hd_1 {b r : List UInt8} {at_ y0 y1 y2 n : Nat} (h : HdS b 1 at_ y0 y1 y2) (ht : take (b.drop at_) = .num n r) (hn : n ≤ 65536) : HdS b 2 (b.length - r.length) y0 n y2 := by
  have hd := take_drop h.le ht
  obtain ⟨u, h1, rfl, h2, h3, h4, h5⟩ := h
  exact ⟨_, r, h1, ht, hd, by omega, h3, hn, h5⟩
theorem hd_2 {b r : List UInt8} {at_ y0 y1 y2 n : Nat} (h : HdS b 2 at_ y0 y1 y2) (ht : take (b.drop at_) = .num n r) (hn : n ≤ 65536) : HdS b 3 (b.length - r.length) y0 y1 n := by
  have hd := take_drop h.le ht
  obtain ⟨u, v, h1, h2, rfl, h3, h4, h5, h6⟩ := h
  exact ⟨_, _, r, h1, h2, ht, hd, by omega, h4, h5, hn⟩
theorem tk_res (len : Nat) (t : Tk) : ∃ p q : Int, tkRes len t = .tuple #[.int .i64 p, .int .i64 q] := by cases t <;> exact ⟨_, _, rfl⟩
theorem exec_sl_lh (E : El) (he : Try.prog.elem E.t = E.e) {ev : Operand → Value} {op : Oper} {x y z : Operand} (hop : op.op = .slice E.t x (some y) (some z) none) (a : Option Addr) (n cap : Nat) (k m : Nat) (hx : ev x = .slice a n cap) (hy : ev y = .int .i64 (k : Nat)) (hz : ev z = .int .i64 (m : Nat)) (hk : k ≤ m) (hm : m ≤ cap) (w : World) (v : Value) (hv : Go.sliced a k m cap E.sz = v) :
    (execOp ev op).run Try.prog w = .ok (.value v) w := by
  have hu : Try.prog.underlying E.t = some (.slice (Try.prog.elem E.t)) := by rw [he]; exact E.hu
  subst hv
  have h1 := run_sliceAt_slice (P := Try.prog) (w := w) E.t (.slice a n cap) (some (.int .i64 (k : Nat))) (some (.int .i64 (m : Nat))) none hu
  have h2 := run_slice_lh (P := Try.prog) (w := w) E.t a n cap hu .i64 .i64 (k : Nat) (m : Nat) (by omega) (by omega) (by omega)
  rw [h2, E.size w he] at h1
  simp only [execOp, hop, hx, hy, hz, Option.map_some, Option.map_none, Sem.run_bind, h1, Result.andThen_ok, Sem.run_pure, Int.toNat_natCast]
theorem DecDo.ok {w W : World} {b : List UInt8} {D : Lg × Nat × Int} {l : Lg} {k p : Nat} {a : Option Addr} {c : Nat} {ts : List Rv} {f s m e : Int} {wh : Bool} (hD : D = dec2 b (some (l, k))) (hp : b.length - k = p) (hl : l = ⟨f, s, m, rsOf ts, wh, e⟩) (hr : RL W a ts) (hg : w.grownBy W none) :
    DecDo w D (.returned (.tuple #[lgV f s m a ts.length c wh e, .int .i64 (p : Nat), .int .i64 0])) W := by
  subst hD hp hl
  exact ⟨a, c, ts, rfl, rfl, hr, hg⟩
theorem rec8_rest {r : Rc} {z : Int} (h : (r.k = 8 ∧ r.n = 0 ∧ r.b = []) ∨ (r.Ok ∧ r.k ≠ 8)) : 1 ≤ r.k ∧ r.k ≤ 8 ∧ (r.k = 8 ∨ r.Ok) := by
  rcases h with h | h
  · omega
  · have h1 := ok_rec (t := ⟨r.a, r.k, r.n, r.b, none, 0⟩) h.1
    obtain ⟨⟨k, hk, h2, h3⟩, _⟩ := h1
    simp only at hk
    exact ⟨by omega, by omega, .inr h.1⟩
end Go.Proofs.Ytpoifobhbmhelaa
