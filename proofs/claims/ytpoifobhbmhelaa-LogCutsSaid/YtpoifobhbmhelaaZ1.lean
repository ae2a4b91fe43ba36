/- log.Encode: what a round writes, and what is left behind all of them. -/
import Derived.Test.YtpoifobhbmhelaaZ0
set_option linter.unusedVariables false
set_option linter.unusedSimpArgs false
namespace Go.Proofs.Ytpoifobhbmhelaa
open Go.RowKit
def bdZ (z : Int) (t : Rv) : List UInt8 := [UInt8.ofNat t.k.toNat] ++ encZ (t.a - z) ++ encZ t.n ++ t.b
def recZ (z : Int) (t : Rv) : List UInt8 := encZ ((bdZ z t).length : Nat) ++ bdZ z t
def stepE (p : List UInt8 × Int) (t : Rv) : List UInt8 × Int := (p.1 ++ recZ p.2 t, t.a)
def foldE (ts : List Rv) (wh : Bool) (e : Int) (hd : List UInt8) (pre : List (Fin (endsN ts wh))) : List UInt8 × Int := pre.foldl (fun p x => stepE p (itemR ts e x.val)) (hd, 0)
theorem foldE_snoc (ts : List Rv) (wh : Bool) (e : Int) (hd : List UInt8) (pre : List (Fin (endsN ts wh))) (x : Fin (endsN ts wh)) : foldE ts wh e hd (pre ++ [x]) = stepE (foldE ts wh e hd pre) (itemR ts e x.val) := by simp [foldE]
theorem foldE_all (ts : List Rv) (wh : Bool) (e : Int) (hd : List UInt8) : foldE ts wh e hd (List.finRange (endsN ts wh)) = (ts ++ endL wh e).foldl stepE (hd, 0) := by
  rw [← items_all, List.foldl_map]
  rfl
theorem recZ_eq {z : Int} {t : Rv} (h : z ≤ t.a) (hn : 0 ≤ t.n) : recZ z t = recOf z t.k t.a t.n t.b := by
  have e0 : bdZ z t = bodyOf z t.k t.a t.n t.b := by
    unfold bdZ bodyOf
    obtain ⟨d, hd⟩ : ∃ d : Nat, t.a - z = d := ⟨(t.a - z).toNat, by omega⟩
    obtain ⟨m, hm⟩ : ∃ m : Nat, t.n = m := ⟨t.n.toNat, by omega⟩
    rw [hd, hm, encZ_nat, encZ_nat]
    simp
  unfold recZ recOf
  rw [e0, encZ_nat]
theorem fold_enc : ∀ (ts : List Rv) (P : List UInt8) (z : Int), RsOk z (rsOf ts) → ts.foldl stepE (P, z) = (P ++ recsOf z (rsOf ts), lastOf z (rsOf ts))
  | [], P, z, _ => by simp [recsOf, lastOf]
  | t :: r, P, z, h => by
    have h1 : Rt t.a t.k t.n t.b.length := h.1.1
    obtain ⟨_, ⟨n, hn, _⟩, _⟩ := ok_rec h1
    rw [List.foldl_cons, stepE, fold_enc r _ _ h.2, recZ_eq h.1.2 (by omega)]
    refine Prod.ext ?_ rfl
    show (P ++ recOf z t.k t.a t.n t.b) ++ recsOf t.a (rsOf r) = P ++ (recOf z t.k t.a t.n t.b ++ recsOf t.a (rsOf r))
    rw [List.append_assoc]
theorem fold_all {f s m e : Int} {ts : List Rv} {wh : Bool} (h : (⟨f, s, m, rsOf ts, wh, e⟩ : Lg).Ok) : (foldE ts wh e (headOf ⟨f, s, m, rsOf ts, wh, e⟩) (List.finRange (endsN ts wh))).1 = encL ⟨f, s, m, rsOf ts, wh, e⟩ := by
  rw [foldE_all, List.foldl_append, fold_enc ts _ _ h.2.1]
  unfold encL endOf
  cases wh with
  | false => simp [endL]
  | true =>
    have h2 : lastOf 0 (rsOf ts) ≤ e := h.2.2 rfl
    have e1 : recZ (lastOf 0 (rsOf ts)) ⟨e, 8, 0, [], none, 0⟩ = recOf (lastOf 0 (rsOf ts)) 8 e 0 [] := recZ_eq (t := ⟨e, 8, 0, [], none, 0⟩) h2 (by simp)
    simp only [endL, if_true, List.foldl_cons, List.foldl_nil, stepE, e1, List.append_assoc]
/-- What is so of each record that is told. -/
structure ItOk (t : Rv) : Prop where
  k1 : 1 ≤ t.k
  k8 : t.k ≤ 8
  a0 : 0 ≤ t.a
  a1 : t.a ≤ 4611686018427387904
  n0 : 0 ≤ t.n
  n1 : t.n ≤ 65535
  bl : t.b.length ≤ 2048
theorem it_rec {t : Rv} (h : Rt t.a t.k t.n t.b.length) : ItOk t := by
  obtain ⟨⟨k, hk, h1, h2⟩, ⟨n, hn, h3⟩, hb, ha, ha2⟩ := ok_rec h
  exact ⟨by omega, by omega, ha, ha2, by omega, by omega, hb⟩
theorem rs_it : ∀ (ts : List Rv) (z : Int), RsOk z (rsOf ts) → ∀ t ∈ ts, ItOk t
  | u :: r, z, h, t, ht => by
    rcases List.mem_cons.1 ht with rfl | ht
    · exact it_rec h.1.1
    · exact rs_it r u.a h.2 t ht
theorem it_all {f s m e : Int} {ts : List Rv} {wh : Bool} (h : (⟨f, s, m, rsOf ts, wh, e⟩ : Lg).Ok) (j : Nat) : ItOk (itemR ts e j) := by
  by_cases hj : j < ts.length
  · rw [itemR_lt hj]
    exact rs_it ts 0 h.2.1 _ (List.getElem_mem hj)
  · rw [itemR_ge hj]
    exact ⟨by simp, by simp, h.1.1.2.1, h.1.1.2.2, by simp, by simp, by simp⟩
theorem bdZ_len {t : Rv} (h : ItOk t) {z : Int} (h0 : 0 ≤ z) : (bdZ z t).length ≤ 19 + t.b.length := by
  have e1 := encZ_len (t.a - z) (by have := h.a1; omega)
  have e2 := encZ_len t.n (by have := h.n1; omega)
  simp only [bdZ, List.length_append, List.length_cons, List.length_nil]
  omega
theorem recZ_len {t : Rv} (h : ItOk t) {z : Int} (h0 : 0 ≤ z) : (recZ z t).length ≤ 2076 := by
  have e0 := bdZ_len h h0
  have e1 := encZ_len (((bdZ z t).length : Nat) : Int) (by have := h.bl; omega)
  have := h.bl
  simp only [recZ, List.length_append]
  omega
theorem foldE_len {f s m e : Int} {ts : List Rv} {wh : Bool} (h : (⟨f, s, m, rsOf ts, wh, e⟩ : Lg).Ok) (hd : List UInt8) : ∀ (n : Nat) (pre : List (Fin (endsN ts wh))), pre.length = n → (foldE ts wh e hd pre).1.length ≤ hd.length + n * 2076 ∧ 0 ≤ (foldE ts wh e hd pre).2 ∧ (foldE ts wh e hd pre).2 ≤ 4611686018427387904
  | 0, pre, hn => by
    obtain rfl : pre = [] := List.length_eq_zero_iff.1 hn
    simp [foldE]
  | n + 1, pre, hn => by
    obtain ⟨ini, x, rfl⟩ : ∃ ini x, pre = ini ++ [x] := ⟨pre.dropLast, pre.getLast (by intro e; subst e; simp at hn), (List.dropLast_concat_getLast _).symm⟩
    have ih := foldE_len h hd n ini (by simpa using hn)
    have hi := it_all h x.val
    have hr := recZ_len hi ih.2.1
    rw [foldE_snoc]
    simp only [stepE, List.length_append]
    exact ⟨by omega, hi.a0, hi.a1⟩
/-- Encode's variables: the writer, the time, the iterator's log. -/
structure EnS (wb : World) (T M C : Nat) (box : Array Value) (P : List UInt8) (z : Int) (v : Value) (W : World) : Prop where
  t : W.heap[T]? = some (.cells #[v] 56 (0, 0))
  p : Mb wb W v P
  m : W.heap[M]? = some (.cells #[.int .i64 z] 2 (0, 0))
  c : W.heap[C]? = some (.cells box 31 (0, 0))
theorem Gs.keptw {E : El} {w w' : World} {v : Value} {n : Nat} {vs : List Value} {row : Option Nat} (h : Gs E w v n vs) (hg : w.grownBy w' row) (hr : ∀ r, row = some r → ∃ o : Obj, w.heap[r]? = some o ∧ o.isCells = false) : Gs E w' v n vs :=
  h.kept hg (fun g hg' e => by
    obtain ⟨cs, hc⟩ := h.block g hg'
    obtain ⟨o, ho, hf⟩ := hr g e.symm
    rw [hc] at ho
    cases ho
    cases hf)
theorem EnS.own {wb : World} {T M C : Nat} {box : Array Value} {P : List UInt8} {z : Int} {v : Value} {A B : World} {row : Option Nat} (h : EnS wb T M C box P z v A) (hg : A.grownBy B row) (hr : ∀ r, row = some r → ∃ o : Obj, A.heap[r]? = some o ∧ o.isCells = false) : EnS wb T M C box P z v B :=
  ⟨block_kept h.t hg hr, ⟨h.p.1.keptw hg hr, h.p.2⟩, block_kept h.m hg hr, block_kept h.c hg hr⟩
theorem EnS.kept {wb : World} {T M C : Nat} {box : Array Value} {P : List UInt8} {z : Int} {v : Value} {A B : World} (h : EnS wb T M C box P z v A) (hg : A.grownBy B none) : EnS wb T M C box P z v B := h.own hg (fun r e => by cases e)
/-- The end of a round. -/
theorem enEnd {w wb V V7 : World} {T M C B : Nat} {box : Array Value} {P P' : List UInt8} {z z' : Int} {v v' : Value} (hF : EnS wb T M C box P z v V) (hBl : Below w.heap.size w V) (hk : Keeps (fun k => k = T ∨ rowOf v = some k ∨ k = M) V V7) (hw : w.heap.size ≤ wb.heap.size) (hT : wb.heap.size ≤ T) (hM : wb.heap.size ≤ M)
    (ht : V7.heap[T]? = some (.cells #[v'] 56 (0, 0))) (hp : Mb wb V7 v' P') (hm : V7.heap[M]? = some (.cells #[.int .i64 z'] 2 (0, 0))) (p : List UInt8 × Int) (hpp : p = (P', z')) :
    KeepsFrom B V V7 ∧ KC w.heap.size C V V7 ∧ (∃ v', EnS wb T M C box p.1 p.2 v' V7) ∧ Below w.heap.size w V7 := by
  subst hpp
  have hCT : C ≠ T := fun e => by have h1 := hF.c; rw [e, hF.t] at h1; cases h1
  have hCM : C ≠ M := fun e => by have h1 := hF.c; rw [e, hF.m] at h1; cases h1
  have hCR : rowOf v ≠ some C := hF.p.1.ne hF.c (by decide)
  have hCx : ¬ (C = T ∨ rowOf v = some C ∨ C = M) := fun h => h.elim hCT (fun h => h.elim hCR hCM)
  have hC7 := hk.block C (lt_of_block hF.c) hCx
  have hb : Below w.heap.size V V7 := hk.below hBl.size (fun k h => by
    rcases h with rfl | h | rfl
    · omega
    · have := hF.p.2 k h; omega
    · omega)
  refine ⟨⟨hk.size, fun k o hB hk' ho => (hk.block k (lt_of_block hk') (fun hX => ?_)).trans hk'⟩, ⟨hb, hC7⟩, ⟨v', ht, hp, hm, hC7.trans hF.c⟩, hBl.trans hb⟩
  rcases hX with rfl | h | rfl
  · rw [hF.t] at hk'; cases hk'; cases ho
  · obtain ⟨cs, hc⟩ := hF.p.1.block k h; rw [hc] at hk'; cases hk'; cases ho
  · rw [hF.m] at hk'; cases hk'; cases ho
end Go.Proofs.Ytpoifobhbmhelaa
