/- log.Check. -/
import Derived.Test.YtpoifobhbmhelaaS
import Derived.Scope
import Derived.Laws.Cover3
set_option linter.unusedVariables false
set_option linter.unusedSimpArgs false
namespace Go.Proofs.Ytpoifobhbmhelaa
open Go.RowKit Go.Shelf
attribute [local go_sem] Oper.semAt_some
@[local go_sem] theorem eql_nil (a : Option Addr) (l c : Nat) (w : World) : (binOp .eql 23 (.slice a l c) (.slice none 0 0)).run Try.prog w = .ok (.bool a.isNone) w := by
  simp [binOp, run_equal_slice_nil w 23 5 a l c Try.underlying23, eqGuard, go_sem]
/-- What may be ahead of all records. -/
abbrev Fr0 (f s m : Int) (wh : Bool) (e : Int) : Prop := (Hd f s m ∧ (0 ≤ e ∧ e ≤ 4611686018427387904)) ∧ (wh = true ∨ e = 0)
instance (f s m : Int) (wh : Bool) (e : Int) : Decidable (Fr0 f s m wh e) := by unfold Fr0; infer_instance
abbrev boxL (f s m : Int) (a : Option Addr) (n c : Nat) (wh : Bool) (e : Int) : Obj := .cells #[.int .i64 f, .int .i64 s, .int .i64 m, .slice a n c, .bool wh, .int .i64 e] 31
theorem ck_new {w w2 : World} {B : Nat} {o : Obj} (fv : Bool) (hB : w2.heap[B]? = some o) (hg : w.grownBy w2 none) (hlt : B < w2.heap.size) :
    (w2.alloc (.cells #[.bool fv] 4)).heap[w2.heap.size]? = some (.cells #[.bool fv] 4 (0, 0)) ∧ (w2.alloc (.cells #[.bool fv] 4)).heap[B]? = some o ∧ w.grownBy (w2.alloc (.cells #[.bool fv] 4)) none ∧ B < w2.heap.size :=
  ⟨heap_alloc_new _ _, (heap_alloc_old _ _ hlt).trans hB, hg.trans (World.grownBy_alloc _ _ _), hlt⟩
theorem fr_d {p : Prop} [Decidable p] {b : Bool} (h : b = decide p) : b = decide p := h
/-- One record more. -/
def okT (wh : Bool) (e : Int) (t : Rv) : Bool := decide (t.k = 8 ∧ t.a = e ∧ t.x = none ∧ t.n = 0 ∧ wh = true) || decide (Rt t.a t.k t.n t.b.length)
def stepC (wh : Bool) (e : Int) (p : Bool × Int) (t : Rv) : Bool × Int := (p.1 && decide (p.2 ≤ t.a) && okT wh e t, t.a)
def foldC (ts : List Rv) (wh : Bool) (e : Int) (f0 : Bool) (pre : List (Fin (endsN ts wh))) : Bool × Int := pre.foldl (fun p x => stepC wh e p (itemR ts e x.val)) (f0, 0)
theorem foldC_snoc (ts : List Rv) (wh : Bool) (e : Int) (f0 : Bool) (pre : List (Fin (endsN ts wh))) (x : Fin (endsN ts wh)) : foldC ts wh e f0 (pre ++ [x]) = stepC wh e (foldC ts wh e f0 pre) (itemR ts e x.val) := by simp [foldC]
abbrev endL (wh : Bool) (e : Int) : List Rv := if wh then [⟨e, 8, 0, [], none, 0⟩] else []
theorem endL_len (wh : Bool) (e : Int) : (endL wh e).length = if wh then 1 else 0 := by cases wh <;> rfl
theorem item_get (ts : List Rv) (wh : Bool) (e : Int) (i : Nat) (h : i < endsN ts wh) : (ts ++ endL wh e)[i]? = some (itemR ts e i) := by
  by_cases hi : i < ts.length
  · rw [List.getElem?_append_left hi, itemR_lt hi]
    exact List.getElem?_eq_getElem hi
  · rw [List.getElem?_append_right (by omega), itemR_ge hi]
    cases wh with
    | false => simp [endsN] at h; omega
    | true =>
      have h0 : i - ts.length = 0 := by simp [endsN] at h; omega
      rw [h0]
      rfl
theorem items_all (ts : List Rv) (wh : Bool) (e : Int) : (List.finRange (endsN ts wh)).map (fun x => itemR ts e x.val) = ts ++ endL wh e := by
  apply List.ext_getElem
  · rw [List.length_map, List.length_finRange, List.length_append, endL_len]
  · intro i h1 h2
    have h3 : i < endsN ts wh := by simpa using h1
    have := item_get ts wh e i h3
    rw [List.getElem?_eq_getElem h2] at this
    simp only [List.getElem_map, List.getElem_finRange]
    exact (Option.some.inj this).symm
theorem foldC_all (ts : List Rv) (wh : Bool) (e : Int) (f0 : Bool) : foldC ts wh e f0 (List.finRange (endsN ts wh)) = (ts ++ endL wh e).foldl (stepC wh e) (f0, 0) := by
  rw [← items_all, List.foldl_map]
  rfl
theorem rt_8 {a n c : Int} : ¬ Rt a 8 n c := fun h => h.2
theorem fold_rs (wh : Bool) (e : Int) : ∀ (ts : List Rv) (b : Bool) (z : Int), (∀ t ∈ ts, t.k ≠ 8) → ts.foldl (stepC wh e) (b, z) = (b && decide (RsOk z (rsOf ts)), lastOf z (rsOf ts))
  | [], b, z, _ => by simp [RsOk, lastOf]
  | t :: r, b, z, h => by
    have ht : t.k ≠ 8 := h t (by simp)
    rw [List.foldl_cons, stepC, fold_rs wh e r _ _ (fun u hu => h u (by simp [hu]))]
    have e1 : okT wh e t = decide (Rt t.a t.k t.n t.b.length) := by simp [okT, ht]
    have e2 : decide (RsOk z (rsOf (t :: r))) = (decide (Rt t.a t.k t.n t.b.length) && decide (z ≤ t.a) && decide (RsOk t.a (rsOf r))) := by
      rw [Bool.eq_iff_iff]
      simp only [decide_eq_true_eq, Bool.and_eq_true]
      exact Iff.rfl
    rw [e1, e2]
    refine Prod.ext ?_ rfl
    simp only
    cases b <;> simp [Bool.and_comm, Bool.and_assoc]
theorem rs_8 : ∀ (ts : List Rv) (z : Int) (t : Rv), t ∈ ts → t.k = 8 → ¬ RsOk z (rsOf ts)
  | u :: r, z, t, hm, hk, h => by
    rcases List.mem_cons.1 hm with rfl | hm
    · have h1 : Rt t.a t.k t.n t.b.length := h.1.1
      rw [hk] at h1
      exact rt_8 h1
    · exact rs_8 r u.a t hm hk h.2
theorem ck_all (f s m : Int) (ts : List Rv) (wh : Bool) (e : Int) : ((foldC ts wh e (decide (Fr0 f s m wh e)) (List.finRange (endsN ts wh))).1 && ts.all (fun t => t.k != 8)) = decide (⟨f, s, m, rsOf ts, wh, e⟩ : Lg).Ok := by
  by_cases h8 : ∀ t ∈ ts, t.k ≠ 8
  · have ha : ts.all (fun t => t.k != 8) = true := by
      rw [List.all_eq_true]
      intro t ht
      simpa using h8 t ht
    rw [ha, Bool.and_true, foldC_all, List.foldl_append, fold_rs wh e ts _ _ h8]
    rw [Bool.eq_iff_iff]
    simp only [decide_eq_true_eq]
    cases wh with
    | false =>
      simp only [endL, Bool.false_eq_true, if_false, List.foldl_nil, Bool.and_eq_true, decide_eq_true_eq]
      exact ⟨fun h => ⟨h.1, h.2, fun h => absurd h Bool.false_ne_true⟩, fun h => ⟨h.1, h.2.1⟩⟩
    | true =>
      simp only [endL, if_true, List.foldl_cons, List.foldl_nil, stepC, okT, Bool.and_eq_true, decide_eq_true_eq, and_self, decide_true, Bool.true_or, and_true]
      exact ⟨fun h => ⟨h.1.1, h.1.2, fun _ => h.2⟩, fun h => ⟨⟨h.1, h.2.1⟩, h.2.2 rfl⟩⟩
  · have h8' : ∃ t, t ∈ ts ∧ t.k = 8 := by
      apply Classical.byContradiction
      intro h
      exact h8 (fun t ht hk => h ⟨t, ht, hk⟩)
    obtain ⟨t, ht, hk⟩ := h8'
    have ha : ts.all (fun t => t.k != 8) = false := by
      rw [List.all_eq_false]
      exact ⟨t, ht, by simp [hk]⟩
    rw [ha, Bool.and_false]
    exact (decide_eq_false (fun h : Lg.Ok _ => rs_8 ts 0 t ht hk h.2.1)).symm
/-- The blocks of Check's variables. -/
structure CkS (w : World) (S M : Nat) (box : Array Value) (fv : Bool) (lz : Int) (W : World) : Prop where
  b : W.heap[w.heap.size]? = some (.cells box 31 (0, 0))
  s : W.heap[S]? = some (.cells #[.bool fv] 4 (0, 0))
  l : W.heap[M]? = some (.cells #[.int .i64 lz] 2 (0, 0))
theorem CkS.own {w : World} {S M : Nat} {box : Array Value} {fv : Bool} {lz : Int} {A B : World} {row : Option Nat} (h : CkS w S M box fv lz A) (hg : A.grownBy B row) (hr : ∀ r, row = some r → ∃ o : Obj, A.heap[r]? = some o ∧ o.isCells = false) : CkS w S M box fv lz B :=
  ⟨block_kept h.b hg hr, block_kept h.s hg hr, block_kept h.l hg hr⟩
theorem CkS.kept {w : World} {S M : Nat} {box : Array Value} {fv : Bool} {lz : Int} {A B : World} (h : CkS w S M box fv lz A) (hg : A.grownBy B none) : CkS w S M box fv lz B := h.own hg (fun r e => by cases e)
theorem CkS.setS {w : World} {S M : Nat} {box : Array Value} {fv : Bool} {lz : Int} {A : World} (h : CkS w S M box fv lz A) (h1 : w.heap.size < S) (h2 : S < M) (v : Bool) : CkS w S M box v lz (A.setCell ⟨S, 0, none⟩ (.bool v)) := by
  have g := grown_setCell A S 0 (.bool v)
  exact ⟨(g.block _ (lt_of_block h.b) (by simp; omega)).trans h.b, heap_setCell_at _ h.s, (g.block _ (lt_of_block h.l) (by simp; omega)).trans h.l⟩
theorem CkS.setL {w : World} {S M : Nat} {box : Array Value} {fv : Bool} {lz : Int} {A : World} (h : CkS w S M box fv lz A) (h1 : w.heap.size < S) (h2 : S < M) (z : Int) : CkS w S M box fv z (A.setCell ⟨M, 0, none⟩ (.int .i64 z)) := by
  have g := grown_setCell A M 0 (.int .i64 z)
  exact ⟨(g.block _ (lt_of_block h.b) (by simp; omega)).trans h.b, (g.block _ (lt_of_block h.s) (by simp; omega)).trans h.s, heap_setCell_at _ h.l⟩
theorem ckEnd {w V V2 : World} {S M C B : Nat} {box : Array Value} {fv : Bool} {lz : Int} (hF : CkS w S M box fv lz V) (hBl : Below w.heap.size w V) (hg : V.grownBy V2 none) (h1 : w.heap.size < S) (h2 : S < M) (h3 : M < C) (h4 : C < B) (h5 : C < V.heap.size) (v : Bool) (z : Int) (p : Bool × Int) (hp : p = (v, z)) :
    KeepsFrom B V ((V2.setCell ⟨S, 0, none⟩ (.bool v)).setCell ⟨M, 0, none⟩ (.int .i64 z)) ∧ KC w.heap.size C V ((V2.setCell ⟨S, 0, none⟩ (.bool v)).setCell ⟨M, 0, none⟩ (.int .i64 z)) ∧ ((CkS w S M box p.1 p.2 ((V2.setCell ⟨S, 0, none⟩ (.bool v)).setCell ⟨M, 0, none⟩ (.int .i64 z)) ∧ C < ((V2.setCell ⟨S, 0, none⟩ (.bool v)).setCell ⟨M, 0, none⟩ (.int .i64 z)).heap.size) ∧ Below w.heap.size w ((V2.setCell ⟨S, 0, none⟩ (.bool v)).setCell ⟨M, 0, none⟩ (.int .i64 z))) := by
  subst hp
  have hk : Keeps (fun k => k = S ∨ k = M) V ((V2.setCell ⟨S, 0, none⟩ (.bool v)).setCell ⟨M, 0, none⟩ (.int .i64 z)) := ((Keeps.keep hg).trans (Keeps.row (grown_setCell _ _ _ _) (.inl rfl))).trans (Keeps.row (grown_setCell _ _ _ _) (.inr rfl))
  have hb : Below w.heap.size V ((V2.setCell ⟨S, 0, none⟩ (.bool v)).setCell ⟨M, 0, none⟩ (.int .i64 z)) := hk.below hBl.size (fun k h => by omega)
  refine ⟨⟨hk.size, fun k o hB hk' _ => (hk.block k (lt_of_block hk') (fun hX => by omega)).trans hk'⟩, ⟨hb, hk.block C h5 (fun hX => by omega)⟩, ⟨((hF.kept hg).setS h1 h2 v).setL h1 h2 z, Nat.lt_of_lt_of_le h5 hk.size⟩, hBl.trans hb⟩
theorem ck_bit {b : Bool} {k : Nat} (ts : List Rv) (h : k < ts.length) : (b && (ts.take (k + 1)).all (fun t => t.k != 8)) = ((b && (ts.take k).all (fun t => t.k != 8)) && (ts[k].k != 8)) := by
  rw [List.take_succ_eq_append_getElem h, List.all_append, Bool.and_assoc]
  simp
/-- What is behind the first two regions. -/
def R1 (f s m : Int) (a : Option Addr) (n c : Nat) (wh : Bool) (e : Int) (w : World) (e1 : Exit) (a1 : Act) (w1 : World) : Prop := e1 = .normal ∧ ∃ (fv : Bool) (S : Nat) (u8 u9 u10 u11 u12 u13 u14 u15 u16 u17 u18 u19 u20 u21 u22 u23 u24 u25 u26 u27 u28 u29 u30 u31 : Value), fv = decide (Fr0 f s m wh e) ∧ w1.heap[S]? = some (.cells #[.bool fv] 4 (0, 0)) ∧ w1.heap[w.heap.size]? = some (.cells #[.int .i64 f, .int .i64 s, .int .i64 m, .slice a n c, .bool wh, .int .i64 e] 31 (0, 0)) ∧ w.grownBy w1 none ∧ w.heap.size < S ∧ a1 = { tmps := #[lgV f s m a n c wh e, .pointer (some ⟨w.heap.size, 0, none⟩), .int .i64 0, .pointer (some ⟨S, 0, none⟩), undef, undef, undef, undef, u8, u9, u10, u11, u12, u13, u14, u15, u16, u17, u18, u19, u20, u21, u22, u23, u24, u25, u26, u27, u28, u29, u30, u31, undef, undef, undef, undef, undef, undef, undef, undef, undef, undef, undef, undef, undef, undef, undef, undef, undef, undef, undef, undef, undef, undef, undef, undef, undef, undef, undef, undef, undef, undef, undef, undef, undef, undef, undef, undef, undef, undef, undef, undef, undef, undef, undef, undef, undef, undef, undef, undef, undef, undef, undef, undef, undef, undef, undef, undef, undef, undef], defers := [] }
set_option maxRecDepth 100000 in
set_option maxHeartbeats 8000000 in
theorem check_in (f s m : Int) (a : Option Addr) (n c : Nat) (ts : List Rv) (wh : Bool) (e : Int) (w : World) (hn : n = ts.length) (hs : RL w a ts) (hl : n ≤ 1000000) : CallsIn Fence.wide 3 Try.prog 23 #[lgV f s m a n c wh e] w fun e' w' => e' = .returned (.int .i64 (ckV ⟨f, s, m, rsOf ts, wh, e⟩)) ∧ Below w.heap.size w w' := by
  have HN := Lib.hid hn
  have HS := Lib.hid hs
  clear hn hs
  refine callsIn_of_wp_marks Try.func23 rfl trivial ?_ rfl
  simp only [Try.ntmps23, List.size_toArray, List.length_cons, List.length_nil, Nat.reduceAdd, Nat.reduceSub, Array.replicate_succ, Array.replicate_zero, List.push_toArray, List.append_toArray, List.nil_append, List.cons_append]
  refine wpIn_wide.2 ?_
  refine wp_seq ?_
  refine wp_mono (Q := fun e1 a1 w1 => e1 = .normal ∧ a1 = { tmps := #[lgV f s m a n c wh e, .pointer (some ⟨w.heap.size, 0, none⟩), .int .i64 0, undef, undef, undef, undef, undef, undef, undef, undef, undef, undef, undef, undef, undef, undef, undef, undef, undef, undef, undef, undef, undef, undef, undef, undef, undef, undef, undef, undef, undef, undef, undef, undef, undef, undef, undef, undef, undef, undef, undef, undef, undef, undef, undef, undef, undef, undef, undef, undef, undef, undef, undef, undef, undef, undef, undef, undef, undef, undef, undef, undef, undef, undef, undef, undef, undef, undef, undef, undef, undef, undef, undef, undef, undef, undef, undef, undef, undef, undef, undef, undef, undef, undef, undef, undef, undef, undef, undef], defers := [] } ∧ w1 = w.alloc (boxL f s m a n c wh e)) ?r0 ?_
  case r0 =>
    go_wp2
  rintro _ _ _ ⟨rfl, rfl, rfl⟩
  simp only [Exit.then]
  refine wp_seq ?_
  refine wp_mono (Q := R1 f s m a n c wh e w) ?r1 ?_
  case r1 =>
    by_cases h1 : Hd f s m
    · by_cases h2 : 0 ≤ e
      · by_cases h3 : e ≤ 4611686018427387904
        · cases wh with
          | true =>
            have HB := Lib.hid (heap_alloc_new w (boxL f s m a n c true e))
            have HA := Lib.hid (World.grownBy_alloc w (boxL f s m a n c true e) none)
            have HF := Lib.hid (show true = decide (Fr0 f s m true e) from (decide_eq_true (show Fr0 f s m true e from ⟨⟨h1, h2, h3⟩, .inl rfl⟩)).symm)
            have HC := Lib.hid (headed_yes f s m h1)
            clear h1
            go_wp2_with fail
            refine (HC.out _).mono ?_; rintro e0 w2 ⟨rfl, hw2⟩
            have HK := Lib.hid (keep_blk hw2 HB.out)
            have HG := Lib.hid (HA.out.trans hw2)
            have HLT := Lib.hid (lt_of_block HK.out)
            clear hw2
            have k5 : w2.cell? ⟨w.heap.size, 5, none⟩ = some (.int .i64 e) := cells_all HK.out 5
            have k4 : w2.cell? ⟨w.heap.size, 4, none⟩ = some (.bool true) := cells_all HK.out 4
            go_wp2
            obtain ⟨q1, q2, q3, q4⟩ := ck_new true HK.out HG.out HLT.out
            exact ⟨rfl, true, w2.heap.size, _, _, _, _, _, _, _, _, _, _, _, _, _, _, _, _, _, _, _, _, _, _, _, _, HF.out, q1, q2, q3, q4, rfl⟩
          | false =>
            have HB := Lib.hid (heap_alloc_new w (boxL f s m a n c false e))
            have HA := Lib.hid (World.grownBy_alloc w (boxL f s m a n c false e) none)
            by_cases h4 : e = 0
            · have g4 : (e == 0) = true := by simp [h4]
              have HF := Lib.hid (show true = decide (Fr0 f s m false e) from (decide_eq_true (show Fr0 f s m false e from ⟨⟨h1, h2, h3⟩, .inr h4⟩)).symm)
              have HC := Lib.hid (headed_yes f s m h1)
              clear h1 h4
              go_wp2_with fail
              refine (HC.out _).mono ?_; rintro e0 w2 ⟨rfl, hw2⟩
              have HK := Lib.hid (keep_blk hw2 HB.out)
              have HG := Lib.hid (HA.out.trans hw2)
              have HLT := Lib.hid (lt_of_block HK.out)
              clear hw2
              have k5 : w2.cell? ⟨w.heap.size, 5, none⟩ = some (.int .i64 e) := cells_all HK.out 5
              have k4 : w2.cell? ⟨w.heap.size, 4, none⟩ = some (.bool false) := cells_all HK.out 4
              go_wp2
              obtain ⟨q1, q2, q3, q4⟩ := ck_new true HK.out HG.out HLT.out
              exact ⟨rfl, true, w2.heap.size, _, _, _, _, _, _, _, _, _, _, _, _, _, _, _, _, _, _, _, _, _, _, _, _, HF.out, q1, q2, q3, q4, rfl⟩
            · have g4 : (e == 0) = false := by simp [h4]
              have HF := Lib.hid (show false = decide (Fr0 f s m false e) from (decide_eq_false (show ¬ Fr0 f s m false e from fun h => h4 (h.2.resolve_left (fun h => Bool.false_ne_true h)))).symm)
              have HC := Lib.hid (headed_yes f s m h1)
              clear h1 h4
              go_wp2_with fail
              refine (HC.out _).mono ?_; rintro e0 w2 ⟨rfl, hw2⟩
              have HK := Lib.hid (keep_blk hw2 HB.out)
              have HG := Lib.hid (HA.out.trans hw2)
              have HLT := Lib.hid (lt_of_block HK.out)
              clear hw2
              have k5 : w2.cell? ⟨w.heap.size, 5, none⟩ = some (.int .i64 e) := cells_all HK.out 5
              have k4 : w2.cell? ⟨w.heap.size, 4, none⟩ = some (.bool false) := cells_all HK.out 4
              go_wp2
              obtain ⟨q1, q2, q3, q4⟩ := ck_new false HK.out HG.out HLT.out
              exact ⟨rfl, false, w2.heap.size, _, _, _, _, _, _, _, _, _, _, _, _, _, _, _, _, _, _, _, _, _, _, _, _, HF.out, q1, q2, q3, q4, rfl⟩
        · have HB := Lib.hid (heap_alloc_new w (boxL f s m a n c wh e))
          have HA := Lib.hid (World.grownBy_alloc w (boxL f s m a n c wh e) none)
          have HF := Lib.hid (show false = decide (Fr0 f s m wh e) from (decide_eq_false (show ¬ Fr0 f s m wh e from fun h => h3 h.1.2.2)).symm)
          have HC := Lib.hid (headed_yes f s m h1)
          clear h1
          go_wp2_with fail
          refine (HC.out _).mono ?_; rintro e0 w2 ⟨rfl, hw2⟩
          have HK := Lib.hid (keep_blk hw2 HB.out)
          have HG := Lib.hid (HA.out.trans hw2)
          have HLT := Lib.hid (lt_of_block HK.out)
          clear hw2
          have k5 : w2.cell? ⟨w.heap.size, 5, none⟩ = some (.int .i64 e) := cells_all HK.out 5
          have k4 : w2.cell? ⟨w.heap.size, 4, none⟩ = some (.bool wh) := cells_all HK.out 4
          go_wp2
          obtain ⟨q1, q2, q3, q4⟩ := ck_new false HK.out HG.out HLT.out
          exact ⟨rfl, false, w2.heap.size, _, _, _, _, _, _, _, _, _, _, _, _, _, _, _, _, _, _, _, _, _, _, _, _, HF.out, q1, q2, q3, q4, rfl⟩
      · have HB := Lib.hid (heap_alloc_new w (boxL f s m a n c wh e))
        have HA := Lib.hid (World.grownBy_alloc w (boxL f s m a n c wh e) none)
        have HF := Lib.hid (show false = decide (Fr0 f s m wh e) from (decide_eq_false (show ¬ Fr0 f s m wh e from fun h => h2 h.1.2.1)).symm)
        have HC := Lib.hid (headed_yes f s m h1)
        clear h1
        go_wp2_with fail
        refine (HC.out _).mono ?_; rintro e0 w2 ⟨rfl, hw2⟩
        have HK := Lib.hid (keep_blk hw2 HB.out)
        have HG := Lib.hid (HA.out.trans hw2)
        have HLT := Lib.hid (lt_of_block HK.out)
        clear hw2
        have k5 : w2.cell? ⟨w.heap.size, 5, none⟩ = some (.int .i64 e) := cells_all HK.out 5
        have k4 : w2.cell? ⟨w.heap.size, 4, none⟩ = some (.bool wh) := cells_all HK.out 4
        go_wp2
        obtain ⟨q1, q2, q3, q4⟩ := ck_new false HK.out HG.out HLT.out
        exact ⟨rfl, false, w2.heap.size, _, _, _, _, _, _, _, _, _, _, _, _, _, _, _, _, _, _, _, _, _, _, _, _, HF.out, q1, q2, q3, q4, rfl⟩
    · have HB := Lib.hid (heap_alloc_new w (boxL f s m a n c wh e))
      have HA := Lib.hid (World.grownBy_alloc w (boxL f s m a n c wh e) none)
      have HF := Lib.hid (show false = decide (Fr0 f s m wh e) from (decide_eq_false (show ¬ Fr0 f s m wh e from fun h => h1 h.1.1)).symm)
      have HC := Lib.hid (headed_no f s m h1)
      clear h1
      go_wp2_with fail
      refine (HC.out _).mono ?_; rintro e0 w2 ⟨rfl, hw2⟩
      have HK := Lib.hid (keep_blk hw2 HB.out)
      have HG := Lib.hid (HA.out.trans hw2)
      have HLT := Lib.hid (lt_of_block HK.out)
      clear hw2
      have k5 : w2.cell? ⟨w.heap.size, 5, none⟩ = some (.int .i64 e) := cells_all HK.out 5
      have k4 : w2.cell? ⟨w.heap.size, 4, none⟩ = some (.bool wh) := cells_all HK.out 4
      go_wp2
      obtain ⟨q1, q2, q3, q4⟩ := ck_new false HK.out HG.out HLT.out
      exact ⟨rfl, false, w2.heap.size, _, _, _, _, _, _, _, _, _, _, _, _, _, _, _, _, _, _, _, _, _, _, _, _, HF.out, q1, q2, q3, q4, rfl⟩
  rintro _ _ w2 ⟨rfl, fv, S, u8, u9, u10, u11, u12, u13, u14, u15, u16, u17, u18, u19, u20, u21, u22, u23, u24, u25, u26, u27, u28, u29, u30, u31, hfv, hS, hB, hG, hSl, rfl⟩
  have HFV := Lib.hid hfv
  have HS4 := Lib.hid hS
  have HB := Lib.hid hB
  have HG := Lib.hid hG
  have HSL := Lib.hid (lt_of_block hS)
  clear hfv hS hB hG
  simp only [Exit.then]
  have HGA := Lib.hid (World.grownBy_alloc w2 (.cells #[.int .i64 0] 2) none)
  have hB3 := keep_blk HGA.out HB.out
  have k0 := cells_all hB3 0
  have k1 := cells_all hB3 1
  have k2 := cells_all hB3 2
  have k3 := cells_all hB3 3
  have k4 := cells_all hB3 4
  have k5 := cells_all hB3 5
  clear hB3
  go_wp2_with fail
  refine (ends_any f s m a n c wh e _).mono ?_; rintro e1 w3 ⟨rfl, hbC, hz, hg1⟩
  have HK3 := Lib.hid (show CkS w S w2.heap.size #[.int .i64 f, .int .i64 s, .int .i64 m, .slice a n c, .bool wh, .int .i64 e] fv 0 w3 from ⟨keep_blk hg1 (keep_blk HGA.out HB.out), keep_blk hg1 (keep_blk HGA.out HS4.out), keep_blk hg1 (heap_alloc_new w2 _)⟩)
  have HG3 := Lib.hid ((HG.out.trans HGA.out).trans hg1)
  have hz3 : w3.heap.size = w2.heap.size + 1 + 1 := hz.trans (by rw [World.size_alloc])
  have HBC := Lib.hid (show w3.heap[w2.heap.size + 1]? = some (.cells #[.int .i64 f, .int .i64 s, .int .i64 m, .slice a ts.length c, .bool wh, .int .i64 e] 31 (0, 0)) from by rw [← HN.out, ← World.size_alloc w2 (.cells #[.int .i64 0] 2)]; exact hbC)
  have hsl2 : S < w2.heap.size := HSL.out
  have hlt : ts.length ≤ 1000000 := by rw [← HN.out]; exact hl
  have HB3 := Lib.hid (below_grown HG3.out)
  clear k0 k1 k2 k3 k4 k5 hbC hz hg1
  go_wp2
  refine (wpIn_wide (n := 3)).1 ?_
  refine wpIn_rangeFunc_ownH rfl (by omega) (gf := 44) (lb := #[.pointer (some ⟨w2.heap.size + 1, 0, none⟩)]) rfl trivial (enters_of Try.func44 (by kernel_rfl) rfl)
    (ends1_stops (3 - 1) (by omega) (w2.heap.size + 1) f s m a c ts hlt wh e w w3 HB3.out (by omega) HS.out HBC.out) kc_t (kc_b (by omega) (by omega)) (Below.refl _ _) (fun _ => rfl)
    (fun pre W => (CkS w S w2.heap.size #[.int .i64 f, .int .i64 s, .int .i64 m, .slice a n c, .bool wh, .int .i64 e] (foldC ts wh e fv pre).1 (foldC ts wh e fv pre).2 W ∧ w2.heap.size + 1 < W.heap.size) ∧ Below w.heap.size w W)
    (fun c pre W => False ∧ Below w.heap.size w W)
    (OwnFrom.and (Own.from (fun s A B row hs hg hr => ⟨hs.1.own hg hr, Nat.lt_of_lt_of_le hs.2 hg.size⟩) _) (ownFrom_below (Nat.le_refl _) (by omega)))
    (fun c => OwnFrom.and (Own.from (fun s A B row hs hg hr => hs) _) (ownFrom_below (Nat.le_refl _) (by omega)))
    ⟨⟨HK3.out, by omega⟩, HB3.out⟩
    (fun x a' W => ∃ Bx, W.heap[Bx]? = some (.cells (itemR ts e x.val).cells.toArray 25 (0, 0)) ∧ a' = { tmps := #[lgV f s m a n c wh e, .pointer (some ⟨w.heap.size, 0, none⟩), .int .i64 0, .pointer (some ⟨S, 0, none⟩), .pointer (some ⟨w2.heap.size, 0, none⟩), .pointer (some ⟨Bx, 0, none⟩), undef, undef, u8, u9, u10, u11, u12, u13, u14, u15, u16, u17, u18, u19, u20, u21, u22, u23, u24, u25, u26, u27, u28, u29, u30, u31, lgV f s m a n c wh e, .func (.func 44) #[] #[.pointer (some ⟨w2.heap.size + 1, 0, none⟩)], (itemR ts e x.val).val, undef, undef, undef, undef, undef, undef, undef, undef, undef, undef, undef, undef, undef, undef, undef, undef, undef, undef, undef, undef, undef, undef, undef, undef, undef, undef, undef, undef, undef, undef, undef, undef, undef, undef, undef, undef, undef, undef, undef, undef, undef, undef, undef, undef, undef, undef, undef, undef, undef, undef, undef, undef, undef, undef, undef], defers := [] })
    (fun x a' => Own.from (fun s A B row hs hg hr => by obtain ⟨Bx, h1, h2⟩ := hs; exact ⟨Bx, block_kept h1 hg hr, h2⟩) _)
    ?assign ?body ?done ?stop
  case assign =>
    rintro l pre x W KK ⟨⟨hF, hCW⟩, hBl⟩ hK
    have HNW := Lib.hid (heap_alloc_new W (.cells (itemR ts e x.val).cells.toArray 25))
    have HGW := Lib.hid (World.grownBy_alloc W (.cells (itemR ts e x.val).cells.toArray 25) none)
    have HF2 := Lib.hid (hF.kept HGW.out)
    have HK := Lib.hid hK
    have HBl := Lib.hid hBl
    have HCW := Lib.hid hCW
    clear hK hF hBl hCW
    gi_wp2
    exact HK.out _ _ (KeepsFrom.of_grownBy HGW.out (fun j e => by cases e)) ⟨(Below.refl _ W).grown HGW.out HBl.out.size (fun k e => by cases e), HGW.out.block _ HCW.out (by simp)⟩ ⟨⟨HF2.out, Nat.lt_of_lt_of_le HCW.out HGW.out.size⟩, HBl.out.grown HGW.out HBl.out.size (fun k e => by cases e)⟩ ⟨W.heap.size, HNW.out, rfl⟩
  case body =>
    rintro l pre x a' V hl2 ⟨r, hr⟩ ⟨⟨hF, hCV⟩, hBl⟩ ⟨Bx, hcx, rfl⟩ hlt2
    have hsn := foldC_snoc ts wh e fv pre x
    obtain ⟨t, ht⟩ : ∃ t, t = itemR ts e x.val := ⟨_, rfl⟩
    obtain ⟨p, hp⟩ : ∃ p, p = foldC ts wh e fv pre := ⟨_, rfl⟩
    rw [← hp] at hF hsn
    rw [← ht] at hcx hsn ⊢
    have HSN := Lib.hid hsn
    obtain ⟨b, z⟩ := p
    obtain ⟨ta, tk, tn, tb, tx, tc⟩ := t
    have hne1 : ¬ Bx = S := fun e => by subst e; have h9 := hF.s; rw [hcx] at h9; cases h9
    have hne2 : ¬ S = Bx := fun e => hne1 e.symm
    have hne3 : ¬ Bx = w2.heap.size := fun e => by subst e; have h9 := hF.l; rw [hcx] at h9; cases h9
    have hne4 : ¬ w2.heap.size = Bx := fun e => hne3 e.symm
    have hne5 : ¬ S = w2.heap.size := by omega
    have hne6 : ¬ w2.heap.size = S := by omega
    have HF := Lib.hid hF
    have HBl := Lib.hid hBl
    have HCV := Lib.hid hCV
    have b0 := cells_all hF.s 0
    have b1 := cells_all hF.l 0
    have b2 := frozen_all hF.s 0
    have b3 := frozen_all hF.l 0
    have b4 := cells_all hF.b 4
    have b5 := cells_all hF.b 5
    have i0 : V.cell? ⟨Bx, 0, none⟩ = some (.int .i64 ta) := cells_all hcx 0
    have i1 : V.cell? ⟨Bx, 1, none⟩ = some (.int .i64 tk) := cells_all hcx 1
    have i2 : V.cell? ⟨Bx, 2, none⟩ = some (.int .i64 tn) := cells_all hcx 2
    have i3 : V.cell? ⟨Bx, 3, none⟩ = some (.slice tx tb.length tc) := cells_all hcx 3
    clear hF hBl hCV hcx hr hsn ht hp HBC HB3 HK3
    cases b with
    | false =>
      have HP := Lib.hid (show stepC wh e (false, z) ⟨ta, tk, tn, tb, tx, tc⟩ = (false, ta) from by simp [stepC])
      gi_wp2
      try any_goals (rename_i hu9 _; exact absurd hu9 (by simp [undef]))
      refine ⟨trivial, ?_⟩
      gi_wp2
      exact ckEnd (C := w2.heap.size + 1) (B := w3.heap.size) HF.out HBl.out (World.grownBy.refl _ _) hSl HSL.out (by omega) (by omega) HCV.out false ta _ (HSN.out.trans HP.out)
    | true =>
      by_cases h1 : z ≤ ta
      · by_cases h2 : tk = 8
        · have h2b : (tk == 8) = true := by simp [h2]
          by_cases h3 : ta = e
          · have h3b : (ta == e) = true := by simp [h3]
            cases tx with
            | some q =>
              have HP := Lib.hid (show stepC wh e (true, z) ⟨ta, tk, tn, tb, (some q), tc⟩ = (decide (Rt ta tk tn tb.length), ta) from by simp [stepC, okT, h1, ])
              clear h2 h3
              gi_wp2_with (refine ⟨trivial, ?_⟩; gi_at_call 40; refine (CallsIn.inRound l (callsIn_wide.2 (right_any ta tk tn (some q) tb.length tc V))).mono ?_; rintro e4 V2 ⟨rfl, hw⟩; have HW := Lib.hid hw; have hF2 := HF.out.kept hw; have y0 := cells_all hF2.s 0; have y1 := cells_all hF2.l 0; have y2 := frozen_all hF2.s 0; have y3 := frozen_all hF2.l 0; have y4 := keep_cell hw i0; clear hw hF2 b0 b1 b2 b3 i0 i1 i2 i3)
              exact ckEnd (C := w2.heap.size + 1) (B := w3.heap.size) HF.out HBl.out HW.out hSl HSL.out (by omega) (by omega) HCV.out _ ta _ (HSN.out.trans HP.out)
            | none =>
              by_cases h5 : tn = 0
              · have h5b : (tn == 0) = true := by simp [h5]
                cases wh with
                | false =>
                  have HP := Lib.hid (show stepC false e (true, z) ⟨ta, tk, tn, tb, none, tc⟩ = (decide (Rt ta tk tn tb.length), ta) from by simp [stepC, okT, h1, ])
                  clear h2 h3 h5
                  gi_wp2_with (refine ⟨trivial, ?_⟩; gi_at_call 40; refine (CallsIn.inRound l (callsIn_wide.2 (right_any ta tk tn none tb.length tc V))).mono ?_; rintro e4 V2 ⟨rfl, hw⟩; have HW := Lib.hid hw; have hF2 := HF.out.kept hw; have y0 := cells_all hF2.s 0; have y1 := cells_all hF2.l 0; have y2 := frozen_all hF2.s 0; have y3 := frozen_all hF2.l 0; have y4 := keep_cell hw i0; clear hw hF2 b0 b1 b2 b3 i0 i1 i2 i3)
                  exact ckEnd (C := w2.heap.size + 1) (B := w3.heap.size) HF.out HBl.out HW.out hSl HSL.out (by omega) (by omega) HCV.out _ ta _ (HSN.out.trans HP.out)
                | true =>
                  have HP := Lib.hid (show stepC true e (true, z) ⟨ta, tk, tn, tb, none, tc⟩ = (true, ta) from by simp [stepC, okT, h2, h3, h5]; exact h3 ▸ h1)
                  clear h2 h3 h5
                  gi_wp2
                  try any_goals (rename_i hu9 _; exact absurd hu9 (by simp [undef]))
                  refine ⟨trivial, ?_⟩
                  gi_wp2
                  exact ckEnd (C := w2.heap.size + 1) (B := w3.heap.size) HF.out HBl.out (World.grownBy.refl _ _) hSl HSL.out (by omega) (by omega) HCV.out true ta _ (HSN.out.trans HP.out)
              · have h5b : (tn == 0) = false := by simp [h5]
                have HP := Lib.hid (show stepC wh e (true, z) ⟨ta, tk, tn, tb, none, tc⟩ = (decide (Rt ta tk tn tb.length), ta) from by simp [stepC, okT, h1, h5])
                clear h2 h3 h5
                gi_wp2_with (refine ⟨trivial, ?_⟩; gi_at_call 40; refine (CallsIn.inRound l (callsIn_wide.2 (right_any ta tk tn none tb.length tc V))).mono ?_; rintro e4 V2 ⟨rfl, hw⟩; have HW := Lib.hid hw; have hF2 := HF.out.kept hw; have y0 := cells_all hF2.s 0; have y1 := cells_all hF2.l 0; have y2 := frozen_all hF2.s 0; have y3 := frozen_all hF2.l 0; have y4 := keep_cell hw i0; clear hw hF2 b0 b1 b2 b3 i0 i1 i2 i3)
                exact ckEnd (C := w2.heap.size + 1) (B := w3.heap.size) HF.out HBl.out HW.out hSl HSL.out (by omega) (by omega) HCV.out _ ta _ (HSN.out.trans HP.out)
          · have h3b : (ta == e) = false := by simp [h3]
            have HP := Lib.hid (show stepC wh e (true, z) ⟨ta, tk, tn, tb, tx, tc⟩ = (decide (Rt ta tk tn tb.length), ta) from by simp [stepC, okT, h1, h3])
            clear h2 h3
            gi_wp2_with (refine ⟨trivial, ?_⟩; gi_at_call 40; refine (CallsIn.inRound l (callsIn_wide.2 (right_any ta tk tn tx tb.length tc V))).mono ?_; rintro e4 V2 ⟨rfl, hw⟩; have HW := Lib.hid hw; have hF2 := HF.out.kept hw; have y0 := cells_all hF2.s 0; have y1 := cells_all hF2.l 0; have y2 := frozen_all hF2.s 0; have y3 := frozen_all hF2.l 0; have y4 := keep_cell hw i0; clear hw hF2 b0 b1 b2 b3 i0 i1 i2 i3)
            exact ckEnd (C := w2.heap.size + 1) (B := w3.heap.size) HF.out HBl.out HW.out hSl HSL.out (by omega) (by omega) HCV.out _ ta _ (HSN.out.trans HP.out)
        · have h2b : (tk == 8) = false := by simp [h2]
          have HP := Lib.hid (show stepC wh e (true, z) ⟨ta, tk, tn, tb, tx, tc⟩ = (decide (Rt ta tk tn tb.length), ta) from by simp [stepC, okT, h1, h2])
          clear h2
          gi_wp2_with (refine ⟨trivial, ?_⟩; gi_at_call 40; refine (CallsIn.inRound l (callsIn_wide.2 (right_any ta tk tn tx tb.length tc V))).mono ?_; rintro e4 V2 ⟨rfl, hw⟩; have HW := Lib.hid hw; have hF2 := HF.out.kept hw; have y0 := cells_all hF2.s 0; have y1 := cells_all hF2.l 0; have y2 := frozen_all hF2.s 0; have y3 := frozen_all hF2.l 0; have y4 := keep_cell hw i0; clear hw hF2 b0 b1 b2 b3 i0 i1 i2 i3)
          exact ckEnd (C := w2.heap.size + 1) (B := w3.heap.size) HF.out HBl.out HW.out hSl HSL.out (by omega) (by omega) HCV.out _ ta _ (HSN.out.trans HP.out)
      · have HP := Lib.hid (show stepC wh e (true, z) ⟨ta, tk, tn, tb, tx, tc⟩ = (false, ta) from by simp [stepC, h1])
        gi_wp2
        try any_goals (rename_i hu9 _; exact absurd hu9 (by simp [undef]))
        refine ⟨trivial, ?_⟩
        gi_wp2
        exact ckEnd (C := w2.heap.size + 1) (B := w3.heap.size) HF.out HBl.out (World.grownBy.refl _ _) hSl HSL.out (by omega) (by omega) HCV.out false ta _ (HSN.out.trans HP.out)
  case done =>
    rintro D ys W hD rfl ⟨⟨hF, _⟩, hBl⟩ hK
    have hDl : D < W.heap.size := lt_of_block hK
    have HF := Lib.hid hF
    have HBl := Lib.hid hBl
    have HK := Lib.hid hK
    have k3 := cells_all hF.b 3
    have hfin := ck_all f s m ts wh e
    rw [← HFV.out] at hfin
    obtain ⟨⟨F, z⟩, hp⟩ : ∃ p, p = foldC ts wh e fv (List.finRange (endsN ts wh)) := ⟨_, rfl⟩
    rw [← hp] at hfin HF
    have HFIN := Lib.hid hfin
    clear hF hBl hK hfin hp HBC HB3 HK3 HFV
    go_wp2
    go_loopw [77] (fun i wr => ∃ (k : Nat) (b : Bool), k ≤ n ∧ i = .int .i64 k ∧ b = (F && (ts.take k).all (fun t => t.k != 8)) ∧ CkS w S w2.heap.size #[.int .i64 f, .int .i64 s, .int .i64 m, .slice a n c, .bool wh, .int .i64 e] b z wr ∧ Below w.heap.size w wr ∧ W.heap.size ≤ wr.heap.size ∧ wr.heap[D]? = some (.deferred (some []))) (fun i _ => n - (intOf i).toNat)
    case atStart => exact ⟨0, F, Nat.zero_le _, rfl, by simp, HF.out, HBl.out, Nat.le_refl _, HK.out⟩
    case round =>
      obtain ⟨k, b, hk, rfl, hb, hC, hBw, hsz, hKw⟩ := hrel
      have HCK := Lib.hid hC
      have HBW := Lib.hid hBw
      have HKW := Lib.hid hKw
      have HBB := Lib.hid hb
      clear hb hBw hKw
      by_cases hlt : k < n
      · have hk1 : k < ts.length := by have := HN.out; omega
        obtain ⟨g1, o1, rfl, hat1⟩ := (HS.out.below HBW.out).at k hk1
        have hbit := ck_bit (b := F) ts hk1
        rw [← HBB.out] at hbit
        obtain ⟨t, ht⟩ : ∃ t, t = ts[k] := ⟨_, rfl⟩
        rw [← ht] at hat1 hbit
        have HBIT := Lib.hid hbit
        obtain ⟨p0, p1, p2, p3, p4, p5⟩ := hat1
        have hga := World.grownBy_alloc wr (.cells #[.int .i64 t.a, .int .i64 t.k, .int .i64 t.n, .slice t.x t.b.length t.c] 25) none
        have HGA2 := Lib.hid hga
        have hC2 := HCK.out.kept hga
        have HC2 := Lib.hid hC2
        have y0 := cells_all hC2.s 0
        have y2 := frozen_all hC2.s 0
        have hKa := keep_blk hga HKW.out
        have HKA := Lib.hid hKa
        have hDS : ¬ D = S := by have := hz3; omega
        have hlt' : (k : Int) < (n : Nat) := by omega
        have hwk : IntKind.i64.wrap ((k : Int) + 1) = ((k + 1 : Nat) : Int) := by rw [IntKind.wrap_i64]; omega
        have hneb : ¬ wr.heap.size = S := by omega
        have hneb2 : ¬ S = wr.heap.size := by omega
        clear ht hbit p4 p5 hga hC2 hKa hk1 hC
        cases b with
        | true =>
          go_wp2
          go_roundw
          case rel => exact ⟨k + 1, _, by omega, rfl, by rw [HBIT.out]; rfl, HC2.out.setS hSl HSL.out _, (HBW.out.grown HGA2.out HBW.out.size (fun k e => by cases e)).grown (grown_setCell _ _ _ _) (by have := HBW.out.size; have := HGA2.out.size; omega) (fun k e => by cases e; omega), Nat.le_trans hsz (Nat.le_trans HGA2.out.size (grown_setCell _ _ _ _).size), ((grown_setCell _ _ _ _).block D (lt_of_block HKA.out) (by simpa using hDS)).trans HKA.out⟩
          case measure => simp [intOf]; omega
        | false =>
          go_wp2
          go_roundw
          case rel => exact ⟨k + 1, false, by omega, rfl, by rw [HBIT.out]; rfl, HC2.out.setS hSl HSL.out _, (HBW.out.grown HGA2.out HBW.out.size (fun k e => by cases e)).grown (grown_setCell _ _ _ _) (by have := HBW.out.size; have := HGA2.out.size; omega) (fun k e => by cases e; omega), Nat.le_trans hsz (Nat.le_trans HGA2.out.size (grown_setCell _ _ _ _).size), ((grown_setCell _ _ _ _).block D (lt_of_block HKA.out) (by simpa using hDS)).trans HKA.out⟩
          case measure => simp [intOf]; omega
      · have hlt' : ¬ (k : Int) < (n : Nat) := by omega
        have hkn : ts.length ≤ k := by have := HN.out; omega
        have hall : b = decide (⟨f, s, m, rsOf ts, wh, e⟩ : Lg).Ok := by rw [HBB.out, ← HFIN.out, List.take_of_length_le hkn]
        have HALL := Lib.hid hall
        have y0 := cells_all HCK.out.s 0
        have HB5 := Lib.hid (HBW.out.trans (belowK_b (w := w) (Nat.le_refl _) _ D _ (.deferred none) (by omega) HKW.out rfl rfl))
        clear hall hkn hC
        cases b with
        | true =>
          go_wp2
          refine ⟨by simp, .inl ⟨_, _, rfl, run_takeDeferred HKW.out, ?_⟩⟩
          refine ⟨.int .i64 0, ?_, by rw [ckV_yes (of_decide_eq_true HALL.out.symm)], HB5.out⟩
          simp [results, Try.f23, go_sem]
        | false =>
          go_wp2
          refine ⟨by simp, .inl ⟨_, _, rfl, run_takeDeferred HKW.out, ?_⟩⟩
          refine ⟨.int .i64 260, ?_, by rw [ckV_no (of_decide_eq_false HALL.out.symm)], HB5.out⟩
          simp [results, Try.f23, go_sem]
  case stop =>
    rintro D c pre W hD _ ⟨hf, _⟩ hK
    exact hf.elim
theorem check_any (f s m : Int) (a : Option Addr) (c : Nat) (ts : List Rv) (wh : Bool) (e : Int) (w : World) (hs : RL w a ts) (hl : ts.length ≤ 1000000) : Calls Try.prog 23 #[lgV f s m a ts.length c wh e] w fun e' w' => e' = .returned (.int .i64 (ckV ⟨f, s, m, rsOf ts, wh, e⟩)) ∧ w.grownBy w' none :=
  (callsIn_wide.1 (check_in f s m a ts.length c ts wh e w rfl hs hl)).mono (fun e' w' h => ⟨h.1, grown_below h.2⟩)
end Go.Proofs.Ytpoifobhbmhelaa
