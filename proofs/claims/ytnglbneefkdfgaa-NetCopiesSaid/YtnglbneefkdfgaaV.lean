import Derived.Test.YtnglbneefkdfgaaU
set_option linter.unusedVariables false
namespace Go.Proofs.Ytnglbneefkdfgaa
open Go.RowKit
theorem Try.size36 : (Try.prog.info? 36).map (·.size) = some 2 := by kernel_rfl
/-- A list of calls that can be read. -/
def SrcX (w : World) (a : Option Addr) (n : Nat) (l : Nat → Ac) (bs : Nat → List UInt8) : Prop :=
  n = 0 ∨ ∃ b o, a = some ⟨b, o, none⟩ ∧ ∀ j, j < n → w.rangeAt b (o + j * 2) (l j).cells.toList ∧ (l j).bn = (bs j).length ∧ Go.Proofs.Ytnglbneefkdfgaa.Src w (l j).ba (bs j) ∧ (bs j).length ≤ 140737488355328
def Nh.run (l : Nat → Ac) (bs : Nat → List UInt8) : Nat → Nh
  | 0 => .zero
  | k + 1 => (Nh.run l bs k).step (l k).what (bs k)
theorem Nh.step_bd (g : Nh) (what : Int) (bs : List UInt8) : (g.step what bs).came.length ≤ g.came.length + 1 ∧ (g.step what bs).sent.length ≤ g.sent.length + 1 ∧ tot (g.step what bs).came ≤ tot g.came + bs.length ∧ tot (g.step what bs).sent ≤ tot g.sent + bs.length := by
  unfold Nh.step Nh.push Nh.take Nh.send
  repeat' split
  all_goals simp [tot_append, tot_one]
theorem Nh.step_le (g : Nh) (what : Int) (bs : List UInt8) (h : (∀ l ∈ g.came, l.length ≤ 64) ∧ ∀ l ∈ g.sent, l.length ≤ 64) : (∀ l ∈ (g.step what bs).came, l.length ≤ 64) ∧ ∀ l ∈ (g.step what bs).sent, l.length ≤ 64 := by
  unfold Nh.step Nh.push Nh.take Nh.send
  repeat' split
  all_goals first | exact h | skip
  · rename_i hf
    simp only [Nh.full, Bool.or_eq_true, decide_eq_true_eq, not_or] at hf
    refine ⟨fun l hl => ?_, h.2⟩
    rcases List.mem_append.1 hl with hl | hl
    · exact h.1 l hl
    · simp at hl; subst hl; omega
  · rename_i hf
    refine ⟨h.1, fun l hl => ?_⟩
    rcases List.mem_append.1 hl with hl | hl
    · exact h.2 l hl
    · simp at hl; subst hl; omega
def cost (l : Nat → Ac) : Nat → Nat
  | 0 => 0
  | k + 1 => cost l k + 20 + (l k).bn
theorem cost_mono (l : Nat → Ac) (k : Nat) : ∀ n, k ≤ n → cost l k ≤ cost l n
  | 0, h => by obtain rfl : k = 0 := by omega
               exact Nat.le_refl _
  | n + 1, h => by
    by_cases e : k = n + 1
    · subst e; exact Nat.le_refl _
    · have := cost_mono l k n (by omega)
      simp only [cost]; omega
theorem cost_ge (l : Nat → Ac) : ∀ n, 20 * n ≤ cost l n
  | 0 => Nat.le_refl _
  | n + 1 => by have := cost_ge l n; simp only [cost]; omega
theorem cost_bn (l : Nat → Ac) (k n : Nat) (h : k < n) : (l k).bn ≤ cost l n := by
  have := cost_mono l (k + 1) n h
  simp only [cost] at this
  omega
theorem run_bd (l : Nat → Ac) (bs : Nat → List UInt8) (n : Nat) (hb : ∀ j, j < n → (l j).bn = (bs j).length) : ∀ k, k ≤ n → (Nh.run l bs k).came.length ≤ k ∧ (Nh.run l bs k).sent.length ≤ k ∧ tot (Nh.run l bs k).came ≤ cost l k ∧ tot (Nh.run l bs k).sent ≤ cost l k
  | 0, _ => ⟨Nat.le_refl _, Nat.le_refl _, Nat.le_refl _, Nat.le_refl _⟩
  | k + 1, h => by
    have h1 := run_bd l bs n hb k (by omega)
    have h2 := (Nh.run l bs k).step_bd (l k).what (bs k)
    have h3 := hb k (by omega)
    simp only [Nh.run, cost]
    omega
theorem run_le (l : Nat → Ac) (bs : Nat → List UInt8) : ∀ k, (∀ x ∈ (Nh.run l bs k).came, x.length ≤ 64) ∧ ∀ x ∈ (Nh.run l bs k).sent, x.length ≤ 64
  | 0 => ⟨fun x h => by (cases h), fun x h => by (cases h)⟩
  | k + 1 => (Nh.run l bs k).step_le _ _ (run_le l bs k)
theorem run_lb (l : Nat → Ac) (bs : Nat → List UInt8) (k : Nat) : Lb (Nh.run l bs k) :=
  ⟨fun x h => Nat.le_trans ((run_le l bs k).1 x h) (by omega), fun x h => Nat.le_trans ((run_le l bs k).2 x h) (by omega)⟩
theorem run_nb (l : Nat → Ac) (bs : Nat → List UInt8) (n : Nat) (hb : ∀ j, j < n → (l j).bn = (bs j).length) (hn : n ≤ 1000) (hc : cost l n ≤ 100000) (k : Nat) (hk : k ≤ n) : Nb (Nh.run l bs k) := by
  obtain ⟨h1, h2, h3, h4⟩ := run_bd l bs n hb k hk
  have := cost_mono l k n hk
  exact ⟨by omega, by omega, by omega, by omega⟩
theorem rangeAt_of {w W : World} {b o : Nat} {cs : List Value} (h : w.rangeAt b o cs) (e : W.heap[b]? = w.heap[b]?) : W.rangeAt b o cs :=
  fun j v hj => (World.cell?_of_block e).trans (h j v hj)
theorem exec_ldm {P : Program} {op : Oper} {ρ : Operand → Value} {W : World} {x : Operand} (ty : TypeId) (ho : op.op = .load ty x) (b o : Nat) (hx : ρ x = .pointer (some ⟨b, o, none⟩)) (cs : List Value) (d : TypeDesc) (hc : W.rangeAt b o cs)
    (hu : P.underlying ty = some d) (hd : d.isRow = true) (hi : (P.info? ty).map (·.size) = some cs.length) :
    (execOp ρ op).run P W = .ok (.value (.agg cs.toArray)) W := by
  have hrun := run_loadAt_mid (P := P) W b o ty cs d hc hu hd hi
  simp only [execOp, ho, hx, Sem.run_bind, hrun, Result.andThen_ok, Sem.run_pure]
theorem results_tc40t {fn : Func} {p t u : Tmp} (h : fn.results = #[.tmp t, .cell p 40, .tmp u]) (tmps : Array Value) (w : World) (g : Nat) (cs : Array Value) (hs : cs.size = 3)
    (hp : tmps.getD p undef = .pointer (some ⟨g, 0, none⟩)) (hg : w.heap[g]? = some (.cells cs 40 (0, 0))) : (results fn tmps).run Try.prog w = .ok (.tuple #[tmps.getD t undef, .agg cs, tmps.getD u undef]) w := by
  have hp' : tmps[p]?.getD undef = .pointer (some ⟨g, 0, none⟩) := by simpa using hp
  have hl := run_loadVar_row (P := Try.prog) w g 40 40 cs (0, 0) _ hg Try.underlying40 rfl (by rw [hs]; exact Try.size40)
  simp [results, h, hp', asAddr, hl]
theorem NS.nown {M : Nat → Prop} {w : World} {B : Nat} {c : Nc} {g : Nh} (h : NS M w B c g) {A : Nat} {cs : Array Value} (hA : w.heap[A]? = some (.cells cs 40 (0, 0))) : ¬ own c B A := by
  rintro (e | e | e)
  · have := h.nk.blk
    rw [e] at hA
    rw [hA] at this
    simp at this
  · obtain ⟨vs, h1, _⟩ := h.q
    exact h1.ne hA (by decide) e
  · obtain ⟨vs, h1, _⟩ := h.s
    exact h1.ne hA (by decide) e
theorem new_ns {w : World} {B : Nat} {M : Nat → Prop} (h : Nk w B .new) (hB : M B) : NS M w B .new .zero :=
  ⟨h, Nat.le_refl _, ⟨[], Gs.nil eP w, PK.nil _⟩, ⟨[], Gs.nil eL w, BL.nil⟩, rfl, rfl, fun k hk => by
    rcases hk with rfl | hk | hk
    · exact hB
    · cases hk
    · cases hk⟩
theorem zero_rs (M : Nat → Prop) (w : World) : RS M w .zero .zero :=
  ⟨Nat.le_refl _, ⟨[], Gs.nil eL w, BL.nil⟩, rfl, ⟨[], Gs.nil eL w, BL.nil⟩, fun k hk => by (cases hk), fun k hk => by (cases hk)⟩
theorem Inn.drew {M : Nat → Prop} {w : World} {v : Value} {l : List UInt8} (h : Inn M w v l) : Inn M w.drew v l := h.keeps (X := fun _ => False) ⟨rfl, rfl, rfl, Nat.le_refl _, fun _ _ _ => rfl⟩ (fun _ _ h => h.elim)
/-- What holds at the head of a round: X is the block of the document's net. -/
structure PI (w w1 : World) (B : Nat) (l : Nat → Ac) (bs : Nat → List UInt8) (k : Nat) (c : Nc) (r : Rf) (M : Nat → Prop) (wr : World) : Prop where
  ns : NS M wr B c (Nh.run l bs k)
  rs : RS M wr r (Nh.run l bs k)
  x : wr.heap[w1.heap.size]? = some (.cells r.cells 40 (0, 0))
  mw : ∀ k, M k → w.heap.size + 1 ≤ k ∧ k < wr.heap.size
  mx : M w1.heap.size
  g : (w.alloc (.cells Rf.zero.cells 40)).grownBy wr none
theorem drewP {M M' : Nat → Prop} {w w' : World} {B : Nat} {c c' : Nc} {r' : Rf} {g' : Nh} (h : APost M M' w.drew w' B c c' r' g') : APost M M' w w' B c c' r' g' := ⟨h.ns, h.rs, h.keep.undrew, h.mm, h.mb, h.sub, h.newl⟩
theorem played_step {w w1 wr u1 u4 : World} {B : Nat} {l : Nat → Ac} {bs : Nat → List UInt8} {k : Nat} {c c' : Nc} {r r' : Rf} {M M' : Nat → Prop} (hX : w.heap.size + 1 ≤ w1.heap.size) (h : PI w w1 B l bs k c r M wr)
    (hP : APost M M' wr u1 B c c' r' ((Nh.run l bs k).step (l k).what (bs k))) (hk : Keeps (fun k => k = w1.heap.size) u1 u4) (hb : u4.heap[w1.heap.size]? = some (.cells r'.cells 40 (0, 0))) : PI w w1 B l bs (k + 1) c' r' M' u4 := by
  have hno := h.ns.nown h.x
  have hlx := lt_of_block h.x
  have hz := h.g.size
  have hzk := hk.size
  rw [World.size_alloc] at hz
  have hx' : ∀ k, k < u1.heap.size → k = w1.heap.size → M' k := fun k _ e => e ▸ hP.sub _ h.mx
  refine ⟨hP.ns.keeps hk hx' (fun k hk e => ?_), hP.rs.keeps hk hx', hb, fun k hk => ⟨(hP.mm k hk).elim (fun h2 => (h.mw k h2).1) (fun h2 => by omega), by have := hP.mb k hk; omega⟩, hP.sub _ h.mx, ?_⟩
  · subst e
    exact (hP.newl _ hk).elim hno (fun h2 => by omega)
  · exact (((Keeps.keep (X := fun k => w.heap.size + 1 ≤ k) h.g).trans (hP.keep.mono (fun i _ hi => (h.mw i (h.ns.ow i hi)).1))).trans (hk.mono (fun i _ e => by subst e; exact hX))).toGrown (fun i hi hx => by rw [World.size_alloc] at hi; omega)
theorem played_end {w w1 wr u4 : World} {B : Nat} {l : Nat → Ac} {bs : Nat → List UInt8} {n : Nat} {c : Nc} {r : Rf} {M : Nat → Prop} (h : PI w w1 B l bs n c r M wr) (hk : Keeps (fun k => k = w.heap.size) wr u4) :
    NS M u4 B c (Nh.run l bs n) ∧ RS M u4 r (Nh.run l bs n) ∧ (∀ k, M k → w.heap.size ≤ k ∧ k < u4.heap.size) ∧ w.grownBy u4 none := by
  have hz := hk.size
  have hM : ∀ k, M k → k ≠ w.heap.size := fun k hk e => by have := (h.mw k hk).1; omega
  have hM2 : ∀ k, with_ M (fun k => k = w.heap.size) k → k = w.heap.size ∨ M k := fun k hk => hk.symm
  obtain ⟨vs, q1, q2⟩ := h.ns.q
  obtain ⟨us, s1, s2⟩ := h.ns.s
  obtain ⟨ps, p1, p2⟩ := h.rs.p
  obtain ⟨ts, t1, t2⟩ := h.rs.t
  have hg1 := World.grownBy_alloc w (.cells Rf.zero.cells 40) none
  have hzero : wr.heap[w.heap.size]? = some (.cells Rf.zero.cells 40 (0, 0)) := (h.g.block _ (by simp) (by simp)).trans (heap_alloc_new w _)
  have hi : ∀ v l, Inn M wr v l → Inn M u4 v l := fun v l hv => by
    obtain ⟨a, cap, rfl, hs, hn⟩ := hv
    refine ⟨a, cap, rfl, ?_, hn⟩
    by_cases he : l = []
    · exact .inl he
    · refine hs.keeps hk (fun he b o e hx => ?_)
      subst hx
      rcases hs with hs | ⟨b, o', e', hc⟩
      · exact he hs
      · cases e.symm.trans e'
        have h0 := hc 0 (List.length_pos_iff.2 he)
        rw [cells_all hzero] at h0
        simp only [Rf.zero, Rf.cells, Nat.add_zero] at h0
        have : o = 0 ∨ o = 1 ∨ o = 2 ∨ 3 ≤ o := by omega
        rcases this with rfl | rfl | rfl | ho
        · simp at h0
        · simp at h0
        · simp at h0
        · rw [Array.getElem?_eq_none (by simpa using ho)] at h0; cases h0
  have hbl : ∀ vs ls, BL M wr vs ls → BL M u4 vs ls := fun vs ls hb => ⟨hb.1, fun j hj => let ⟨v, h1, h2⟩ := hb.2 j hj; ⟨v, h1, hi _ _ h2⟩⟩
  have hpk : ∀ vs ls f, PK M wr vs ls f → PK M u4 vs ls f := fun vs ls f hb => ⟨hb.1, fun j hj => let ⟨⟨v, h1, h2⟩, h3⟩ := hb.2 j hj; ⟨⟨v, h1, hi _ _ h2⟩, h3⟩⟩
  have hrow : ∀ {E : El} {v : Value} {n : Nat} {vs : List Value}, 40 ≠ E.e → Gs E wr v n vs → Gs E u4 v n vs := fun he hv => hv.keeps hk (fun g hg e => by subst e; exact hv.ne hzero he hg)
  refine ⟨⟨h.ns.nk.keeps hk (fun e => ?_), h.ns.tk, ⟨vs, hrow (by decide) q1, hpk _ _ _ q2⟩, ⟨us, hrow (by decide) s1, hbl _ _ s2⟩, h.ns.ni, h.ns.no, h.ns.ow⟩, ⟨h.rs.tkl, ⟨ps, hrow (by decide) p1, hbl _ _ p2⟩, h.rs.tk, ⟨ts, hrow (by decide) t1, hbl _ _ t2⟩, h.rs.rp, h.rs.rt⟩, fun k hk => by have := h.mw k hk; omega, ?_⟩
  · exact hM B (h.ns.ow B (.inl rfl)) e
  · exact ((Keeps.keep (X := fun k => w.heap.size ≤ k) (hg1.trans h.g)).trans (hk.mono (fun i _ e => by subst e; exact Nat.le_refl _))).toGrown (fun i hi hx => by omega)
set_option maxHeartbeats 8000000 in
theorem few_any (a : Option Addr) (n cap : Nat) (l : Nat → Ac) (bs : Nat → List UInt8) (w : World) (hs : SrcX w a n l bs) (hm : n ≤ 9223372036854775807) :
    Calls Try.prog 15 #[.slice a n cap] w fun e w' => e = .returned (.bool (decide (cost l n ≤ 8000))) ∧ w = w' := by
  go_enter Try.func15, Try.ntmps15
  go_wp2
  go_loop [3, 4] (fun s i => ∃ k : Nat, k ≤ n ∧ i = .int .i64 k ∧ s = .int .i64 (cost l k : Nat) ∧ (cost l k : Nat) ≤ 8020 + 140737488355328) (fun _ i => n - (intOf i).toNat)
  case atStart => exact ⟨0, Nat.zero_le _, rfl, rfl, by simp [cost]⟩
  case round =>
    obtain ⟨k, hk, rfl, rfl, hc⟩ := hrel
    by_cases hlt : k < n
    · by_cases hc5 : cost l k ≤ 8000
      · obtain ⟨b, o, rfl, hcs⟩ := hs.resolve_left (by omega)
        obtain ⟨h1, h2, _, h5⟩ := hcs k hlt
        have c2 : w.cell? ⟨b, o + k * 2 + 1, none⟩ = some (.slice (l k).ba (l k).bn (l k).bc) := h1 1 _ rfl
        have hlt' : (k : Int) < (n : Nat) := by omega
        have hc5' : (cost l k : Int) ≤ 8000 := by omega
        rw [← h2] at h5
        have hw1 : IntKind.i64.wrap ((cost l k : Int) + 20) = (cost l k : Int) + 20 := by rw [IntKind.wrap_i64]; omega
        have hw2 : IntKind.i64.wrap ((cost l k : Int) + 20 + ((l k).bn : Nat)) = (cost l k : Int) + 20 + ((l k).bn : Nat) := by rw [IntKind.wrap_i64]; omega
        have hwk : IntKind.i64.wrap ((k : Int) + 1) = ((k + 1 : Nat) : Int) := by rw [IntKind.wrap_i64]; omega
        clear h1 h2 hcs
        go_wp2
        go_round
        case rel => exact ⟨k + 1, by omega, rfl, by simp [cost], by simp only [cost]; omega⟩
        case measure => simp [intOf]; omega
      · have hc5' : ¬ (cost l k : Int) ≤ 8000 := by omega
        have hlt' : (k : Int) < (n : Nat) := by omega
        have hcn : decide (cost l n ≤ 8000) = false := by
          have := cost_mono l k n hk
          simp
          omega
        go_wp2
        go_ret
        exact ⟨rfl, rfl⟩
    · obtain rfl : k = n := by omega
      by_cases hc5 : cost l k ≤ 8000
      · have hc5' : (cost l k : Int) ≤ 8000 := by omega
        have e : decide (cost l k ≤ 8000) = true := by simp [hc5]
        go_wp2
        go_ret
        exact ⟨rfl, rfl⟩
      · have hc5' : ¬ (cost l k : Int) ≤ 8000 := by omega
        have e : decide (cost l k ≤ 8000) = false := by simp [hc5]
        go_wp2
        go_ret
        exact ⟨rfl, rfl⟩
set_option maxHeartbeats 8000000 in
theorem played_any (a : Option Addr) (n cap : Nat) (l : Nat → Ac) (bs : Nat → List UInt8) (w : World) (hs : SrcX w a n l bs) (hm : n ≤ 1000) (hc : cost l n ≤ 100000) :
    Calls Try.prog 18 #[.slice a n cap] w fun e w' => ∃ B c r M, e = .returned (.tuple #[.pointer (some ⟨B, 0, none⟩), r.val, .bool true]) ∧ NS M w' B c (Nh.run l bs n) ∧ RS M w' r (Nh.run l bs n) ∧ (∀ k, M k → w.heap.size ≤ k ∧ k < w'.heap.size) ∧ w.grownBy w' none := by
  have hbn : ∀ j, j < n → (l j).bn = (bs j).length := fun j hj => by
    rcases hs with h | ⟨b, o, _, h⟩
    · omega
    · exact (h j hj).2.1
  have hbl : ∀ j, j < n → (bs j).length ≤ 140737488355328 := fun j hj => by
    have h1 := hbn j hj
    have := cost_bn l j n hj
    omega
  have HNBS := Lib.hid (fun k hk => run_nb l bs n hbn hm hc k hk)
  have HS1 := Lib.hid (heap_alloc_new w (.cells Rf.zero.cells 40))
  clear hbn
  go_enter Try.func18, Try.ntmps18
  go_wp2_with fail
  refine (new_any _).mono ?_; rintro e w1 ⟨B, rfl, hB, hTb, hg1⟩
  rw [World.size_alloc] at hB
  have hB1 := hTb.lt
  have hsz := hg1.size
  rw [World.size_alloc] at hsz
  have HNS0 := Lib.hid hsz
  have HN := Lib.hid (heap_alloc_new w1 (.cells Rf.zero.cells 40))
  have HT1 := Lib.hid (hTb.keptNone (World.grownBy_alloc w1 (.cells Rf.zero.cells 40) none))
  have HG1 := Lib.hid (hg1.trans (World.grownBy_alloc w1 (.cells Rf.zero.cells 40) none))
  clear hTb hg1
  go_wp2_with (with_reducible refine hold_st 40 _ _ rfl ?_)
  apply Lib.hid
  with_reducible refine wpList_store_all rfl 40 _ _ rfl _ ?cs1101 ?hx1101 ?hy1101 _ _ HN.out ?hf1101 _ ?hl1101 Try.size40 ?h11101 ?_
  case hy1101 => exact rfl
  case hx1101 => exact rfl
  case hf1101 => exact rfl
  case hl1101 => exact rfl
  case h11101 => simp [allOne, Value.oneCell']
  intro w2 hb2 hg2
  have hz2 := lt_of_block hb2
  have HPI := Lib.hid (show PI w w1 B l bs 0 .new .zero (fun k => w.heap.size + 1 ≤ k ∧ k < w2.heap.size) w2 from
    ⟨new_ns (HT1.out.kept hg2 (by simp; omega)) ⟨hB, by omega⟩, zero_rs _ _, hb2, fun k hk => hk, ⟨hsz, hz2⟩, grown_new HG1.out hg2 (by simp; omega)⟩)
  clear hb2 hg2 HN HT1 HG1
  go_wp2
  go_loopw [7, 8] (fun f i wr => f = .bool true ∧ ∃ k : Nat, k ≤ n ∧ i = .int .i64 k ∧ ∃ c r M, PI w w1 B l bs k c r M wr) (fun _ i _ => n - (intOf i).toNat)
  case atStart => exact ⟨rfl, 0, Nat.zero_le _, rfl, .new, .zero, _, HPI.out⟩
  case round =>
    obtain ⟨rfl, k, hk, rfl, c, r, M, hPI⟩ := hrel
    have HNO := Lib.hid (hPI.ns.nown hPI.x)
    have HNr := Lib.hid hPI.ns
    have HRr := Lib.hid hPI.rs
    have HXr := Lib.hid hPI.x
    have HMW := Lib.hid hPI.mw
    have HMX := Lib.hid hPI.mx
    have HG := Lib.hid hPI.g
    have HMB := Lib.hid (show ∀ k, M k → k < wr.drew.heap.size from fun k hk => (hPI.mw k hk).2)
    have hnb := HNBS.out k hk
    have hlb := run_lb l bs k
    clear hPI HPI
    by_cases hlt : k < n
    · obtain ⟨b, o, rfl, hcs⟩ := hs.resolve_left (by omega)
      have hb0 : b < w.heap.size := World.block_lt_of_cell? w _ ((hcs k hlt).1 0 _ rfl)
      have hbw : b < wr.heap.size := by have := HG.out.size; rw [World.size_alloc] at this; omega
      have hGw : w.grownBy wr none := (World.grownBy_alloc w (.cells Rf.zero.cells 40) none).trans HG.out
      have HS := Lib.hid (fun j hj => show wr.rangeAt b (o + j * 2) (l j).cells.toList ∧ (l j).bn = (bs j).length ∧ Inn M wr (.slice (l j).ba (l j).bn (l j).bc) (bs j) from ⟨rangeAt_of (hcs j hj).1 (hGw.block b hb0 (by simp)), (hcs j hj).2.1, (l j).ba, (l j).bc, by rw [(hcs j hj).2.1], (hcs j hj).2.2.1.keptNone hGw, fun he b' o' e hm => by
        have h1 := (HMW.out b' hm).1
        have h2 := Go.Proofs.Ytnglbneefkdfgaa.Src.lt (e ▸ (hcs j hj).2.2.1) he
        omega⟩)
      have HNB := Lib.hid (show ¬ (own c B b ∨ b = w1.heap.size) from fun h => h.elim (fun h => by have := (HMW.out b (HNr.out.ow b h)).1; omega) (fun h => by omega))
      clear hcs hs hGw
      go_wp2
      refine regx_open (fun k => own c B k ∨ k = w1.heap.size) (n := 12) rfl (by kernel_rfl) ?_
      refine regx_take 0 (some 21) (v := ?_) rfl rfl (by kernel_rfl) (by kernel_rfl) (by kernel_rfl) (fun _ _ _ h => h) (by rfl) ?_ ?_
      rotate_left
      · intro W hW; go_simp; first | done | with_reducible rfl
      try simp only [Act.put, List.setIfInBounds_toArray, List.set_cons_zero, List.set_cons_succ]
      refine regx_take 2 (some 23) (v := ?_) rfl rfl (by kernel_rfl) (by kernel_rfl) (by kernel_rfl) (fun _ _ _ h => h) (by rfl) ?_ ?_
      rotate_left
      · intro W hW; go_simp; first | done | with_reducible rfl
      try simp only [Act.put, List.setIfInBounds_toArray, List.set_cons_zero, List.set_cons_succ]
      refine regx_take 3 (some 24) (v := ?_) rfl rfl (by kernel_rfl) (by kernel_rfl) (by kernel_rfl) (fun _ _ _ h => h) (by rfl) ?_ ?_
      rotate_left
      · intro W hW; go_simp; first | done | with_reducible rfl
      try simp only [Act.put, List.setIfInBounds_toArray, List.set_cons_zero, List.set_cons_succ]
      refine regx_take 4 (some 25) (v := ?_) rfl rfl (by kernel_rfl) (by kernel_rfl) (by kernel_rfl) (fun _ _ _ h => h) (by rfl) ?_ ?_
      rotate_left
      · intro W hW; go_simp; first | done | with_reducible rfl
      try simp only [Act.put, List.setIfInBounds_toArray, List.set_cons_zero, List.set_cons_succ]
      refine regx_take 5 (some 26) (v := ?_) rfl rfl (by kernel_rfl) (by kernel_rfl) (by kernel_rfl) (fun _ _ _ h => h) (by rfl) ?_ ?_
      rotate_left
      · intro W hW; refine exec_ldm (x := .tmp 25) 36 ?_ b (o + k * 2) ?_ (l k).cells.toList _ (rangeAt_of (HS.out k hlt).1 (hW.block b hbw (HNB.out))) Try.underlying36 ?_ Try.size36 <;> rfl
      try simp only [Act.put, List.setIfInBounds_toArray, List.set_cons_zero, List.set_cons_succ]
      refine wpAnyH_ready (rs := [1]) (by kernel_rfl) (by simp) ?_
      refine (AllReadyH.cons (o := { dst := some 22, op := Op.load 40 (Operand.tmp 6), type := 40, pos := "law.go:76", after := #[], guard := none }) rfl (fun K hK => ?_) AllReadyH.nil)
      refine wp_of_exec (exec_ld40 (x := .tmp 6) (b := w1.heap.size) (r := r) ?_ ?_ ?_) ?_
      · rfl
      · rfl
      · exact HXr.out
      refine regx_same hK ?_
      clear hK K
      try simp only [Act.put, List.setIfInBounds_toArray, List.set_cons_zero, List.set_cons_succ]
      refine wpAnyH_ready (rs := [6]) (by kernel_rfl) (by simp) ?_
      refine (AllReadyH.cons (o := { dst := some 27, op := Op.call { callee := Callee.value (Operand.func 19), args := #[Operand.tmp 21, Operand.tmp 22, Operand.tmp 26], argTypes := #[24, 40, 36] }, type := 43, pos := "law.go:76", after := #[{ on := 0, ground := Ground.data }, { on := 1, ground := Ground.data }, { on := 5, ground := Ground.data }], guard := none }) rfl (fun K hK => ?_) AllReadyH.nil)
      go_simp
      refine (act_any M B c r (Nh.run l bs k) (l k) (bs k) _ HNr.out.drew HRr.out.drew hnb HMB.out (HS.out k hlt).2.1 (Inn.drew (HS.out k hlt).2.2) (hbl k hlt)).mono ?_; rintro e u1 ⟨c', r', M', rfl, hP⟩; have h1 : Keeps (fun k => own c B k ∨ k = w1.heap.size) _ u1 := hP.keep.mono (fun i _ h => .inl h)
      refine regx_next hK h1 ?_
      clear hK K
      try simp only [Act.put, List.setIfInBounds_toArray, List.set_cons_zero, List.set_cons_succ]
      refine regx_take 7 (some 20) (v := ?_) rfl rfl (by kernel_rfl) (by kernel_rfl) (by kernel_rfl) (fun _ _ _ h => h) (by rfl) ?_ ?_
      rotate_left
      · intro W hW; go_simp; first | done | with_reducible rfl
      try simp only [Act.put, List.setIfInBounds_toArray, List.set_cons_zero, List.set_cons_succ]
      refine regx_take 8 (some 28) (v := ?_) rfl rfl (by kernel_rfl) (by kernel_rfl) (by kernel_rfl) (fun _ _ _ h => h) (by rfl) ?_ ?_
      rotate_left
      · intro W hW; go_simp; first | done | with_reducible rfl
      try simp only [Act.put, List.setIfInBounds_toArray, List.set_cons_zero, List.set_cons_succ]
      refine regx_take 9 (some 29) (v := ?_) rfl rfl (by kernel_rfl) (by kernel_rfl) (by kernel_rfl) (fun _ _ _ h => h) (by rfl) ?_ ?_
      rotate_left
      · intro W hW; go_simp; first | done | with_reducible rfl
      try simp only [Act.put, List.setIfInBounds_toArray, List.set_cons_zero, List.set_cons_succ]
      refine wpAnyH_ready (rs := [10]) (by kernel_rfl) (by simp) ?_
      refine (AllReadyH.cons (o := { dst := none, op := Op.store 40 (Operand.tmp 6) (Operand.tmp 28), type := 0, pos := "law.go:76", after := #[{ on := 8, ground := Ground.data }, { on := 6, ground := Ground.chain }, { on := 0, ground := Ground.phase }, { on := 1, ground := Ground.phase }, { on := 2, ground := Ground.phase }, { on := 3, ground := Ground.phase }, { on := 4, ground := Ground.phase }, { on := 5, ground := Ground.phase }, { on := 6, ground := Ground.phase }, { on := 7, ground := Ground.phase }, { on := 8, ground := Ground.phase }, { on := 9, ground := Ground.textOnly Departure.lateStores }], guard := none }) rfl (fun K hK => ?_) AllReadyH.nil)
      have hz := (hP.keep.block _ (lt_of_block (show wr.drew.heap[w1.heap.size]? = _ from HXr.out)) HNO.out).trans HXr.out
      refine wp_store_all 40 _ _ rfl w1.heap.size ?csu4 ?hxu4 ?hyu4 _ _ hz ?hfu4 3 ?hnu4 Try.size40 ?h1u4 ?_
      case hyu4 => exact rfl
      case hxu4 => exact rfl
      case hfu4 => exact rfl
      case hnu4 => exact rfl
      case h1u4 => simp [allOne, Value.oneCell']
      intro u4 hb4 h4'
      have h4 : Keeps (fun k => own c B k ∨ k = w1.heap.size) _ u4 := Keeps.row h4' (.inr rfl)
      refine regx_next hK h4 ?_
      clear hK K
      try simp only [Act.put]
      refine regx_take 11 (some 7) (v := ?_) rfl rfl (by kernel_rfl) (by kernel_rfl) (by kernel_rfl) (fun _ _ _ h => h) (by rfl) ?_ ?_
      rotate_left
      · intro W hW; go_simp; first | done | with_reducible rfl
      try simp only [Act.put, List.setIfInBounds_toArray, List.set_cons_zero, List.set_cons_succ]
      refine wpAnyH_done (by kernel_rfl) ?_ _
      have RB := Lib.hid (show u4.heap[w1.heap.size]? = some (.cells r'.cells 40 (0, 0)) from hb4)
      have hS := played_step (k := k) (l := l) (bs := bs) HNS0.out (show PI w w1 B l bs k c r M wr from ⟨HNr.out, HRr.out, HXr.out, HMW.out, HMX.out, HG.out⟩) (drewP hP) (show Keeps (fun k => k = w1.heap.size) u1 u4 from Keeps.row h4' rfl) hb4
      have HS4 := Lib.hid hS
      clear hS hP h1 h4 h4' hb4 hz
      go_wp2
      go_roundw
      case rel => exact ⟨rfl, k + 1, by omega, rfl, c', r', M', HS4.out⟩
      case measure => simp [intOf]; omega
    · obtain rfl : k = n := by omega
      have HSr := Lib.hid ((HG.out.block _ (by rw [World.size_alloc]; omega) (by simp)).trans HS1.out)
      have HNS := Lib.hid (show some w1.heap.size ≠ some w.heap.size from fun e => by injection e; omega)
      go_wp2
      refine reg_open (some w.heap.size) (n := 11) rfl (by kernel_rfl) ?_
      refine reg_take 0 (some 30) (v := ?_) rfl rfl (by kernel_rfl) (by kernel_rfl) (by kernel_rfl) (fun _ _ _ h => h) (by rfl) ?_ ?_
      rotate_left
      · intro W hW; go_simp; first | done | with_reducible rfl
      try simp only [Act.put, List.setIfInBounds_toArray, List.set_cons_zero, List.set_cons_succ]
      refine reg_take 1 (some 31) (v := ?_) rfl rfl (by kernel_rfl) (by kernel_rfl) (by kernel_rfl) (fun _ _ _ h => h) (by rfl) ?_ ?_
      rotate_left
      · intro W hW; refine exec_ld40 (x := .tmp 6) ?_ ?_ ((hW.block w1.heap.size (lt_of_block HXr.out) HNS.out).trans HXr.out) <;> rfl
      try simp only [Act.put, List.setIfInBounds_toArray, List.set_cons_zero, List.set_cons_succ]
      refine reg_take 2 (some 32) (v := ?_) rfl rfl (by kernel_rfl) (by kernel_rfl) (by kernel_rfl) (fun _ _ _ h => h) (by rfl) ?_ ?_
      rotate_left
      · intro W hW; go_simp; first | done | with_reducible rfl
      try simp only [Act.put, List.setIfInBounds_toArray, List.set_cons_zero, List.set_cons_succ]
      refine reg_take 3 (some 33) (v := ?_) rfl rfl (by kernel_rfl) (by kernel_rfl) (by kernel_rfl) (fun _ _ _ h => h) (by rfl) ?_ ?_
      rotate_left
      · intro W hW; go_simp; first | done | with_reducible rfl
      try simp only [Act.put, List.setIfInBounds_toArray, List.set_cons_zero, List.set_cons_succ]
      refine reg_take 4 (some 34) (v := ?_) rfl rfl (by kernel_rfl) (by kernel_rfl) (by kernel_rfl) (fun _ _ _ h => h) (by rfl) ?_ ?_
      rotate_left
      · intro W hW; go_simp; first | done | with_reducible rfl
      try simp only [Act.put, List.setIfInBounds_toArray, List.set_cons_zero, List.set_cons_succ]
      refine reg_take 5 (some 35) (v := ?_) rfl rfl (by kernel_rfl) (by kernel_rfl) (by kernel_rfl) (fun _ _ _ h => h) (by rfl) ?_ ?_
      rotate_left
      · intro W hW; refine exec_ld40 (x := .tmp 6) ?_ ?_ ((hW.block w1.heap.size (lt_of_block HXr.out) HNS.out).trans HXr.out) <;> rfl
      try simp only [Act.put, List.setIfInBounds_toArray, List.set_cons_zero, List.set_cons_succ]
      refine wpAnyH_ready (rs := [6]) (by kernel_rfl) (by simp) ?_
      refine (AllReadyH.cons (o := { dst := some 36, op := Op.call { callee := Callee.value (Operand.func 20), args := #[Operand.tmp 34, Operand.tmp 35], argTypes := #[24, 40] }, type := 4, pos := "law.go:78", after := #[{ on := 4, ground := Ground.data }, { on := 5, ground := Ground.data }, { on := 3, ground := Ground.chain }, { on := 3, ground := Ground.guard }], guard := some (3, true) }) rfl (fun K hK => ?_) AllReadyH.nil)
      go_simp
      refine (is_ok M B c r (Nh.run l bs k) _ HNr.out.drew HRr.out.drew hnb hlb).mono ?_; rintro e u1 ⟨rfl, h1'⟩; have h1 := grown_none h1' (some w.heap.size)
      refine reg_next hK h1 ?_
      clear hK K
      try simp only [Act.put, List.setIfInBounds_toArray, List.set_cons_zero, List.set_cons_succ]
      refine reg_take 7 (some 37) (v := ?_) rfl rfl (by kernel_rfl) (by kernel_rfl) (by kernel_rfl) (fun _ _ _ h => h) (by rfl) ?_ ?_
      rotate_left
      · intro W hW; go_simp; first | done | with_reducible rfl
      try simp only [Act.put, List.setIfInBounds_toArray, List.set_cons_zero, List.set_cons_succ]
      refine reg_take 8 (some 2) (v := ?_) rfl rfl (by kernel_rfl) (by kernel_rfl) (by kernel_rfl) (fun _ _ _ h => h) (by rfl) ?_ ?_
      rotate_left
      · intro W hW; go_simp; first | done | with_reducible rfl
      try simp only [Act.put, List.setIfInBounds_toArray, List.set_cons_zero, List.set_cons_succ]
      refine wpAnyH_ready (rs := [9]) (by kernel_rfl) (by simp) ?_
      refine (AllReadyH.cons (o := { dst := none, op := Op.store 40 (Operand.tmp 3) (Operand.tmp 31), type := 0, pos := "law.go:78", after := #[{ on := 1, ground := Ground.data }, { on := 8, ground := Ground.chain }, { on := 0, ground := Ground.phase }, { on := 1, ground := Ground.phase }, { on := 2, ground := Ground.textOnly Departure.lateStores }, { on := 3, ground := Ground.textOnly Departure.lateStores }, { on := 4, ground := Ground.textOnly Departure.lateStores }, { on := 5, ground := Ground.textOnly Departure.lateStores }, { on := 6, ground := Ground.textOnly Departure.lateStoresUnsure }, { on := 7, ground := Ground.textOnly Departure.lateStores }, { on := 8, ground := Ground.phase }], guard := none }) rfl (fun K hK => ?_) AllReadyH.nil)
      have hz : u1.heap[w.heap.size]? = some (.cells Rf.zero.cells 40 (0, 0)) := (h1'.block _ (lt_of_block (show wr.drew.heap[w.heap.size]? = _ from HSr.out)) (by simp)).trans HSr.out
      refine wp_store_all 40 _ _ rfl w.heap.size ?csu10 ?hxu10 ?hyu10 _ _ hz ?hfu10 3 ?hnu10 Try.size40 ?h1u10 ?_
      case hyu10 => exact rfl
      case hxu10 => exact rfl
      case hfu10 => exact rfl
      case hnu10 => exact rfl
      case h1u10 => simp [allOne, Value.oneCell']
      intro u4 hb4 h4'
      refine reg_next hK h4' ?_
      clear hK K
      try simp only [Act.put]
      refine reg_take 10 (some 4) (v := ?_) rfl rfl (by kernel_rfl) (by kernel_rfl) (by kernel_rfl) (fun _ _ _ h => h) (by rfl) ?_ ?_
      rotate_left
      · intro W hW; go_simp; first | done | with_reducible rfl
      try simp only [Act.put, List.setIfInBounds_toArray, List.set_cons_zero, List.set_cons_succ]
      refine wpAnyH_done (by kernel_rfl) ?_ _
      have RB := Lib.hid (show u4.heap[w.heap.size]? = some (.cells r.cells 40 (0, 0)) from hb4)
      have hkk := (Keeps.keep (X := fun k => k = w.heap.size) (drewl h1')).trans (Keeps.row h4' rfl)
      have HF := Lib.hid (played_end (show PI w w1 B l bs k c r M wr from ⟨HNr.out, HRr.out, HXr.out, HMW.out, HMX.out, HG.out⟩) hkk)
      clear hb4 h4' h1' h1 hkk
      go_wp2
      refine bodyPost_ret (results_tc40t rfl _ _ _ _ (by rfl) (by rfl) RB.out) (by rfl) ?_
      exact ⟨B, c, r, _, rfl, HF.out⟩
end Go.Proofs.Ytnglbneefkdfgaa
