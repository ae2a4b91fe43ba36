import Derived.Test.YtnglbneefkdfgaaY
import Derived.Test.YtnglbneefkdfgaaOpenX
set_option linter.unusedVariables false
namespace Go.Proofs.Ytnglbneefkdfgaa
open Go.RowKit
/-- A net and the document's, and the block where the document's lies. -/
structure PG (w w1 : World) (B : Nat) (g gr : Nh) (c : Nc) (r : Rf) (M : Nat → Prop) (wr : World) : Prop where
  ns : NS M wr B c g
  rs : RS M wr r gr
  x : wr.heap[w1.heap.size]? = some (.cells r.cells 40 (0, 0))
  mw : ∀ k, M k → w.heap.size ≤ k ∧ k < wr.heap.size
  mx : M w1.heap.size
  g : w.grownBy wr none
theorem PG.nown {w w1 : World} {B : Nat} {g gr : Nh} {c : Nc} {r : Rf} {M : Nat → Prop} {wr : World} (h : PG w w1 B g gr c r M wr) : ¬ own c B w1.heap.size := h.ns.nown h.x
theorem PG.act {w w1 wr u1 u4 : World} {B : Nat} {g g' : Nh} {c c' : Nc} {r r' : Rf} {M M' : Nat → Prop} (h : PG w w1 B g g c r M wr)
    (hP : APost M M' wr u1 B c c' r' g') (hk : Keeps (fun k => k = w1.heap.size) u1 u4) (hb : u4.heap[w1.heap.size]? = some (.cells r'.cells 40 (0, 0))) : PG w w1 B g' g' c' r' M' u4 := by
  have hno := h.nown
  have hlx := lt_of_block h.x
  have hz := h.g.size
  have hzk := hk.size
  have hx' : ∀ k, k < u1.heap.size → k = w1.heap.size → M' k := fun k _ e => e ▸ hP.sub _ h.mx
  refine ⟨hP.ns.keeps hk hx' (fun k hk e => ?_), hP.rs.keeps hk hx', hb, fun k hk => ⟨(hP.mm k hk).elim (fun h2 => (h.mw k h2).1) (fun h2 => by omega), by have := hP.mb k hk; omega⟩, hP.sub _ h.mx, ?_⟩
  · subst e
    exact (hP.newl _ hk).elim hno (fun h2 => by omega)
  · exact (((Keeps.keep (X := fun k => w.heap.size ≤ k) h.g).trans (hP.keep.mono (fun i _ hi => (h.mw i (h.ns.ow i hi)).1))).trans (hk.mono (fun i _ e => by subst e; exact (h.mw _ h.mx).1))).toGrown (fun i hi hx => by omega)
theorem PG.outside {w w1 wr : World} {B : Nat} {g gr : Nh} {c : Nc} {r : Rf} {M : Nat → Prop} (h : PG w w1 B g gr c r M wr) {b : Nat} (hb : b < w.heap.size) (hX : w.heap.size ≤ w1.heap.size) : ¬ (own c B b ∨ b = w1.heap.size) := by
  rintro (h1 | h1)
  · have := (h.mw b (h.ns.ow b h1)).1; omega
  · omega
theorem PG.inn {w w1 wr : World} {B : Nat} {g gr : Nh} {c : Nc} {r : Rf} {M : Nat → Prop} (h : PG w w1 B g gr c r M wr) {v : Value} {l : List UInt8} (hi : Inn (fun _ => False) w v l) : Inn M wr v l :=
  (hi.more (fun k hk => .inr (h.mw k hk).1)).keeps (X := fun _ => False) (Keeps.keep h.g) (fun _ _ h => h.elim)
theorem PG.start {w w1 w2 : World} {B : Nat} (hB : w.heap.size ≤ B) (hT : Nk w1 B .new) (hg1 : w.grownBy w1 none) (hg2 : (w1.alloc (.cells Rf.zero.cells 40)).grownBy w2 (some w1.heap.size)) (hb : w2.heap[w1.heap.size]? = some (.cells Rf.zero.cells 40 (0, 0))) :
    PG w w1 B .zero .zero .new .zero (fun k => w.heap.size ≤ k ∧ k < w2.heap.size) w2 := by
  have hz := hg1.size
  have hz2 := lt_of_block hb
  have hB1 := hT.lt
  refine ⟨new_ns ((hT.keptNone (World.grownBy_alloc w1 _ none)).kept hg2 (by simp; omega)) ⟨hB, by omega⟩, zero_rs _ _, hb, fun k hk => hk, ⟨hz, hz2⟩, grown_new (hg1.trans (World.grownBy_alloc w1 _ none)) hg2 hz⟩
/-- What pushes and sends leave. -/
def pushes (ll : Nat → List UInt8) (n : Nat) : Nat → Nh
  | 0 => .zero
  | k + 1 => ((pushes ll n k).step 0 (ll k)).step 2 (ll (n - 1 - k))
theorem pushes_le (ll : Nat → List UInt8) (n : Nat) : ∀ k, (∀ x ∈ (pushes ll n k).came, x.length ≤ 64) ∧ ∀ x ∈ (pushes ll n k).sent, x.length ≤ 64
  | 0 => ⟨fun x h => by (cases h), fun x h => by (cases h)⟩
  | k + 1 => Nh.step_le _ _ _ (Nh.step_le _ _ _ (pushes_le ll n k))
theorem pushes_len (ll : Nat → List UInt8) (n : Nat) : ∀ k, (pushes ll n k).came.length ≤ 2 * k ∧ (pushes ll n k).sent.length ≤ 2 * k
  | 0 => ⟨Nat.le_refl _, Nat.le_refl _⟩
  | k + 1 => by
    have h1 := pushes_len ll n k
    have h2 := (pushes ll n k).step_bd 0 (ll k)
    have h3 := ((pushes ll n k).step 0 (ll k)).step_bd 2 (ll (n - 1 - k))
    simp only [pushes]
    omega
theorem nb_of {g : Nh} (h : (∀ x ∈ g.came, x.length ≤ 64) ∧ ∀ x ∈ g.sent, x.length ≤ 64) (h1 : g.came.length ≤ 1000) (h2 : g.sent.length ≤ 1000) : Nb g := by
  have h3 := tot_le _ _ h.1
  have h4 := tot_le _ _ h.2
  exact ⟨by omega, by omega, by omega, by omega⟩
theorem pushes_nb (ll : Nat → List UInt8) (n k : Nat) (hk : k ≤ 100) : Nb (pushes ll n k) := by
  have := pushes_len ll n k
  exact nb_of (pushes_le ll n k) (by omega) (by omega)
theorem pushes_lb (ll : Nat → List UInt8) (n k : Nat) : Lb (pushes ll n k) :=
  ⟨fun x h => Nat.le_trans ((pushes_le ll n k).1 x h) (by omega), fun x h => Nat.le_trans ((pushes_le ll n k).2 x h) (by omega)⟩
theorem step_nb {g : Nh} {k : Nat} (_ : Nb g) (h : (∀ x ∈ g.came, x.length ≤ 64) ∧ ∀ x ∈ g.sent, x.length ≤ 64) (hl : g.came.length ≤ 2 * k ∧ g.sent.length ≤ 2 * k) (hk : k ≤ 100) (what : Int) (bs : List UInt8) : Nb (g.step what bs) := by
  have h2 := g.step_bd what bs
  exact nb_of (g.step_le what bs h) (by omega) (by omega)
set_option maxHeartbeats 8000000 in
theorem netPushes_walk (a : Option Addr) (n cap : Nat) (aa : Nat → Option Addr) (cc : Nat → Nat) (ll : Nat → List UInt8) (w : World) (hs : SrcLL w a n aa cc ll) (hm : n ≤ 9223372036854775807) (hbig : ∀ j, j < n → (ll j).length ≤ 140737488355328) :
    Calls Try.prog 6 #[.slice a n cap] w fun e w' => e = .returned (.bool true) ∧ w.grownBy w' none := by
  by_cases h100 : 100 < n
  · have h100' : (100 : Int) < (n : Nat) := by omega
    clear hs
    go_enter Try.func6, Try.ntmps6
    go_wp2_with fail
    refine (works_any _).mono ?_; rintro e w1 ⟨rfl, hg1⟩
    go_wp2
    go_ret
    exact ⟨rfl, hg1⟩
  have h100' : ¬ (100 : Int) < (n : Nat) := by omega
  go_enter Try.func6, Try.ntmps6
  go_wp2_with fail
  refine (new_any _).mono ?_; rintro e w1 ⟨B, rfl, hB, hTb, hg1⟩
  have hX := hg1.size
  have HN := Lib.hid (heap_alloc_new w1 (.cells Rf.zero.cells 40))
  have HT := Lib.hid hTb
  have HG1 := Lib.hid hg1
  clear hTb hg1
  go_wp2_with (with_reducible refine hold_st 40 _ _ rfl ?_)
  apply Lib.hid
  with_reducible refine wpList_store_all rfl 40 _ _ rfl _ ?cs1401 ?hx1401 ?hy1401 _ _ HN.out ?hf1401 _ ?hl1401 Try.size40 ?h11401 ?_
  case hy1401 => exact rfl
  case hx1401 => exact rfl
  case hf1401 => exact rfl
  case hl1401 => exact rfl
  case h11401 => simp [allOne, Value.oneCell']
  intro w2 hb2 hg2
  have HPI := Lib.hid (PG.start hB HT.out HG1.out hg2 hb2)
  clear hb2 hg2 HN HT HG1
  go_wp2
  go_loopw [5, 6] (fun f i wr => f = .bool true ∧ ∃ k : Nat, k ≤ n ∧ i = .int .i64 k ∧ ∃ c r M, PG w w1 B (pushes ll n k) (pushes ll n k) c r M wr) (fun _ i _ => n - (intOf i).toNat)
  case atStart => exact ⟨rfl, 0, Nat.zero_le _, rfl, .new, .zero, _, HPI.out⟩
  case round =>
    obtain ⟨rfl, k, hk, rfl, c, r, M, hPI⟩ := hrel
    have H0 := Lib.hid hPI
    clear hPI HPI
    by_cases hlt : k < n
    · obtain ⟨b, o, rfl, hcs⟩ := hs.resolve_left (by omega)
      have hb0 : b < w.heap.size := World.block_lt_of_cell? w _ (hcs k hlt).1
      have hlt' : (k : Int) < (n : Nat) := by omega
      have hck := (World.cell?_of_block (a := ⟨b, o + k, none⟩) (H0.out.g.block b hb0 (by simp))).trans (hcs k hlt).1
      by_cases h200 : 200 < (ll k).length
      · have h200' : (200 : Int) < ((ll k).length : Nat) := by omega
        have HG := Lib.hid H0.out.g
        clear hcs hs H0
        go_wp2_with fail
        refine (works_any _).mono ?_; rintro e w3 ⟨rfl, hg3⟩
        have HG3 := Lib.hid (HG.out.trans hg3)
        clear hg3
        go_wp2
        go_ret
        exact ⟨rfl, HG3.out⟩
      have h200' : ¬ (200 : Int) < ((ll k).length : Nat) := by omega
      obtain ⟨q, hq⟩ : ∃ q, q = n - 1 - k := ⟨_, rfl⟩
      have hqlt : q < n := by omega
      have hql' : (q : Int) < (n : Nat) := by omega
      have hw1 : IntKind.i64.wrap ((n : Int) - 1) = ((n - 1 : Nat) : Int) := by rw [IntKind.wrap_i64]; omega
      have hw2 : IntKind.i64.wrap (((n - 1 : Nat) : Int) - (k : Nat)) = (q : Int) := by rw [IntKind.wrap_i64]; omega
      have hwk : IntKind.i64.wrap ((k : Int) + 1) = ((k + 1 : Nat) : Int) := by rw [IntKind.wrap_i64]; omega
      have HQ := Lib.hid hq
      have H0B := Lib.hid (pushes_nb ll n k (by omega))
      have H0C := Lib.hid ((World.cell?_of_block (a := ⟨b, o + k, none⟩) (H0.out.g.block b hb0 (by simp))).trans (hcs k hlt).1)
      have H0N := Lib.hid (H0.out.outside hb0 (Nat.le_of_lt_succ (Nat.lt_succ_of_le hX)))
      have H0I := Lib.hid (H0.out.inn (v := .slice (aa (k)) (ll (k)).length (cc (k))) ⟨_, _, rfl, (hcs k hlt).2, fun _ _ _ _ h => h⟩)
      have H0L := Lib.hid (show (ll (k)).length ≤ 140737488355328 from by omega)
      have HCS := Lib.hid hcs
      have HBIG := Lib.hid hbig
      clear hcs hs hq hbig
      go_wp2
      refine regx_open (fun k => own c B k ∨ k = w1.heap.size) (n := 13) rfl (by kernel_rfl) ?_
      refine regx_take 0 (some 30) (v := ?_) rfl rfl (by kernel_rfl) (by kernel_rfl) (by kernel_rfl) (fun _ _ _ h => h) (by rfl) ?_ ?_
      rotate_left
      · intro W hW; go_simp; first | done | with_reducible rfl
      try simp only [Act.put, List.setIfInBounds_toArray, List.set_cons_zero, List.set_cons_succ]
      refine regx_take 2 (some 32) (v := ?_) rfl rfl (by kernel_rfl) (by kernel_rfl) (by kernel_rfl) (fun _ _ _ h => h) (by rfl) ?_ ?_
      rotate_left
      · intro W hW; go_simp; first | done | with_reducible rfl
      try simp only [Act.put, List.setIfInBounds_toArray, List.set_cons_zero, List.set_cons_succ]
      refine regx_take 3 (some 33) (v := ?_) rfl rfl (by kernel_rfl) (by kernel_rfl) (by kernel_rfl) (fun _ _ _ h => h) (by rfl) ?_ ?_
      rotate_left
      · intro W hW; go_simp; first | done | with_reducible rfl
      try simp only [Act.put, List.setIfInBounds_toArray, List.set_cons_zero, List.set_cons_succ]
      refine regx_take 4 (some 34) (v := ?_) rfl rfl (by kernel_rfl) (by kernel_rfl) (by kernel_rfl) (fun _ _ _ h => h) (by rfl) ?_ ?_
      rotate_left
      · intro W hW; go_simp; first | done | with_reducible rfl
      try simp only [Act.put, List.setIfInBounds_toArray, List.set_cons_zero, List.set_cons_succ]
      refine regx_take 5 (some 35) (v := ?_) rfl rfl (by kernel_rfl) (by kernel_rfl) (by kernel_rfl) (fun _ _ _ h => h) (by rfl) ?_ ?_
      rotate_left
      · intro W hW; have k1 := keeps_cell hW (show wr.drew.cell? ⟨b, o + k, none⟩ = _ from H0C.out) H0N.out; go_simp; first | done | with_reducible rfl
      try simp only [Act.put, List.setIfInBounds_toArray, List.set_cons_zero, List.set_cons_succ]
      refine regx_take 6 (some 36) (v := ?_) rfl rfl (by kernel_rfl) (by kernel_rfl) (by kernel_rfl) (fun _ _ _ h => h) (by rfl) ?_ ?_
      rotate_left
      · intro W hW; go_simp; first | done | with_reducible rfl
      try simp only [Act.put, List.setIfInBounds_toArray, List.set_cons_zero, List.set_cons_succ]
      refine wpAnyH_ready (rs := [1]) (by kernel_rfl) (by simp) ?_
      refine (AllReadyH.cons (o := { dst := some 31, op := Op.load 40 (Operand.tmp 4), type := 40, pos := "law.go:102", after := #[], guard := none }) rfl (fun K hK => ?_) AllReadyH.nil)
      refine wp_of_exec (exec_ld40 (x := .tmp 4) (b := w1.heap.size) (r := r) ?_ ?_ ?_) ?_
      · rfl
      · rfl
      · exact H0.out.x
      refine regx_same hK ?_
      clear hK K
      try simp only [Act.put, List.setIfInBounds_toArray, List.set_cons_zero, List.set_cons_succ]
      refine wpAnyH_ready (rs := [7]) (by kernel_rfl) (by simp) ?_
      refine (AllReadyH.cons (o := { dst := some 37, op := Op.call { callee := Callee.value (Operand.func 19), args := #[Operand.tmp 30, Operand.tmp 31, Operand.tmp 36], argTypes := #[24, 40, 36] }, type := 43, pos := "law.go:102", after := #[{ on := 0, ground := Ground.data }, { on := 1, ground := Ground.data }, { on := 6, ground := Ground.data }], guard := none }) rfl (fun K hK => ?_) AllReadyH.nil)
      go_simp
      refine (act_any M B c r _ ⟨0, aa k, (ll k).length, cc k⟩ (ll k) _ H0.out.ns.drew H0.out.rs.drew H0B.out (fun k hk => (H0.out.mw k hk).2) rfl (Inn.drew H0I.out) H0L.out).mono ?_; rintro e u5 ⟨c5, r5, M5, rfl, hP⟩; have h1 : Keeps (fun k => own c B k ∨ k = w1.heap.size) _ u5 := hP.keep.mono (fun i _ h => .inl h)
      refine regx_next hK h1 ?_
      clear hK K
      try simp only [Act.put, List.setIfInBounds_toArray, List.set_cons_zero, List.set_cons_succ]
      refine regx_take 8 (some 29) (v := ?_) rfl rfl (by kernel_rfl) (by kernel_rfl) (by kernel_rfl) (fun _ _ _ h => h) (by rfl) ?_ ?_
      rotate_left
      · intro W hW; go_simp; first | done | with_reducible rfl
      try simp only [Act.put, List.setIfInBounds_toArray, List.set_cons_zero, List.set_cons_succ]
      refine regx_take 9 (some 38) (v := ?_) rfl rfl (by kernel_rfl) (by kernel_rfl) (by kernel_rfl) (fun _ _ _ h => h) (by rfl) ?_ ?_
      rotate_left
      · intro W hW; go_simp; first | done | with_reducible rfl
      try simp only [Act.put, List.setIfInBounds_toArray, List.set_cons_zero, List.set_cons_succ]
      refine regx_take 10 (some 39) (v := ?_) rfl rfl (by kernel_rfl) (by kernel_rfl) (by kernel_rfl) (fun _ _ _ h => h) (by rfl) ?_ ?_
      rotate_left
      · intro W hW; go_simp; first | done | with_reducible rfl
      try simp only [Act.put, List.setIfInBounds_toArray, List.set_cons_zero, List.set_cons_succ]
      refine wpAnyH_ready (rs := [11]) (by kernel_rfl) (by simp) ?_
      refine (AllReadyH.cons (o := { dst := none, op := Op.store 40 (Operand.tmp 4) (Operand.tmp 38), type := 0, pos := "law.go:102", after := #[{ on := 9, ground := Ground.data }, { on := 7, ground := Ground.chain }, { on := 0, ground := Ground.phase }, { on := 1, ground := Ground.phase }, { on := 2, ground := Ground.phase }, { on := 3, ground := Ground.phase }, { on := 4, ground := Ground.phase }, { on := 5, ground := Ground.phase }, { on := 6, ground := Ground.phase }, { on := 7, ground := Ground.phase }, { on := 8, ground := Ground.phase }, { on := 9, ground := Ground.phase }, { on := 10, ground := Ground.textOnly Departure.lateStores }], guard := none }) rfl (fun K hK => ?_) AllReadyH.nil)
      have hz := (hP.keep.block _ (lt_of_block (show wr.drew.heap[w1.heap.size]? = _ from H0.out.x)) H0.out.nown).trans H0.out.x
      refine wp_store_all 40 _ _ rfl w1.heap.size ?csu4 ?hxu4 ?hyu4 _ _ hz ?hfu4 3 ?hnu4 Try.size40 ?h1u4 ?_
      case hyu4 => exact rfl
      case hxu4 => exact rfl
      case hfu4 => exact rfl
      case hnu4 => exact rfl
      case h1u4 => simp [allOne, Value.oneCell']
      intro v5 hb4 h4'
      have h4 : Keeps (fun k => own c B k ∨ k = w1.heap.size) _ v5 := Keeps.row h4' (.inr rfl)
      refine regx_next hK h4 ?_
      clear hK K
      try simp only [Act.put]
      refine regx_take 12 (some 5) (v := ?_) rfl rfl (by kernel_rfl) (by kernel_rfl) (by kernel_rfl) (fun _ _ _ h => h) (by rfl) ?_ ?_
      rotate_left
      · intro W hW; go_simp; first | done | with_reducible rfl
      try simp only [Act.put, List.setIfInBounds_toArray, List.set_cons_zero, List.set_cons_succ]
      refine wpAnyH_done (by kernel_rfl) ?_ _
      have H5 := Lib.hid (H0.out.act (drewP hP) (show Keeps (fun k => k = w1.heap.size) u5 v5 from Keeps.row h4' rfl) hb4)
      clear hP h1 h4 h4' hb4 hz
      have hcs := HCS.out
      have hbig := HBIG.out
      have H5B := Lib.hid (step_nb (pushes_nb ll n k (by omega)) (pushes_le ll n k) (pushes_len ll n k) (by omega) 0 (ll k))
      have H5C := Lib.hid ((World.cell?_of_block (a := ⟨b, o + q, none⟩) (H5.out.g.block b hb0 (by simp))).trans (hcs q hqlt).1)
      have H5N := Lib.hid (H5.out.outside hb0 (Nat.le_of_lt_succ (Nat.lt_succ_of_le hX)))
      have H5I := Lib.hid (H5.out.inn (v := .slice (aa (q)) (ll (q)).length (cc (q))) ⟨_, _, rfl, (hcs q hqlt).2, fun _ _ _ _ h => h⟩)
      have H5L := Lib.hid (show (ll (q)).length ≤ 140737488355328 from hbig q hqlt)
      clear hcs hbig hck
      go_wp2
      refine regx_open (fun k => own c5 B k ∨ k = w1.heap.size) (n := 17) rfl (by kernel_rfl) ?_
      refine regx_take 0 (some 42) (v := ?_) rfl rfl (by kernel_rfl) (by kernel_rfl) (by kernel_rfl) (fun _ _ _ h => h) (by rfl) ?_ ?_
      rotate_left
      · intro W hW; go_simp; first | done | with_reducible rfl
      try simp only [Act.put, List.setIfInBounds_toArray, List.set_cons_zero, List.set_cons_succ]
      refine regx_take 2 (some 44) (v := ?_) rfl rfl (by kernel_rfl) (by kernel_rfl) (by kernel_rfl) (fun _ _ _ h => h) (by rfl) ?_ ?_
      rotate_left
      · intro W hW; go_simp; first | done | with_reducible rfl
      try simp only [Act.put, List.setIfInBounds_toArray, List.set_cons_zero, List.set_cons_succ]
      refine regx_take 3 (some 45) (v := ?_) rfl rfl (by kernel_rfl) (by kernel_rfl) (by kernel_rfl) (fun _ _ _ h => h) (by rfl) ?_ ?_
      rotate_left
      · intro W hW; go_simp; first | done | with_reducible rfl
      try simp only [Act.put, List.setIfInBounds_toArray, List.set_cons_zero, List.set_cons_succ]
      refine regx_take 4 (some 46) (v := ?_) rfl rfl (by kernel_rfl) (by kernel_rfl) (by kernel_rfl) (fun _ _ _ h => h) (by rfl) ?_ ?_
      rotate_left
      · intro W hW; go_simp; first | done | with_reducible rfl
      try simp only [Act.put, List.setIfInBounds_toArray, List.set_cons_zero, List.set_cons_succ]
      refine regx_take 5 (some 47) (v := ?_) rfl rfl (by kernel_rfl) (by kernel_rfl) (by kernel_rfl) (fun _ _ _ h => h) (by rfl) ?_ ?_
      rotate_left
      · intro W hW; go_simp; first | done | with_reducible rfl
      try simp only [Act.put, List.setIfInBounds_toArray, List.set_cons_zero, List.set_cons_succ]
      refine regx_take 6 (some 48) (v := ?_) rfl rfl (by kernel_rfl) (by kernel_rfl) (by kernel_rfl) (fun _ _ _ h => h) (by rfl) ?_ ?_
      rotate_left
      · intro W hW; go_simp; first | done | with_reducible rfl
      try simp only [Act.put, List.setIfInBounds_toArray, List.set_cons_zero, List.set_cons_succ]
      refine regx_take 7 (some 49) (v := ?_) rfl rfl (by kernel_rfl) (by kernel_rfl) (by kernel_rfl) (fun _ _ _ h => h) (by rfl) ?_ ?_
      rotate_left
      · intro W hW; go_simp; first | done | with_reducible rfl
      try simp only [Act.put, List.setIfInBounds_toArray, List.set_cons_zero, List.set_cons_succ]
      refine regx_take 8 (some 50) (v := ?_) rfl rfl (by kernel_rfl) (by kernel_rfl) (by kernel_rfl) (fun _ _ _ h => h) (by rfl) ?_ ?_
      rotate_left
      · intro W hW; go_simp; first | done | with_reducible rfl
      try simp only [Act.put, List.setIfInBounds_toArray, List.set_cons_zero, List.set_cons_succ]
      refine regx_take 9 (some 51) (v := ?_) rfl rfl (by kernel_rfl) (by kernel_rfl) (by kernel_rfl) (fun _ _ _ h => h) (by rfl) ?_ ?_
      rotate_left
      · intro W hW; have k1 := keeps_cell hW (show v5.drew.cell? ⟨b, o + q, none⟩ = _ from H5C.out) H5N.out; go_simp; first | done | with_reducible rfl
      try simp only [Act.put, List.setIfInBounds_toArray, List.set_cons_zero, List.set_cons_succ]
      refine regx_take 10 (some 52) (v := ?_) rfl rfl (by kernel_rfl) (by kernel_rfl) (by kernel_rfl) (fun _ _ _ h => h) (by rfl) ?_ ?_
      rotate_left
      · intro W hW; go_simp; first | done | with_reducible rfl
      try simp only [Act.put, List.setIfInBounds_toArray, List.set_cons_zero, List.set_cons_succ]
      refine wpAnyH_ready (rs := [1]) (by kernel_rfl) (by simp) ?_
      refine (AllReadyH.cons (o := { dst := some 43, op := Op.load 40 (Operand.tmp 4), type := 40, pos := "law.go:104", after := #[], guard := none }) rfl (fun K hK => ?_) AllReadyH.nil)
      refine wp_of_exec (exec_ld40 (x := .tmp 4) (b := w1.heap.size) (r := r5) ?_ ?_ ?_) ?_
      · rfl
      · rfl
      · exact H5.out.x
      refine regx_same hK ?_
      clear hK K
      try simp only [Act.put, List.setIfInBounds_toArray, List.set_cons_zero, List.set_cons_succ]
      refine wpAnyH_ready (rs := [11]) (by kernel_rfl) (by simp) ?_
      refine (AllReadyH.cons (o := { dst := some 53, op := Op.call { callee := Callee.value (Operand.func 19), args := #[Operand.tmp 42, Operand.tmp 43, Operand.tmp 52], argTypes := #[24, 40, 36] }, type := 43, pos := "law.go:104", after := #[{ on := 0, ground := Ground.data }, { on := 1, ground := Ground.data }, { on := 10, ground := Ground.data }], guard := none }) rfl (fun K hK => ?_) AllReadyH.nil)
      go_simp
      refine (act_any M5 B c5 r5 _ ⟨2, aa q, (ll q).length, cc q⟩ (ll q) _ H5.out.ns.drew H5.out.rs.drew H5B.out (fun k hk => (H5.out.mw k hk).2) rfl (Inn.drew H5I.out) H5L.out).mono ?_; rintro e u6 ⟨c6, r6, M6, rfl, hP⟩; have h1 : Keeps (fun k => own c5 B k ∨ k = w1.heap.size) _ u6 := hP.keep.mono (fun i _ h => .inl h)
      refine regx_next hK h1 ?_
      clear hK K
      try simp only [Act.put, List.setIfInBounds_toArray, List.set_cons_zero, List.set_cons_succ]
      refine regx_take 12 (some 41) (v := ?_) rfl rfl (by kernel_rfl) (by kernel_rfl) (by kernel_rfl) (fun _ _ _ h => h) (by rfl) ?_ ?_
      rotate_left
      · intro W hW; go_simp; first | done | with_reducible rfl
      try simp only [Act.put, List.setIfInBounds_toArray, List.set_cons_zero, List.set_cons_succ]
      refine regx_take 13 (some 54) (v := ?_) rfl rfl (by kernel_rfl) (by kernel_rfl) (by kernel_rfl) (fun _ _ _ h => h) (by rfl) ?_ ?_
      rotate_left
      · intro W hW; go_simp; first | done | with_reducible rfl
      try simp only [Act.put, List.setIfInBounds_toArray, List.set_cons_zero, List.set_cons_succ]
      refine regx_take 14 (some 55) (v := ?_) rfl rfl (by kernel_rfl) (by kernel_rfl) (by kernel_rfl) (fun _ _ _ h => h) (by rfl) ?_ ?_
      rotate_left
      · intro W hW; go_simp; first | done | with_reducible rfl
      try simp only [Act.put, List.setIfInBounds_toArray, List.set_cons_zero, List.set_cons_succ]
      refine wpAnyH_ready (rs := [15]) (by kernel_rfl) (by simp) ?_
      refine (AllReadyH.cons (o := { dst := none, op := Op.store 40 (Operand.tmp 4) (Operand.tmp 54), type := 0, pos := "law.go:104", after := #[{ on := 13, ground := Ground.data }, { on := 11, ground := Ground.chain }, { on := 0, ground := Ground.phase }, { on := 1, ground := Ground.phase }, { on := 2, ground := Ground.phase }, { on := 3, ground := Ground.phase }, { on := 4, ground := Ground.phase }, { on := 5, ground := Ground.phase }, { on := 6, ground := Ground.phase }, { on := 7, ground := Ground.phase }, { on := 8, ground := Ground.phase }, { on := 9, ground := Ground.phase }, { on := 10, ground := Ground.phase }, { on := 11, ground := Ground.phase }, { on := 12, ground := Ground.phase }, { on := 13, ground := Ground.phase }, { on := 14, ground := Ground.textOnly Departure.lateStores }], guard := none }) rfl (fun K hK => ?_) AllReadyH.nil)
      have hz := (hP.keep.block _ (lt_of_block (show v5.drew.heap[w1.heap.size]? = _ from H5.out.x)) H5.out.nown).trans H5.out.x
      refine wp_store_all 40 _ _ rfl w1.heap.size ?csu9 ?hxu9 ?hyu9 _ _ hz ?hfu9 3 ?hnu9 Try.size40 ?h1u9 ?_
      case hyu9 => exact rfl
      case hxu9 => exact rfl
      case hfu9 => exact rfl
      case hnu9 => exact rfl
      case h1u9 => simp [allOne, Value.oneCell']
      intro v6 hb4 h4'
      have h4 : Keeps (fun k => own c5 B k ∨ k = w1.heap.size) _ v6 := Keeps.row h4' (.inr rfl)
      refine regx_next hK h4 ?_
      clear hK K
      try simp only [Act.put]
      refine regx_take 16 (some 5) (v := ?_) rfl rfl (by kernel_rfl) (by kernel_rfl) (by kernel_rfl) (fun _ _ _ h => h) (by rfl) ?_ ?_
      rotate_left
      · intro W hW; go_simp; first | done | with_reducible rfl
      try simp only [Act.put, List.setIfInBounds_toArray, List.set_cons_zero, List.set_cons_succ]
      refine wpAnyH_done (by kernel_rfl) ?_ _
      have H6 := Lib.hid (H5.out.act (drewP hP) (show Keeps (fun k => k = w1.heap.size) u6 v6 from Keeps.row h4' rfl) hb4)
      clear hP h1 h4 h4' hb4 hz
      go_wp2
      go_roundw
      case rel => exact ⟨rfl, k + 1, by omega, rfl, c6, r6, M6, by have h := H6.out; rw [HQ.out] at h; exact h⟩
      case measure => simp [intOf]; omega
    · have hkn : k = n := by omega
      subst hkn
      have hlt' : ¬ (k : Int) < (k : Nat) := by omega
      go_wp2_with (with_reducible refine hold_ld 40 _ rfl ?_)
      apply Lib.hid
      refine wpList_val (by rfl) (exec_ld40 (x := .tmp 4) rfl rfl H0.out.x) ?_
      go_wp2_with fail
      refine (is_ok M B c r (pushes ll k k) _ H0.out.ns H0.out.rs (pushes_nb ll k k (by omega)) (pushes_lb ll k k)).mono ?_; rintro e u1 ⟨rfl, h1⟩
      have HG1 := Lib.hid (H0.out.g.trans h1)
      clear h1
      go_wp2_with fail
      refine (works_any _).mono ?_; rintro e u2 ⟨rfl, h2⟩
      have HG := Lib.hid (HG1.out.trans h2)
      clear h2
      go_wp2
      go_ret
      exact ⟨rfl, HG.out⟩
end Go.Proofs.Ytnglbneefkdfgaa
