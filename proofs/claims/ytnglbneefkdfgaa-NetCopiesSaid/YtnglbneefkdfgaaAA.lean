import Derived.Test.YtnglbneefkdfgaaZ
set_option linter.unusedVariables false
namespace Go.Proofs.Ytnglbneefkdfgaa
open Go.RowKit
theorem PG.ref {w w1 wr u u4 : World} {B : Nat} {g gr gr' : Nh} {c : Nc} {r r' : Rf} {M : Nat → Prop} (h : PG w w1 B g gr c r M wr) (hg : wr.grownBy u none) (hR : RS M u r' gr') (hk : Keeps (fun k => k = w1.heap.size) u u4)
    (hb : u4.heap[w1.heap.size]? = some (.cells r'.cells 40 (0, 0))) : PG w w1 B g gr' c r' M u4 := by
  have hno := h.nown
  have hz := hg.size
  have hzk := hk.size
  have hx' : ∀ k, k < u.heap.size → k = w1.heap.size → M k := fun k _ e => e ▸ h.mx
  exact ⟨(h.ns.keptNone hg).keeps hk hx' (fun k hk e => hno (e ▸ hk)), hR.keeps hk hx', hb, fun k hk => by have := h.mw k hk; omega, h.mx,
    ((Keeps.keep (X := fun k => w.heap.size ≤ k) (h.g.trans hg)).trans (hk.mono (fun i _ e => by subst e; exact (h.mw _ h.mx).1))).toGrown (fun i hi hx => by omega)⟩
theorem PG.net {w w1 wr u : World} {B : Nat} {g g' gr : Nh} {c c' : Nc} {r : Rf} {M : Nat → Prop} (h : PG w w1 B g gr c r M wr) (hL : LPost M wr u B c c' g') : PG w w1 B g' gr c' r (with_ M (own c' B)) u := by
  have hno := h.nown
  have hz := hL.keep.size
  have hg := h.g.size
  have hx : ∀ k, with_ M (own c' B) k → M k ∨ wr.heap.size ≤ k := fun k hk => hk.elim .inl (fun h2 => (hL.newl k h2).imp (h.ns.ow k) id)
  refine ⟨hL.ns, (h.rs.more hx).keeps hL.keep (fun k _ hk => .inl (h.ns.ow k hk)), (hL.keep.block _ (lt_of_block h.x) hno).trans h.x, fun k hk => ?_, .inl h.mx, ?_⟩
  · rcases hk with hk | hk
    · have := h.mw k hk; omega
    · have h1 := hL.ns.lt k hk
      exact ⟨(hL.newl k hk).elim (fun h2 => (h.mw k (h.ns.ow k h2)).1) (fun h2 => by omega), h1⟩
  · exact ((Keeps.keep (X := fun k => w.heap.size ≤ k) h.g).trans (hL.keep.mono (fun i _ hi => (h.mw i (h.ns.ow i hi)).1))).toGrown (fun i hi hx => by omega)
/-- A net and the document's. -/
structure PH (w : World) (B : Nat) (g : Nh) (c : Nc) (r : Rf) (M : Nat → Prop) (wr : World) : Prop where
  ns : NS M wr B c g
  rs : RS M wr r g
  mw : ∀ k, M k → w.heap.size ≤ k ∧ k < wr.heap.size
  g : w.grownBy wr none
theorem PG.ph {w w1 wr : World} {B : Nat} {g : Nh} {c : Nc} {r : Rf} {M : Nat → Prop} (h : PG w w1 B g g c r M wr) : PH w B g c r M wr := ⟨h.ns, h.rs, h.mw, h.g⟩
theorem PH.keptNone {w wr wr' : World} {B : Nat} {g : Nh} {c : Nc} {r : Rf} {M : Nat → Prop} (h : PH w B g c r M wr) (hg : wr.grownBy wr' none) : PH w B g c r M wr' :=
  ⟨h.ns.keptNone hg, h.rs.keptNone hg, fun k hk => by have := h.mw k hk; have := hg.size; omega, h.g.trans hg⟩
theorem PH.act {w wr u : World} {B : Nat} {g g' : Nh} {c c' : Nc} {r r' : Rf} {M M' : Nat → Prop} (h : PH w B g c r M wr) (hP : APost M M' wr u B c c' r' g') : PH w B g' c' r' M' u := by
  have hz := h.g.size
  refine ⟨hP.ns, hP.rs, fun k hk => ⟨(hP.mm k hk).elim (fun h2 => (h.mw k h2).1) (fun h2 => by omega), hP.mb k hk⟩, ?_⟩
  exact ((Keeps.keep (X := fun k => w.heap.size ≤ k) h.g).trans (hP.keep.mono (fun i _ hi => (h.mw i (h.ns.ow i hi)).1))).toGrown (fun i hi hx => by omega)
theorem PH.inn {w wr : World} {B : Nat} {g : Nh} {c : Nc} {r : Rf} {M : Nat → Prop} (h : PH w B g c r M wr) {v : Value} {l : List UInt8} (hi : Inn (fun _ => False) w v l) : Inn M wr v l :=
  (hi.more (fun k hk => .inr (h.mw k hk).1)).keeps (X := fun _ => False) (Keeps.keep h.g) (fun _ _ h => h.elim)
theorem PG.inn' {w w1 wr : World} {B : Nat} {g gr : Nh} {c : Nc} {r : Rf} {M : Nat → Prop} (h : PG w w1 B g gr c r M wr) {v : Value} {l : List UInt8} (hi : Inn (fun _ => False) w v l) : Inn M wr v l :=
  (hi.more (fun k hk => .inr (h.mw k hk).1)).keeps (X := fun _ => False) (Keeps.keep h.g) (fun _ _ h => h.elim)
theorem cell_row {w w' : World} {X b o : Nat} {v : Value} (hg : w.grownBy w' (some X)) (hc : w.cell? ⟨b, o, none⟩ = some v) (hn : b ≠ X) : w'.cell? ⟨b, o, none⟩ = some v :=
  (World.cell?_of_block (a := ⟨b, o, none⟩) (hg.block b (World.block_lt_of_cell? w _ hc) (by simpa using hn))).trans hc
/-- Packets that came, and were all taken. -/
def gone (ll : Nat → List UInt8) (k : Nat) : Nh := ⟨(List.range k).map ll, k, []⟩
theorem gone_nb (ll : Nat → List UInt8) (k : Nat) (hk : k ≤ 20) (h : ∀ j, j < k → (ll j).length ≤ 64) : Nb (gone ll k) := by
  refine nb_of ⟨fun x hx => ?_, fun x hx => by (cases hx)⟩ (by simp [gone]; omega) (by simp [gone])
  simp only [gone, List.mem_map, List.mem_range] at hx
  obtain ⟨j, hj, rfl⟩ := hx
  exact h j hj
theorem gone_push (ll : Nat → List UInt8) (k : Nat) (h : (ll k).length ≤ 64) : (gone ll k).push (ll k) = ⟨(List.range (k + 1)).map ll, k, []⟩ := by
  have hf : (gone ll k).full (ll k) = false := by simp [Nh.full, gone]; omega
  rw [Nh.push, hf]
  simp [gone, List.range_succ]
theorem gone_take (ll : Nat → List UInt8) (k : Nat) : (⟨(List.range (k + 1)).map ll, k, []⟩ : Nh).take = gone ll (k + 1) := by
  have hf : (⟨(List.range (k + 1)).map ll, k, []⟩ : Nh).more = true := by simp [Nh.more]
  rw [Nh.take, hf]
  rfl
theorem gone_pnb (ll : Nat → List UInt8) (k : Nat) (hk : k < 20) (h : ∀ j, j ≤ k → (ll j).length ≤ 64) : Nb ⟨(List.range (k + 1)).map ll, k, []⟩ := by
  refine nb_of ⟨fun x hx => ?_, fun x hx => by (cases hx)⟩ (by simp; omega) (by simp)
  simp only [List.mem_map, List.mem_range] at hx
  obtain ⟨j, hj, rfl⟩ := hx
  exact h j (by omega)
theorem gone_le (ll : Nat → List UInt8) (k : Nat) (h : ∀ j, j < k → (ll j).length ≤ 64) : (∀ x ∈ (gone ll k).came, x.length ≤ 64) ∧ ∀ x ∈ (gone ll k).sent, x.length ≤ 64 := by
  refine ⟨fun x hx => ?_, fun x hx => by (cases hx)⟩
  simp only [gone, List.mem_map, List.mem_range] at hx
  obtain ⟨j, hj, rfl⟩ := hx
  exact h j hj
theorem lb_of {g : Nh} (h : (∀ x ∈ g.came, x.length ≤ 64) ∧ ∀ x ∈ g.sent, x.length ≤ 64) : Lb g :=
  ⟨fun x hx => Nat.le_trans (h.1 x hx) (by omega), fun x hx => Nat.le_trans (h.2 x hx) (by omega)⟩
set_option maxHeartbeats 8000000 in
theorem netOne_walk (a : Option Addr) (n cap : Nat) (aa : Nat → Option Addr) (cc : Nat → Nat) (ll : Nat → List UInt8) (pa : Option Addr) (pn pc : Nat) (ps : List UInt8) (w : World) (hs : SrcLL w a n aa cc ll) (hm : n ≤ 9223372036854775807) (hpn : pn = ps.length) (hp : Go.Proofs.Ytnglbneefkdfgaa.Src w pa ps) (hpm : pn ≤ 9223372036854775807) :
    Calls Try.prog 7 #[.slice a n cap, .slice pa pn pc] w fun e w' => e = .returned (.bool true) ∧ w.grownBy w' none := by
  by_cases h20 : 20 < n
  · have h20' : (20 : Int) < (n : Nat) := by omega
    clear hs hpn hp
    go_enter Try.func7, Try.ntmps7
    go_wp2_with fail
    refine (works_any _).mono ?_; rintro e w1 ⟨rfl, hg1⟩
    go_wp2
    go_ret
    exact ⟨rfl, hg1⟩
  have h20' : ¬ (20 : Int) < (n : Nat) := by omega
  by_cases h3 : 3000 < pn
  · have h3' : (3000 : Int) < (pn : Nat) := by omega
    clear hs hpn hp
    go_enter Try.func7, Try.ntmps7
    go_wp2_with fail
    refine (works_any _).mono ?_; rintro e w1 ⟨rfl, hg1⟩
    go_wp2
    go_ret
    exact ⟨rfl, hg1⟩
  have h3' : ¬ (3000 : Int) < (pn : Nat) := by omega
  have HPN := Lib.hid hpn
  have HPS := Lib.hid hp
  have hp3 : ps.length ≤ 3000 := by omega
  clear hp hpn
  go_enter Try.func7, Try.ntmps7
  go_wp2_with fail
  refine (new_any _).mono ?_; rintro e w1 ⟨B, rfl, hB, hTb, hg1⟩
  have hX := hg1.size
  have HN := Lib.hid (heap_alloc_new w1 (.cells Rf.zero.cells 40))
  have HT := Lib.hid hTb
  have HG1 := Lib.hid hg1
  clear hTb hg1
  go_wp2_with (with_reducible refine hold_st 40 _ _ rfl ?_)
  apply Lib.hid
  with_reducible refine wpList_store_all rfl 40 _ _ rfl _ ?cs1501 ?hx1501 ?hy1501 _ _ HN.out ?hf1501 _ ?hl1501 Try.size40 ?h11501 ?_
  case hy1501 => exact rfl
  case hx1501 => exact rfl
  case hf1501 => exact rfl
  case hl1501 => exact rfl
  case h11501 => simp [allOne, Value.oneCell']
  intro w2 hb2 hg2
  have HPI := Lib.hid (PG.start hB HT.out HG1.out hg2 hb2)
  clear hb2 hg2 HN HT HG1
  go_wp2
  go_loopw [7] (fun i wr => ∃ k : Nat, k ≤ n ∧ i = .int .i64 k ∧ (∀ j, j < k → (ll j).length ≤ 64) ∧ ∃ c r M, PG w w1 B (gone ll k) (gone ll k) c r M wr) (fun i _ => n - (intOf i).toNat)
  case atStart => exact ⟨0, Nat.zero_le _, rfl, fun j hj => by omega, .new, .zero, _, HPI.out⟩
  case round =>
    obtain ⟨k, hk, rfl, hle, c, r, M, hPI⟩ := hrel
    have H0 := Lib.hid hPI
    have HLE := Lib.hid hle
    clear hPI HPI hle
    by_cases hlt : k < n
    · obtain ⟨b, o, rfl, hcs⟩ := hs.resolve_left (by omega)
      have hb0 : b < w.heap.size := World.block_lt_of_cell? w _ (hcs k hlt).1
      have hlt' : (k : Int) < (n : Nat) := by omega
      have hck := (World.cell?_of_block (a := ⟨b, o + k, none⟩) (H0.out.g.block b hb0 (by simp))).trans (hcs k hlt).1
      by_cases h64 : 64 < (ll k).length
      · have h64' : (64 : Int) < ((ll k).length : Nat) := by omega
        have HG := Lib.hid H0.out.g
        clear hcs hs H0
        go_wp2_with fail
        refine (works_any _).mono ?_; rintro e w3 ⟨rfl, hg3⟩
        have HG3 := Lib.hid (HG.out.trans hg3)
        clear hg3
        go_wp2
        go_ret
        exact ⟨rfl, HG3.out⟩
      have h64' : ¬ (64 : Int) < ((ll k).length : Nat) := by omega
      have hwk : IntKind.i64.wrap ((k : Int) + 1) = ((k + 1 : Nat) : Int) := by rw [IntKind.wrap_i64]; omega
      have HNB0 := Lib.hid (gone_nb ll k (by omega) HLE.out)
      have HC := Lib.hid hck
      have HNB := Lib.hid (show b ≠ w1.heap.size from by omega)
      have HSL := Lib.hid (hcs k hlt).2
      have HI := Lib.hid (H0.out.inn' (v := .slice (aa k) (ll k).length (cc k)) ⟨_, _, rfl, HSL.out, fun _ _ _ _ h => h⟩)
      have HGP := Lib.hid (gone_push ll k (by omega))
      have HPB := Lib.hid (gone_pnb ll k (by omega) (fun j hj => by
        rcases Nat.lt_or_ge j k with h | h
        · exact HLE.out j h
        · obtain rfl : j = k := by omega
          omega))
      clear hcs hs
      go_wp2
      refine reg_open (some w1.heap.size) (n := 11) rfl (by kernel_rfl) ?_
      refine reg_take 1 (some 39) (v := ?_) rfl rfl (by kernel_rfl) (by kernel_rfl) (by kernel_rfl) (fun _ _ _ h => h) (by rfl) ?_ ?_
      rotate_left
      · intro W hW; go_simp; first | done | with_reducible rfl
      try simp only [Act.put, List.setIfInBounds_toArray, List.set_cons_zero, List.set_cons_succ]
      refine reg_take 2 (some 40) (v := ?_) rfl rfl (by kernel_rfl) (by kernel_rfl) (by kernel_rfl) (fun _ _ _ h => h) (by rfl) ?_ ?_
      rotate_left
      · intro W hW; go_simp; first | done | with_reducible rfl
      try simp only [Act.put, List.setIfInBounds_toArray, List.set_cons_zero, List.set_cons_succ]
      refine reg_take 3 (some 41) (v := ?_) rfl rfl (by kernel_rfl) (by kernel_rfl) (by kernel_rfl) (fun _ _ _ h => h) (by rfl) ?_ ?_
      rotate_left
      · intro W hW; go_simp; first | done | with_reducible rfl
      try simp only [Act.put, List.setIfInBounds_toArray, List.set_cons_zero, List.set_cons_succ]
      refine reg_take 4 (some 42) (v := ?_) rfl rfl (by kernel_rfl) (by kernel_rfl) (by kernel_rfl) (fun _ _ _ h => h) (by rfl) ?_ ?_
      rotate_left
      · intro W hW; have k1 := cell_row hW (show wr.drew.cell? ⟨b, o + k, none⟩ = _ from HC.out) HNB.out; go_simp; first | done | with_reducible rfl
      try simp only [Act.put, List.setIfInBounds_toArray, List.set_cons_zero, List.set_cons_succ]
      refine wpAnyH_ready (rs := [0]) (by kernel_rfl) (by simp) ?_
      refine (AllReadyH.cons (o := { dst := some 38, op := Op.load 40 (Operand.tmp 6), type := 40, pos := "near.go:19", after := #[], guard := none }) rfl (fun K hK => ?_) AllReadyH.nil)
      refine wp_of_exec (exec_ld40 (x := .tmp 6) (b := w1.heap.size) (r := r) ?_ ?_ ?_) ?_
      · rfl
      · rfl
      · exact H0.out.x
      refine reg_same hK ?_
      clear hK K
      try simp only [Act.put, List.setIfInBounds_toArray, List.set_cons_zero, List.set_cons_succ]
      refine wpAnyH_ready (rs := [5]) (by kernel_rfl) (by simp) ?_
      refine (AllReadyH.cons (o := { dst := some 43, op := Op.call { callee := Callee.value (Operand.func 21), args := #[Operand.tmp 38, Operand.tmp 42], argTypes := #[40, 22] }, type := 47, pos := "near.go:19", after := #[{ on := 0, ground := Ground.data }, { on := 4, ground := Ground.data }], guard := none }) rfl (fun K hK => ?_) AllReadyH.nil)
      go_simp
      refine (ref_push_any M r _ _ H0.out.rs.drew HNB0.out (aa k) (ll k).length (cc k) (ll k) (fun k hk => (H0.out.mw k hk).2) rfl (Inn.drew HI.out)).mono ?_; rintro e u1 ⟨r1, rfl, hg1', hR1⟩; have h1 := grown_none hg1' (some w1.heap.size)
      refine reg_next hK h1 ?_
      clear hK K
      try simp only [Act.put, List.setIfInBounds_toArray, List.set_cons_zero, List.set_cons_succ]
      refine reg_take 6 (some 37) (v := ?_) rfl rfl (by kernel_rfl) (by kernel_rfl) (by kernel_rfl) (fun _ _ _ h => h) (by rfl) ?_ ?_
      rotate_left
      · intro W hW; go_simp; first | done | with_reducible rfl
      try simp only [Act.put, List.setIfInBounds_toArray, List.set_cons_zero, List.set_cons_succ]
      refine reg_take 7 (some 44) (v := ?_) rfl rfl (by kernel_rfl) (by kernel_rfl) (by kernel_rfl) (fun _ _ _ h => h) (by rfl) ?_ ?_
      rotate_left
      · intro W hW; go_simp; first | done | with_reducible rfl
      try simp only [Act.put, List.setIfInBounds_toArray, List.set_cons_zero, List.set_cons_succ]
      refine reg_take 8 (some 45) (v := ?_) rfl rfl (by kernel_rfl) (by kernel_rfl) (by kernel_rfl) (fun _ _ _ h => h) (by rfl) ?_ ?_
      rotate_left
      · intro W hW; go_simp; first | done | with_reducible rfl
      try simp only [Act.put, List.setIfInBounds_toArray, List.set_cons_zero, List.set_cons_succ]
      refine reg_take 9 (some 46) (v := ?_) rfl rfl (by kernel_rfl) (by kernel_rfl) (by kernel_rfl) (fun _ _ _ h => h) (by rfl) ?_ ?_
      rotate_left
      · intro W hW; go_simp; first | done | with_reducible rfl
      try simp only [Act.put, List.setIfInBounds_toArray, List.set_cons_zero, List.set_cons_succ]
      refine wpAnyH_ready (rs := [10]) (by kernel_rfl) (by simp) ?_
      refine (AllReadyH.cons (o := { dst := none, op := Op.store 40 (Operand.tmp 6) (Operand.tmp 44), type := 0, pos := "near.go:19", after := #[{ on := 7, ground := Ground.data }, { on := 5, ground := Ground.chain }, { on := 0, ground := Ground.phase }, { on := 1, ground := Ground.phase }, { on := 2, ground := Ground.phase }, { on := 3, ground := Ground.phase }, { on := 4, ground := Ground.phase }, { on := 5, ground := Ground.phase }, { on := 6, ground := Ground.phase }, { on := 7, ground := Ground.phase }, { on := 8, ground := Ground.textOnly Departure.lateStores }, { on := 9, ground := Ground.textOnly Departure.lateStores }], guard := none }) rfl (fun K hK => ?_) AllReadyH.nil)
      have hz := (hg1'.block _ (lt_of_block (show wr.drew.heap[w1.heap.size]? = _ from H0.out.x)) (by simp)).trans H0.out.x
      refine wp_store_all 40 _ _ rfl w1.heap.size ?csu4 ?hxu4 ?hyu4 _ _ hz ?hfu4 3 ?hnu4 Try.size40 ?h1u4 ?_
      case hyu4 => exact rfl
      case hxu4 => exact rfl
      case hfu4 => exact rfl
      case hnu4 => exact rfl
      case h1u4 => simp [allOne, Value.oneCell']
      intro v1 hb4 h4
      refine reg_next hK h4 ?_
      clear hK K
      try simp only [Act.put]
      refine wpAnyH_done (by kernel_rfl) ?_ _
      have H1 := Lib.hid (H0.out.ref (drewl hg1') hR1 (show Keeps (fun k => k = w1.heap.size) u1 v1 from Keeps.row h4 rfl) hb4)
      clear h1 hg1' hR1 h4 hb4 hz
      have hR1 := H1.out
      rw [HGP.out] at hR1
      have H1 := Lib.hid hR1
      clear hR1 hck
      go_wp2_with (with_reducible refine hold_ld 40 _ rfl ?_)
      apply Lib.hid
      with_reducible refine wpList_load_blk rfl 40 _ rfl _ ?o1502 ?hx1502 _ _ _ H1.out.x _ 3 ?hn1502 Try.underlying40 rfl Try.size40 ?_
      case hx1502 => exact rfl
      case hn1502 => exact rfl
      go_wp2_with fail
      refine (ref_take_any M r1 _ _ H1.out.rs HPB.out).mono ?_; rintro e u2 ⟨r2, rfl, h2, hR2⟩
      have HX2 := Lib.hid ((h2.block _ (lt_of_block H1.out.x) (by simp)).trans H1.out.x)
      have H2' := Lib.hid h2
      have HR2 := Lib.hid hR2
      clear h2 hR2
      go_wp2_with (with_reducible refine hold_st 40 _ _ rfl ?_)
      apply Lib.hid
      with_reducible refine wpList_store_all rfl 40 _ _ rfl _ ?cs1503 ?hx1503 ?hy1503 _ _ HX2.out ?hf1503 _ ?hl1503 Try.size40 ?h11503 ?_
      case hy1503 => exact rfl
      case hx1503 => exact rfl
      case hf1503 => exact rfl
      case hl1503 => exact rfl
      case h11503 => simp [allOne, Value.oneCell']
      intro v2 hb5 h5
      have hp2 := H1.out.ref H2'.out HR2.out (show Keeps (fun k => k = w1.heap.size) u2 v2 from Keeps.row h5 rfl) hb5
      rw [gone_take] at hp2
      have H2 := Lib.hid hp2
      clear hp2 h5 hb5 HX2 H2' HR2 H1
      have hck := (World.cell?_of_block (a := ⟨b, o + k, none⟩) (H2.out.g.block b hb0 (by simp))).trans ((World.cell?_of_block (a := ⟨b, o + k, none⟩) (H0.out.g.block b hb0 (by simp))).symm.trans HC.out)
      go_wp2_with fail
      refine (push_any M B c _ _ H2.out.ns HNB0.out (fun k hk => (H2.out.mw k hk).2) (aa k) (ll k).length (cc k) (ll k) rfl (HSL.out.keptNone H2.out.g)).mono ?_; rintro e u3 ⟨c3, rfl, hL⟩
      have hp3 := H2.out.net hL
      rw [HGP.out] at hp3
      have H3 := Lib.hid hp3
      clear hL hp3 hck
      go_wp2_with fail
      refine (take_any _ B c3 _ _ H3.out.ns).mono ?_; rintro e u4 ⟨c4, rfl, hL⟩
      have hp4 := H3.out.net hL
      rw [gone_take] at hp4
      have H4 := Lib.hid hp4
      have HLE' := Lib.hid (show ∀ j, j < k + 1 → (ll j).length ≤ 64 from fun j hj => by
        rcases Nat.lt_or_ge j k with h | h
        · exact HLE.out j h
        · obtain rfl : j = k := by omega
          omega)
      clear hL hp4
      go_wp2
      go_roundw
      case rel => exact ⟨k + 1, by omega, rfl, HLE'.out, c4, r2, _, H4.out⟩
      case measure => simp [intOf]; omega
    · have hkn : k = n := by omega
      have hlt' : ¬ (k : Int) < (n : Nat) := by omega
      have HGL := Lib.hid (gone_le ll k HLE.out)
      have HNB0 := Lib.hid (gone_nb ll k (by omega) HLE.out)
      have HNB1 := Lib.hid (nb_of ((gone ll k).step_le 0 ps HGL.out) (by have := ((gone ll k).step_bd 0 ps).1; simp only [gone, List.length_map, List.length_range] at this ⊢; omega) (by have := ((gone ll k).step_bd 0 ps).2.1; simp only [gone, List.length_nil] at this ⊢; omega))
      have HNB2 := Lib.hid (nb_of (((gone ll k).step 0 ps).step_le 1 [] ((gone ll k).step_le 0 ps HGL.out)) (by have h1 := ((gone ll k).step_bd 0 ps).1; have h2 := (((gone ll k).step 0 ps).step_bd 1 []).1; simp only [gone, List.length_map, List.length_range] at h1 h2 ⊢; omega) (by have h1 := ((gone ll k).step_bd 0 ps).2.1; have h2 := (((gone ll k).step 0 ps).step_bd 1 []).2.1; simp only [gone, List.length_nil] at h1 h2 ⊢; omega))
      clear hs hkn
      go_wp2_with (with_reducible refine hold_ld 40 _ rfl ?_)
      apply Lib.hid
      with_reducible refine wpList_load_blk rfl 40 _ rfl _ ?o1504 ?hx1504 _ _ _ H0.out.x _ 3 ?hn1504 Try.underlying40 rfl Try.size40 ?_
      case hx1504 => exact rfl
      case hn1504 => exact rfl
      go_wp2_with fail
      refine (act_any M B c r _ ⟨0, pa, pn, pc⟩ ps _ H0.out.ns H0.out.rs HNB0.out (fun k hk => (H0.out.mw k hk).2) HPN.out (H0.out.inn' (v := .slice pa pn pc) ⟨_, _, by rw [HPN.out], HPS.out, fun _ _ _ _ h => h⟩) (by omega)).mono ?_; rintro e u1 ⟨c1, r1, M1, rfl, hP⟩
      have H1 := Lib.hid (H0.out.ph.act hP)
      have HN3 := Lib.hid (heap_alloc_new u1 (.cells Rf.zero.cells 40))
      clear hP
      go_wp2_with (with_reducible refine hold_st 40 _ _ rfl ?_)
      apply Lib.hid
      with_reducible refine wpList_store_all rfl 40 _ _ rfl _ ?cs1505 ?hx1505 ?hy1505 _ _ HN3.out ?hf1505 _ ?hl1505 Try.size40 ?h11505 ?_
      case hy1505 => exact rfl
      case hx1505 => exact rfl
      case hf1505 => exact rfl
      case hl1505 => exact rfl
      case h11505 => simp [allOne, Value.oneCell']
      intro v3 hb3 h3
      have HX3 := Lib.hid (show v3.heap[u1.heap.size]? = some (.cells r1.cells 40 (0, 0)) from hb3)
      have H3 := Lib.hid (H1.out.keptNone (grown_new (World.grownBy_alloc u1 (.cells Rf.zero.cells 40) none) h3 (Nat.le_refl _)))
      clear h3 hb3 HN3 H1
      go_wp2_with (with_reducible refine hold_ld 40 _ rfl ?_)
      apply Lib.hid
      with_reducible refine wpList_load_blk rfl 40 _ rfl _ ?o1506 ?hx1506 _ _ _ HX3.out _ 3 ?hn1506 Try.underlying40 rfl Try.size40 ?_
      case hx1506 => exact rfl
      case hn1506 => exact rfl
      go_wp2_with fail
      refine (is_ok M1 B c1 r1 _ _ H3.out.ns H3.out.rs HNB1.out (lb_of ((gone ll k).step_le 0 ps HGL.out))).mono ?_; rintro e u4 ⟨rfl, h4⟩
      have HX4 := Lib.hid ((h4.block _ (lt_of_block HX3.out) (by simp)).trans HX3.out)
      have H4 := Lib.hid (H3.out.keptNone h4)
      clear h4 HX3 H3
      go_wp2_with (with_reducible refine hold_ld 40 _ rfl ?_)
      apply Lib.hid
      with_reducible refine wpList_load_blk rfl 40 _ rfl _ ?o1507 ?hx1507 _ _ _ HX4.out _ 3 ?hn1507 Try.underlying40 rfl Try.size40 ?_
      case hx1507 => exact rfl
      case hn1507 => exact rfl
      go_wp2_with fail
      refine (act_any M1 B c1 r1 _ ⟨1, none, 0, 0⟩ [] _ H4.out.ns H4.out.rs HNB1.out (fun k hk => (H4.out.mw k hk).2) rfl ⟨none, 0, rfl, .inl rfl, fun h => (h rfl).elim⟩ (by decide)).mono ?_; rintro e u5 ⟨c5, r5, M5, rfl, hP⟩
      have H5 := Lib.hid (H4.out.act hP)
      have HN5 := Lib.hid (heap_alloc_new u5 (.cells Rf.zero.cells 40))
      clear hP
      go_wp2_with (with_reducible refine hold_st 40 _ _ rfl ?_)
      apply Lib.hid
      with_reducible refine wpList_store_all rfl 40 _ _ rfl _ ?cs1508 ?hx1508 ?hy1508 _ _ HN5.out ?hf1508 _ ?hl1508 Try.size40 ?h11508 ?_
      case hy1508 => exact rfl
      case hx1508 => exact rfl
      case hf1508 => exact rfl
      case hl1508 => exact rfl
      case h11508 => simp [allOne, Value.oneCell']
      intro v5 hb5 h5
      have HX5 := Lib.hid (show v5.heap[u5.heap.size]? = some (.cells r5.cells 40 (0, 0)) from hb5)
      have H6 := Lib.hid (H5.out.keptNone (grown_new (World.grownBy_alloc u5 (.cells Rf.zero.cells 40) none) h5 (Nat.le_refl _)))
      clear h5 hb5 HN5 H5
      go_wp2_with (with_reducible refine hold_ld 40 _ rfl ?_)
      apply Lib.hid
      refine wpList_val (by rfl) (exec_ld40 (x := .tmp 11) rfl rfl HX5.out) ?_
      go_wp2_with fail
      refine (is_ok M5 B c5 r5 _ _ H6.out.ns H6.out.rs HNB2.out (lb_of (((gone ll k).step 0 ps).step_le 1 [] ((gone ll k).step_le 0 ps HGL.out)))).mono ?_; rintro e u7 ⟨rfl, h7⟩
      have H7 := Lib.hid (H6.out.g.trans h7)
      clear h7
      go_wp2_with fail
      refine (works_any _).mono ?_; rintro e u8 ⟨rfl, h8⟩
      have HG := Lib.hid (H7.out.trans h8)
      clear h8
      go_wp2
      go_ret
      exact ⟨rfl, HG.out⟩
end Go.Proofs.Ytnglbneefkdfgaa
