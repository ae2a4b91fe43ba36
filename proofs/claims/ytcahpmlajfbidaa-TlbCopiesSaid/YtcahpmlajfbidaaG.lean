import Derived.Test.YtcahpmlajfbidaaF
import Derived.Scope
namespace Go.Proofs.Ytcahpmlajfbidaa
open Go.RowKit Go.Shelf
attribute [local go_sem] Oper.semAt_some
theorem wpIn_scope_wide {P : Program} {n : Nat} {Q : Exit → Act → World → Prop} {a : Act} {w : World} {c : Code} (h : c.wpIn Fence.wide n P (Exit.noGoto Q) a w) : (Code.scope c).wpIn Fence.wide n P Q a w := wpIn_wide.2 (wp_scope_straight (wpIn_wide.1 h))
def Tl.at (T : Tl) (p : Int) : Int := if T.find p < 0 then 0 else T.find p
def Tl.has (T : Tl) (p : Int) : Bool := decide (0 ≤ T.find p)
/-- 'find's three cells. -/
def FCells (S : Nat) (page : Int) (at_ : Int) (is : Bool) (W : World) : Prop :=
  W.cell? ⟨S + 1, 0, none⟩ = some (.int .i64 at_) ∧ W.frozen? ⟨S + 1, 0, none⟩ = false ∧ W.cell? ⟨S + 1 + 1, 0, none⟩ = some (.bool is) ∧ W.frozen? ⟨S + 1 + 1, 0, none⟩ = false ∧ W.cell? ⟨S, 0, none⟩ = some (.int .u32 page)
theorem FCells.own (S : Nat) (page at_ : Int) (is : Bool) {A B : World} {row : Option Nat} (hs : FCells S page at_ is A) (hg : A.grownBy B row) (hr : ∀ r, row = some r → ∃ o : Obj, A.heap[r]? = some o ∧ o.isCells = false) : FCells S page at_ is B := by
  obtain ⟨h1, h2, h3, h4, h5⟩ := hs
  exact ⟨cell_kept h1 hg hr, (frozen_kept h1 hg hr).trans h2, cell_kept h3 hg hr, (frozen_kept h3 hg hr).trans h4, cell_kept h5 hg hr⟩
theorem FCells.write {S : Nat} {page at_ : Int} {is : Bool} {W : World} (h : FCells S page at_ is W) (at' : Int) (is' : Bool) : FCells S page at' is' ((W.setCell ⟨S + 1, 0, none⟩ (.int .i64 at')).setCell ⟨S + 1 + 1, 0, none⟩ (.bool is')) := by
  obtain ⟨h1, h2, h3, h4, h5⟩ := h
  refine ⟨?_, by simpa using h2, ?_, by simpa using h4, ?_⟩
  · rw [World.cell?_setCell_other _ _ _ _ (by simp)]
    exact World.cell?_setCell_same' _ _ _ (by rw [h1]; rfl)
  · refine World.cell?_setCell_same' _ _ _ ?_
    rw [World.cell?_setCell_other _ _ _ _ (by simp), h3]
    rfl
  · rw [World.cell?_setCell_other _ _ _ _ (by simp), World.cell?_setCell_other _ _ _ _ (by simp)]
    exact h5
set_option maxRecDepth 100000 in
set_option maxHeartbeats 4000000 in
theorem find_in (p : Option Addr) (T : Tl) (page : Int) (w : World) (hT : Pt w p T) : CallsIn Fence.wide 3 Try.prog 27 #[.pointer p, .int .u32 page] w fun e w' => e = .returned (.tuple #[.int .i64 (T.at page), .bool (T.has page)]) ∧ Below w.heap.size w w' := by
  have h1 : 1 ≤ 3 := by omega
  have hB0 : Below w.heap.size w (((w.alloc (.cells #[.int .u32 page] 25)).alloc (.cells #[.int .i64 0] 3)).alloc (.cells #[.bool false] 4)) := (((Below.refl _ w).alloc (Nat.le_refl _) _).alloc (by simp) _).alloc (by simp; omega) _
  have b1 := (((Boxed.new w 25 (.int .u32 page)).alloc (.cells #[.int .i64 0] 3)).alloc (.cells #[.bool false] 4))
  have b2 := ((Boxed.new (w.alloc (.cells #[.int .u32 page] 25)) 3 (.int .i64 0)).alloc (.cells #[.bool false] 4))
  have b3 := Boxed.new ((w.alloc (.cells #[.int .u32 page] 25)).alloc (.cells #[.int .i64 0] 3)) 4 (.bool false)
  simp only [World.size_alloc] at b2 b3
  have HF := Lib.hid (show FCells w.heap.size page 0 false _ from ⟨b2.cell, b2.frozen, b3.cell, b3.frozen, b1.cell⟩)
  have HB0 := Lib.hid hB0
  have HT := Lib.hid (hT.keptNone (grown_below hB0))
  clear hT hB0 b1 b2 b3
  refine callsIn_of_wp_marks Try.func27 rfl trivial ?_ rfl
  simp only [Try.ntmps27, List.size_toArray, List.length_cons, List.length_nil, Nat.reduceAdd, Nat.reduceSub, Array.replicate_succ, Array.replicate_zero, List.push_toArray, List.append_toArray, List.nil_append, List.cons_append]
  gi_wp2
  refine wpIn_scope_wide ?_
  refine wpIn_seq ?_
  refine wpIn_label ?_
  gi_wp2_with (refine ⟨trivial, ?_⟩; gi_at_call 22; refine (callsIn_wide.2 (walked_any p T _ HT.out)).mono ?_; rintro e w1 ⟨g, rfl, hg, hb, hg1⟩)
  simp only [World.size_alloc] at hg
  have hsz := hg1.size
  simp only [World.size_alloc] at hsz
  have HF1 : FCells w.heap.size page 0 false w1 := FCells.own _ _ _ _ HF.out hg1 (fun r e => by cases e)
  have HB1 : Below w.heap.size w w1 := HB0.out.grown hg1 HB0.out.size (fun k e => by cases e)
  clear HF HB0 HT hg1
  refine wpIn_rangeFunc_ownH rfl h1 (gf := 30) (lb := #[.pointer (some ⟨g, 0, none⟩)]) rfl trivial (enters_of Try.func30 (by kernel_rfl) rfl)
    (walked_stops Fence.wide (3 - 1) trivial rfl (by omega) g w.heap.size T w1 hb) belowK_t (belowK_b (by omega)) (Below.refl _ _) (fun _ => rfl)
    (fun pre W => (FCells w.heap.size page 0 false W ∧ ∀ x ∈ pre, x.2.page ≠ page) ∧ Below w.heap.size w W)
    (fun c pre W => (c = .exit 0 ∧ ∃ ini last, pre = ini ++ [last] ∧ (∀ x ∈ ini, x.2.page ≠ page) ∧ last.2.page = page ∧ FCells w.heap.size page last.1 true W) ∧ Below w.heap.size w W)
    (OwnFrom.and (Own.from (fun s A B row hs hg hr => ⟨FCells.own _ _ _ _ hs.1 hg hr, hs.2⟩) _) (ownFrom_below (Nat.le_refl _) (by omega)))
    (fun c => OwnFrom.and (Own.from (fun s A B row hs hg hr => by obtain ⟨hc, ini, last, e1, e2, e3, e4⟩ := hs; exact ⟨hc, ini, last, e1, e2, e3, FCells.own _ _ _ _ e4 hg hr⟩) _) (ownFrom_below (Nat.le_refl _) (by omega)))
    ⟨⟨HF1, by simp⟩, HB1⟩
    (fun x a' W => ∃ Bx, W.cell? ⟨Bx, 1, none⟩ = some (.int .u32 x.2.page) ∧ a' = { tmps := #[.pointer p, .int .u32 page, undef, .pointer (some ⟨w.heap.size, 0, none⟩), .pointer (some ⟨w.heap.size + 1, 0, none⟩), .pointer (some ⟨w.heap.size + 1 + 1, 0, none⟩), .int .i64 (x.1 : Int), .pointer (some ⟨Bx, 0, none⟩), .pointer p, .func (.func 30) #[] #[.pointer (some ⟨g, 0, none⟩)], .int .i64 (x.1 : Int), x.2.val, undef, undef, undef, undef, undef], defers := [] })
    (fun x a' => Own.from (fun s A B row hs hg hr => by obtain ⟨Bx, h1, h2⟩ := hs; exact ⟨Bx, cell_kept h1 hg hr, h2⟩) _)
    ?assign ?body ?done ?stop
  case assign =>
    rintro l pre x W K ⟨⟨hF, hne⟩, hB⟩ hK
    have HN := Lib.hid (heap_alloc_new W (.cells zero4 27))
    have HF := Lib.hid hF
    have HK := Lib.hid hK
    clear hK hF
    gi_wp2_with (with_reducible refine hold_sti 27 _ _ rfl ?_)
    apply Lib.hid
    with_reducible refine wpListIn_store_all rfl 27 _ _ rfl _ ?cs601 ?hx601 ?hy601 _ _ HN.out ?hf601 _ ?hl601 Try.size27 ?h1601 ?_
    case hy601 => exact rfl
    case hx601 => exact rfl
    case hf601 => exact rfl
    case hl601 => exact rfl
    case h1601 => simp [allOne, Value.oneCell']
    intro w2 hb2 hg2
    have hg2' : W.grownBy w2 none := grown_new (World.grownBy_alloc _ _ _) hg2 (Nat.le_refl _)
    obtain ⟨c0, c1, c2, c3⟩ := cells4 hb2
    clear hb2 hg2 HN
    gi_wp2
    exact HK.out _ _ (KeepsFrom.of_grownBy hg2' (fun j e => by cases e)) ((Below.refl _ W).grown hg2' hB.size (fun k e => by cases e)) ⟨⟨FCells.own _ _ _ _ HF.out hg2' (fun r e => by cases e), hne⟩, hB.grown hg2' hB.size (fun k e => by cases e)⟩ ⟨W.heap.size, c1, rfl⟩
  case body =>
    rintro l pre x a' W hl ⟨r, hr⟩ ⟨⟨hF, hne⟩, hB⟩ ⟨Bx, hcx, rfl⟩ hlt
    obtain ⟨h1, h2, h3, h4, h5⟩ := id hF
    by_cases hp : x.2.page = page
    · gi_wp2
      refine ⟨((KeepsOthers.setCell W _ _).trans (KeepsOthers.setCell _ _ _)).from _, ⟨rfl, pre, x, rfl, hne, hp, hF.write _ _⟩, ?_⟩
      exact (hB.setCell (p := ⟨w.heap.size + 1, 0, none⟩) (by simp) _).setCell (p := ⟨w.heap.size + 1 + 1, 0, none⟩) (by simp; omega) _
    · have hpb : (x.2.page == page) = false := by simpa using hp
      gi_wp2
      exact ⟨KeepsFrom.refl _ _, Below.refl _ _, ⟨hF, fun y hy => (List.mem_append.1 hy).elim (hne y) (fun e => by simp at e; subst e; exact hp)⟩, hB⟩
  case done =>
    rintro D ys W hD rfl ⟨⟨hF, hne⟩, hB⟩ hK
    have hf := find_none T page hne
    have e1 : T.at page = 0 := by simp [Tl.at, hf]
    have e2 : T.has page = false := by simp [Tl.has, hf]
    have hF5 := FCells.own _ _ _ _ hF (grownBy_putObj' W D (.deferred none)) (fun r e => by cases e; exact ⟨_, hK, rfl⟩)
    have hB5 := hB.trans (belowK_b (w := w) (Nat.le_refl _) W D _ (.deferred none) (by omega) hK rfl rfl)
    obtain ⟨k1, _, k3, _, _⟩ := hF5
    clear hF hne hB
    gi_wp2
    refine ⟨by simp, .inl ⟨_, _, rfl, run_takeDeferred hK, ?_⟩⟩
    refine ⟨.tuple #[.int .i64 0, .bool false], ?_, by rw [e1, e2], hB5⟩
    simp [results, Try.f27, go_sem, k1, k3]
  case stop =>
    rintro D c pre W hD ⟨k, hk, rfl⟩ ⟨⟨rfl, ini, last, e1, e2, e3, hF⟩, hB⟩ hK
    have hf := find_some T page e1 e2 e3
    have e1 : T.at page = last.1 := by simp [Tl.at, hf]; omega
    have e2 : T.has page = true := by simp [Tl.has, hf]
    have hF5 := FCells.own _ _ _ _ hF (grownBy_putObj' W D (.deferred none)) (fun r e => by cases e; exact ⟨_, hK, rfl⟩)
    have hB5 := hB.trans (belowK_b (w := w) (Nat.le_refl _) W D _ (.deferred none) (by omega) hK rfl rfl)
    obtain ⟨k1, _, k3, _, _⟩ := hF5
    clear hF hB
    gi_wp2
    refine ⟨by simp, .inl ⟨_, _, rfl, run_takeDeferred hK, ?_⟩⟩
    refine ⟨.tuple #[.int .i64 last.1, .bool true], ?_, by rw [e1, e2], hB5⟩
    simp [results, Try.f27, go_sem, k1, k3]
theorem find_any (p : Option Addr) (T : Tl) (page : Int) (w : World) (hT : Pt w p T) : Calls Try.prog 27 #[.pointer p, .int .u32 page] w fun e w' => e = .returned (.tuple #[.int .i64 (T.at page), .bool (T.has page)]) ∧ w.grownBy w' none :=
  (callsIn_wide.1 (find_in p T page w hT)).mono fun _ _ h => ⟨h.1, grown_below h.2⟩
end Go.Proofs.Ytcahpmlajfbidaa
