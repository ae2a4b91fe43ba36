import Derived.Test.YtnglbneefkdfgaaAD
import Derived.Test.YtnglbneefkdfgaaAB
set_option linter.unusedVariables false
namespace Go.Proofs.Ytnglbneefkdfgaa
open Go.RowKit
theorem take_nil (w : World) : Calls Try.prog 13 #[.pointer none] w fun e w' => e = .returned (.bool false) ∧ w = w' := by
  go_enter Try.func13, Try.ntmps13
  go_wp2_with fail
  refine (waits_nil _).mono ?_; rintro e w' ⟨rfl, rfl⟩
  go_wp2
  go_ret
  exact ⟨rfl, rfl⟩
theorem same_nils (w : World) : Calls Try.prog 24 #[.pointer none, .pointer none] w fun e w' => e = .returned (.bool true) ∧ w = w' := by
  go_enter Try.func24, Try.ntmps24
  go_wp2_with fail
  refine (none_nil _).mono ?_; rintro e w' ⟨rfl, rfl⟩
  go_wp2_with fail
  refine (none_nil _).mono ?_; rintro e w' ⟨rfl, rfl⟩
  go_wp2_with fail
  refine (none_nil _).mono ?_; rintro e w' ⟨rfl, rfl⟩
  go_wp2
  go_ret
  exact ⟨rfl, rfl⟩
theorem same_nil1 (B : Nat) (c : Nc) (w : World) (h : Nk w B c) : Calls Try.prog 24 #[.pointer none, .pointer (some ⟨B, 0, none⟩)] w fun e w' => e = .returned (.bool false) ∧ w = w' := by
  have H := Lib.hid h
  clear h
  go_enter Try.func24, Try.ntmps24
  go_wp2_with fail
  refine (none_nil _).mono ?_; rintro e w' ⟨rfl, rfl⟩
  go_wp2_with fail
  refine (none_nil _).mono ?_; rintro e w' ⟨rfl, rfl⟩
  go_wp2_with fail
  refine (none_nk B c _ H.out).mono ?_; rintro e w' ⟨rfl, rfl⟩
  go_wp2
  go_ret
  exact ⟨rfl, rfl⟩
theorem same_nil2 (B : Nat) (c : Nc) (w : World) (h : Nk w B c) : Calls Try.prog 24 #[.pointer (some ⟨B, 0, none⟩), .pointer none] w fun e w' => e = .returned (.bool false) ∧ w = w' := by
  have H := Lib.hid h
  clear h
  go_enter Try.func24, Try.ntmps24
  go_wp2_with fail
  refine (none_nk B c _ H.out).mono ?_; rintro e w' ⟨rfl, rfl⟩
  go_wp2_with fail
  refine (none_nil _).mono ?_; rintro e w' ⟨rfl, rfl⟩
  go_wp2_with fail
  refine (none_nk B c _ H.out).mono ?_; rintro e w' ⟨rfl, rfl⟩
  go_wp2
  go_ret
  exact ⟨rfl, rfl⟩
theorem queue_nil0 (w : World) : Calls Try.prog 25 #[.pointer none] w fun e w' => ∃ a cap, e = .returned (.slice a 0 cap) ∧ w.grownBy w' none := by
  refine (queue_nil w).mono ?_
  rintro e w' ⟨v, rfl, ⟨vs, h1, _⟩, h2⟩
  obtain ⟨a, cap, rfl, _⟩ := h1.shape
  exact ⟨a, cap, rfl, h2⟩
theorem exec_ld36 {op : Oper} {ρ : Operand → Value} {W : World} {x : Operand} {b : Nat} {r : Ac} (ho : op.op = .load 36 x) (hx : ρ x = .pointer (some ⟨b, 0, none⟩)) (hb : W.heap[b]? = some (.cells r.cells 36 (0, 0))) :
    (execOp ρ op).run Try.prog W = .ok (.value r.val) W := by
  have hrun := load_blk (P := Try.prog) 0 36 2 (cur := r.cells.toList) hb (by rfl) Try.underlying36 rfl Try.size36
  simp only [execOp, ho, hx, Sem.run_bind, hrun, Result.andThen_ok, Sem.run_pure]
  rfl
theorem sameN_comm (a b : Nh) : sameN a b = sameN b a := by
  unfold sameN
  rw [decide_eq_decide.2 (eq_comm (a := a.came.drop a.taken)), decide_eq_decide.2 (eq_comm (a := a.sent)), decide_eq_decide.2 (eq_comm (a := tot a.came))]
theorem sameN_refl (a : Nh) : sameN a a = true := by simp [sameN]
/-- Three nets, apart from each other, and the document's. -/
structure T3 (w0 : World) (M : Nat → Prop) (n c d : Nat × Nc × Nh) (R : List (Rf × Nh)) (w : World) : Prop where
  hn : NS M w n.1 n.2.1 n.2.2
  hc : NS M w c.1 c.2.1 c.2.2
  hd : NS M w d.1 d.2.1 d.2.2
  nc : ∀ k, own n.2.1 n.1 k → ¬ own c.2.1 c.1 k
  nd : ∀ k, own n.2.1 n.1 k → ¬ own d.2.1 d.1 k
  cd : ∀ k, own c.2.1 c.1 k → ¬ own d.2.1 d.1 k
  rs : ∀ y ∈ R, RS M w y.1 y.2
  mw : ∀ k, M k → w0.heap.size ≤ k ∧ k < w.heap.size
  g : w0.grownBy w none
theorem T3.keptNone {w0 w w' : World} {M : Nat → Prop} {n c d : Nat × Nc × Nh} {R : List (Rf × Nh)} (h : T3 w0 M n c d R w) (hg : w.grownBy w' none) : T3 w0 M n c d R w' :=
  ⟨h.hn.keptNone hg, h.hc.keptNone hg, h.hd.keptNone hg, h.nc, h.nd, h.cd, fun y hy => (h.rs y hy).keptNone hg, fun k hk => by have := h.mw k hk; have := hg.size; omega, h.g.trans hg⟩
theorem T3.actn {w0 w u : World} {M M' : Nat → Prop} {n c d : Nat × Nc × Nh} {R : List (Rf × Nh)} {cn : Nc} {r' : Rf} {g' : Nh} (h : T3 w0 M n c d R w) (hP : APost M M' w u n.1 n.2.1 cn r' g') : T3 w0 M' (n.1, cn, g') c d ((r', g') :: R) u := by
  have hz := h.g.size
  have hx : ∀ k, k < w.heap.size → own n.2.1 n.1 k → M' k := fun k _ hk => hP.sub k (h.hn.ow k hk)
  refine ⟨hP.ns, (h.hc.more hP.sub hP.mm).keeps hP.keep hx (fun k hk ho => h.nc k ho hk), (h.hd.more hP.sub hP.mm).keeps hP.keep hx (fun k hk ho => h.nd k ho hk), fun k hk hc => ?_, fun k hk hc => ?_, h.cd, ?_, fun k hk => ⟨(hP.mm k hk).elim (fun h2 => (h.mw k h2).1) (fun h2 => by omega), hP.mb k hk⟩, ?_⟩
  · exact (hP.newl k hk).elim (fun h2 => h.nc k h2 hc) (fun h2 => by have := h.hc.lt k hc; omega)
  · exact (hP.newl k hk).elim (fun h2 => h.nd k h2 hc) (fun h2 => by have := h.hd.lt k hc; omega)
  · intro y hy
    rcases List.mem_cons.1 hy with rfl | hy
    · exact hP.rs
    · exact ((h.rs y hy).more hP.mm).keeps hP.keep hx
  · exact ((Keeps.keep (X := fun k => w0.heap.size ≤ k) h.g).trans (hP.keep.mono (fun i _ hi => (h.mw i (h.hn.ow i hi)).1))).toGrown (fun i hi hx => by omega)
theorem T3.actd {w0 w u : World} {M M' : Nat → Prop} {n c d : Nat × Nc × Nh} {R : List (Rf × Nh)} {cn : Nc} {r' : Rf} {g' : Nh} (h : T3 w0 M n c d R w) (hP : APost M M' w u d.1 d.2.1 cn r' g') : T3 w0 M' n c (d.1, cn, g') ((r', g') :: R) u := by
  have hz := h.g.size
  have hx : ∀ k, k < w.heap.size → own d.2.1 d.1 k → M' k := fun k _ hk => hP.sub k (h.hd.ow k hk)
  refine ⟨(h.hn.more hP.sub hP.mm).keeps hP.keep hx (fun k hk ho => h.nd k hk ho), (h.hc.more hP.sub hP.mm).keeps hP.keep hx (fun k hk ho => h.cd k hk ho), hP.ns, h.nc, fun k hk hc => ?_, fun k hk hc => ?_, ?_, fun k hk => ⟨(hP.mm k hk).elim (fun h2 => (h.mw k h2).1) (fun h2 => by omega), hP.mb k hk⟩, ?_⟩
  · exact (hP.newl k hc).elim (fun h2 => h.nd k hk h2) (fun h2 => by have := h.hn.lt k hk; omega)
  · exact (hP.newl k hc).elim (fun h2 => h.cd k hk h2) (fun h2 => by have := h.hc.lt k hk; omega)
  · intro y hy
    rcases List.mem_cons.1 hy with rfl | hy
    · exact hP.rs
    · exact ((h.rs y hy).more hP.mm).keeps hP.keep hx
  · exact ((Keeps.keep (X := fun k => w0.heap.size ≤ k) h.g).trans (hP.keep.mono (fun i _ hi => (h.mw i (h.hd.ow i hi)).1))).toGrown (fun i hi hx => by omega)
theorem T3.start {w0 w2 w3 w4 : World} {M : Nat → Prop} {B B1 B2 : Nat} {c c1 c2 : Nc} {g : Nh} {r : Rf} (h : NS M w2 B c g) (hr : RS M w2 r g) (mw : ∀ k, M k → w0.heap.size ≤ k ∧ k < w2.heap.size) (hg : w0.grownBy w2 none)
    (hc : NS (with_ M (own c1 B1)) w3 B1 c1 g) (oc : ∀ k, own c1 B1 k → w2.heap.size ≤ k ∧ k < w3.heap.size) (g3 : w2.grownBy w3 none) (hd : NS (with_ (with_ M (own c1 B1)) (own c2 B2)) w4 B2 c2 g) (od : ∀ k, own c2 B2 k → w3.heap.size ≤ k ∧ k < w4.heap.size) (g4 : w3.grownBy w4 none) :
    T3 w0 (with_ (with_ M (own c1 B1)) (own c2 B2)) (B, c, g) (B1, c1, g) (B2, c2, g) [(r, g)] w4 := by
  have z0 := hg.size
  have z3 := g3.size
  have z4 := g4.size
  have hlt := h.lt
  have hm2 : ∀ k, with_ (with_ M (own c1 B1)) (own c2 B2) k → M k ∨ w2.heap.size ≤ k := fun k hk => by
    rcases hk with (hk | hk) | hk
    · exact .inl hk
    · exact .inr (oc k hk).1
    · have := od k hk; exact .inr (by omega)
  refine ⟨(h.more (fun k hk => .inl (.inl hk)) hm2).keptNone (g3.trans g4), (hc.more (fun k hk => .inl hk) (fun k hk => hk.imp id (fun h => (od k h).1))).keptNone g4, hd, fun k hk h2 => ?_, fun k hk h2 => ?_, fun k hk h2 => ?_, ?_, fun k hk => ?_, (hg.trans g3).trans g4⟩
  · have := hlt k hk; have := oc k h2; omega
  · have := hlt k hk; have := od k h2; omega
  · have := oc k hk; have := od k h2; omega
  · intro y hy
    simp only [List.mem_singleton] at hy
    subst hy
    exact (hr.more hm2).keptNone (g3.trans g4)
  · rcases hk with (hk | hk) | hk
    · have := mw k hk; omega
    · have := oc k hk; omega
    · have := od k hk; omega
/-- Lists of bytes that may be written, of so many bytes each: all new since S. -/
def CB (S : Nat) (w : World) (vs : List Value) (ns : List Nat) : Prop :=
  vs.length = ns.length ∧ ∀ j (h : j < ns.length), ∃ u l, vs[j]? = some u ∧ l.length = ns[j]'h ∧ Gs eB w u (ns[j]'h) (bsV l) ∧ (∀ g, rowOf u = some g → S ≤ g)
theorem CV.cb {S : Nat} {w : World} {vs : List Value} {ls : List (List UInt8)} (h : CV S w vs ls) : CB S w vs (ls.map List.length) := by
  refine ⟨by simpa using h.1, fun j hj => ?_⟩
  simp only [List.length_map] at hj
  obtain ⟨u, h1, h2, h3⟩ := h.2 j hj
  exact ⟨u, ls[j]'hj, h1, by simp, by simpa using h2, h3⟩
theorem CV.append {S : Nat} {w : World} {vs us : List Value} {ls ms : List (List UInt8)} (h : CV S w vs ls) (k : CV S w us ms) : CV S w (vs ++ us) (ls ++ ms) := by
  refine ⟨by simp [h.1, k.1], fun j hj => ?_⟩
  rcases Nat.lt_or_ge j ls.length with hl | hl
  · obtain ⟨u, h1, h2, h3⟩ := h.2 j hl
    refine ⟨u, ?_, ?_, h3⟩
    · rw [List.getElem?_append_left (by rw [h.1]; exact hl)]; exact h1
    · rw [List.getElem_append_left hl]; exact h2
  · have hj2 : j - ls.length < ms.length := by simp at hj; omega
    obtain ⟨u, h1, h2, h3⟩ := k.2 (j - ls.length) hj2
    refine ⟨u, ?_, ?_, h3⟩
    · rw [List.getElem?_append_right (by rw [h.1]; exact hl), h.1]; exact h1
    · rw [List.getElem_append_right hl]; exact h2
theorem CV.less {S S' : Nat} {w : World} {vs : List Value} {ls : List (List UInt8)} (h : CV S w vs ls) (hs : S' ≤ S) : CV S' w vs ls :=
  ⟨h.1, fun j hj => let ⟨u, h1, h2, h3⟩ := h.2 j hj; ⟨u, h1, h2, fun g hg => Nat.le_trans hs (h3 g hg)⟩⟩
/-- A byte is written anywhere in a row: lists of bytes stay lists of bytes. -/
theorem Gs.setAny {w : World} {u : Value} {n : Nat} {l : List UInt8} (h : Gs eB w u n (bsV l)) (g p : Nat) (x : UInt8) : ∃ l', l'.length = l.length ∧ Gs eB (w.setCell ⟨g, p, none⟩ (.int .u8 (x.toNat : Int))) u n (bsV l') := by
  have hsz := grown_setCell w g p (.int .u8 (x.toNat : Int))
  by_cases hr : rowOf u = some g
  rotate_left
  · exact ⟨l, rfl, h.kept hsz (fun k hk e => by cases e; exact hr hk)⟩
  obtain ⟨h0, h1, ⟨rfl, _⟩ | ⟨g', o, cap, cur, rfl, h2, h3, h4, h5, h6⟩⟩ := h
  · cases hr
  · cases hr
    have hb := heap_setCell_at (j := p) (.int .u8 (x.toNat : Int)) h4
    rw [List.setIfInBounds_toArray] at hb
    rcases Nat.lt_or_ge p o with hp | hp
    · refine ⟨l, rfl, h0, h1, .inr ⟨g', o, cap, _, rfl, h2, h3, hb, by rw [List.length_set]; exact h5, ?_⟩⟩
      rw [List.drop_set, if_pos hp]
      exact h6
    · refine ⟨l.set (p - o) x, by simp, by simpa [bsV] using h0, bs_one _, .inr ⟨g', o, cap, _, rfl, h2, h3, hb, by rw [List.length_set]; exact h5, ?_⟩⟩
      rw [List.drop_set, if_neg (by omega), List.take_set, h6]
      simp [bsV, List.map_set, bV]
theorem CB.set {S : Nat} {w : World} {vs : List Value} {ns : List Nat} (h : CB S w vs ns) (g p : Nat) (x : UInt8) : CB S (w.setCell ⟨g, p, none⟩ (.int .u8 (x.toNat : Int))) vs ns :=
  ⟨h.1, fun j hj => by
    obtain ⟨u, l, h1, h2, h3, h4⟩ := h.2 j hj
    obtain ⟨l', e1, e2⟩ := h3.setAny g p x
    exact ⟨u, l', h1, e1.trans h2, e2, h4⟩⟩
theorem CB.drew {S : Nat} {w : World} {vs : List Value} {ns : List Nat} (h : CB S w vs ns) : CB S w.drew vs ns := h
/-- What the writing loops keep. -/
structure WI (wS : World) (la : Option Addr) (m lcap : Nat) (vs : List Value) (ns : List Nat) (wr : World) : Prop where
  gs : Gs eL wr (.slice la m lcap) m vs
  cb : CB wS.heap.size wr vs ns
  k : Keeps (fun k => wS.heap.size ≤ k) wS wr
theorem WI.set {wS wr : World} {la : Option Addr} {m lcap : Nat} {vs : List Value} {ns : List Nat} (h : WI wS la m lcap vs ns wr) {g p : Nat} {cs : Array Value} (x : UInt8) (hg : wr.heap[g]? = some (.cells cs 5 (0, 0))) (hS : wS.heap.size ≤ g) :
    WI wS la m lcap vs ns (wr.setCell ⟨g, p, none⟩ (.int .u8 (x.toNat : Int))) :=
  ⟨h.gs.keeps (Keeps.row (X := fun k => k = g) (grown_setCell wr g p _) rfl) (fun k hk e => h.gs.ne hg (by decide) (e ▸ hk)), h.cb.set g p x, h.k.trans (Keeps.row (grown_setCell wr g p _) hS)⟩
theorem WI.drew {wS wr : World} {la : Option Addr} {m lcap : Nat} {vs : List Value} {ns : List Nat} (h : WI wS la m lcap vs ns wr) : WI wS la m lcap vs ns wr.drew := ⟨h.gs, h.cb, h.k.trans Keeps.drewk⟩
end Go.Proofs.Ytnglbneefkdfgaa
