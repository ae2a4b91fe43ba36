import Derived.Test.YtnglbneefkdfgaaF
set_option linter.unusedVariables false
namespace Go.Proofs.Ytnglbneefkdfgaa
open Go.RowKit
theorem Try.size40 : (Try.prog.info? 40).map (·.size) = some 3 := by kernel_rfl
theorem two_new (w : World) (a b : Obj) : w.grownBy ((w.alloc a).alloc b) none ∧ ((w.alloc a).alloc b).heap[w.heap.size]? = some a ∧ ((w.alloc a).alloc b).heap[w.heap.size + 1]? = some b := by
  refine ⟨(World.grownBy_alloc w a none).trans (World.grownBy_alloc _ b none), (heap_alloc_old (w.alloc a) b (by simp)).trans (heap_alloc_new w a), ?_⟩
  have := heap_alloc_new (w.alloc a) b
  rwa [World.size_alloc] at this
theorem hold_ld {P : Program} {ops : Array Oper} {rest : List Oper} {op : Oper} {a : Act} {w : World} {Q : Exit → Act → World → Prop} (ty : TypeId) (x : Operand) (_ : op.op = .load ty x) (h : Hid (wpList P ops Q (op :: rest) a w)) : wpList P ops Q (op :: rest) a w := h.out
theorem hold_st {P : Program} {ops : Array Oper} {rest : List Oper} {op : Oper} {a : Act} {w : World} {Q : Exit → Act → World → Prop} (ty : TypeId) (x y : Operand) (_ : op.op = .store ty x y) (h : Hid (wpList P ops Q (op :: rest) a w)) : wpList P ops Q (op :: rest) a w := h.out
theorem results_c40t {fn : Func} {p t : Tmp} (h : fn.results = #[.cell p 40, .tmp t]) (tmps : Array Value) (w : World) (g : Nat) (cs : Array Value) (hs : cs.size = 3)
    (hp : tmps.getD p undef = .pointer (some ⟨g, 0, none⟩)) (hg : w.heap[g]? = some (.cells cs 40 (0, 0))) : (results fn tmps).run Try.prog w = .ok (.tuple #[.agg cs, tmps.getD t undef]) w := by
  have hp' : tmps[p]?.getD undef = .pointer (some ⟨g, 0, none⟩) := by simpa using hp
  have hl := run_loadVar_row (P := Try.prog) w g 40 40 cs (0, 0) _ hg Try.underlying40 rfl (by rw [hs]; exact Try.size40)
  simp [results, h, hp', asAddr, hl]
theorem results_c40tt {fn : Func} {p t u : Tmp} (h : fn.results = #[.cell p 40, .tmp t, .tmp u]) (tmps : Array Value) (w : World) (g : Nat) (cs : Array Value) (hs : cs.size = 3)
    (hp : tmps.getD p undef = .pointer (some ⟨g, 0, none⟩)) (hg : w.heap[g]? = some (.cells cs 40 (0, 0))) : (results fn tmps).run Try.prog w = .ok (.tuple #[.agg cs, tmps.getD t undef, tmps.getD u undef]) w := by
  have hp' : tmps[p]?.getD undef = .pointer (some ⟨g, 0, none⟩) := by simpa using hp
  have hl := run_loadVar_row (P := Try.prog) w g 40 40 cs (0, 0) _ hg Try.underlying40 rfl (by rw [hs]; exact Try.size40)
  simp [results, h, hp', asAddr, hl]
set_option maxHeartbeats 4000000 in
theorem ref_queue (M : Nat → Prop) (r : Rf) (g : Nh) (w : World) (h : RS M w r g) : Calls Try.prog 35 #[r.val] w fun e w' => ∃ v vs, e = .returned v ∧ Gs eL w' v (g.came.length - g.taken) vs ∧ BL M w' vs (g.came.drop g.taken) ∧ w.grownBy w' none := by
  obtain ⟨vs, hp, hb⟩ := h.p
  have hcn := h.cn
  have htk := h.tk
  have htl := h.tkl
  obtain ⟨ca, cn, cc, tk, sa, sn, sc⟩ := r
  simp only at hcn htk hp
  subst hcn htk
  obtain ⟨hf1, hf2⟩ := hp.from g.taken htl
  obtain ⟨nv, hnv⟩ : ∃ nv, nv = sliced ca g.taken g.came.length cc eL.sz := ⟨_, rfl⟩
  rw [← hnv] at hf1 hf2
  have HNV := Lib.hid hnv
  have HF := Lib.hid hf1
  have HB := Lib.hid hb
  clear h hp hb hf1 hf2 hnv
  go_enter Try.func35, Try.ntmps35
  go_wp2_with (with_reducible refine hold_sl 34 _ _ _ _ rfl ?_)
  apply Lib.hid
  refine wpList_val (by rfl) (exec_sl eL elemL (x := .tmp 4) (y := .tmp 6) rfl ca g.came.length cc g.taken (by rfl) (by rfl) htl _ nv HNV.out) ?_
  go_wp2
  go_ret
  have hg := World.grownBy_alloc w (.cells #[.slice ca g.came.length cc, .int .i64 (g.taken : Nat), .slice sa sn sc] 40) none
  refine ⟨nv, _, rfl, HF.out.keptNone hg, ?_, hg⟩
  have := (HB.out.drop g.taken).keeps (X := fun _ => False) (Keeps.keep hg) (fun _ _ h => h.elim)
  simpa [eL] using this
set_option maxHeartbeats 4000000 in
theorem ref_take_none (M : Nat → Prop) (r : Rf) (g : Nh) (w : World) (h : RS M w r g) (hk : g.taken = g.came.length) : Calls Try.prog 22 #[r.val] w fun e w' => e = .returned (.tuple #[r.val, .bool false]) ∧ w.grownBy w' none := by
  have hcn := h.cn
  have htk := h.tk
  obtain ⟨ca, cn, cc, tk, sa, sn, sc⟩ := r
  simp only at hcn htk
  subst hcn htk
  rw [hk]
  obtain ⟨hg, h1, h2⟩ := two_new w (.cells #[.slice ca g.came.length cc, .int .i64 (g.came.length : Nat), .slice sa sn sc] 40) (.cells Rf.zero.cells 40)
  have HX := Lib.hid (show _ from h1)
  have HR := Lib.hid h2
  have HG := Lib.hid hg
  clear hg h1 h2
  clear h hk
  go_enter Try.func22, Try.ntmps22
  go_wp2_with (with_reducible refine hold_ld 40 _ rfl ?_)
  apply Lib.hid
  with_reducible refine wpList_load_blk rfl 40 _ rfl _ ?o1 ?hx1 _ _ _ HX.out _ 3 ?hn1 Try.underlying40 rfl Try.size40 ?_
  case hx1 => exact rfl
  case hn1 => exact rfl
  go_wp2_with (with_reducible refine hold_st 40 _ _ rfl ?_)
  apply Lib.hid
  with_reducible refine wpList_store_all rfl 40 _ _ rfl _ ?cs2 ?hx2 ?hy2 _ _ HR.out ?hf2 _ ?hl2 Try.size40 ?h12 ?_
  case hy2 => exact rfl
  case hx2 => exact rfl
  case hf2 => exact rfl
  case hl2 => exact rfl
  case h12 => simp [allOne, Value.oneCell']
  intro w2 hb2 hg2
  have HR2 := Lib.hid hb2
  have HG2 := Lib.hid (grown_new HG.out hg2 (by simp))
  clear hb2 hg2
  go_wp2
  refine bodyPost_ret (results_c40t rfl _ _ _ _ (by rfl) (by rfl) HR2.out) (by rfl) ?_
  exact ⟨rfl, HG2.out⟩
set_option maxHeartbeats 4000000 in
theorem ref_take_one (M : Nat → Prop) (r : Rf) (g : Nh) (w : World) (h : RS M w r g) (hk : g.taken < g.came.length) (hl : g.came.length ≤ 1000000) : Calls Try.prog 22 #[r.val] w fun e w' => e = .returned (.tuple #[Rf.val { r with taken := ((g.taken + 1 : Nat) : Int) }, .bool true]) ∧ w.grownBy w' none := by
  have hcn := h.cn
  have htk := h.tk
  obtain ⟨ca, cn, cc, tk, sa, sn, sc⟩ := r
  simp only at hcn htk
  subst hcn htk
  have hne : ((g.taken : Int) == (g.came.length : Nat)) = false := by simp; omega
  have hw : IntKind.i64.wrap ((g.taken : Int) + 1) = ((g.taken + 1 : Nat) : Int) := by rw [IntKind.wrap_i64]; omega
  obtain ⟨hg, h1, h2⟩ := two_new w (.cells #[.slice ca g.came.length cc, .int .i64 ((g.taken : Nat) + 1), .slice sa sn sc] 40) (.cells Rf.zero.cells 40)
  have HX := Lib.hid (show _ from h1)
  have HR := Lib.hid h2
  have HG := Lib.hid hg
  clear hg h1 h2
  clear h hk hl
  go_enter Try.func22, Try.ntmps22
  go_wp2_with (with_reducible refine hold_ld 40 _ rfl ?_)
  apply Lib.hid
  with_reducible refine wpList_load_blk rfl 40 _ rfl _ ?o3 ?hx3 _ _ _ HX.out _ 3 ?hn3 Try.underlying40 rfl Try.size40 ?_
  case hx3 => exact rfl
  case hn3 => exact rfl
  go_wp2_with (with_reducible refine hold_st 40 _ _ rfl ?_)
  apply Lib.hid
  with_reducible refine wpList_store_all rfl 40 _ _ rfl _ ?cs4 ?hx4 ?hy4 _ _ HR.out ?hf4 _ ?hl4 Try.size40 ?h14 ?_
  case hy4 => exact rfl
  case hx4 => exact rfl
  case hf4 => exact rfl
  case hl4 => exact rfl
  case h14 => simp [allOne, Value.oneCell']
  intro w2 hb2 hg2
  have HR2 := Lib.hid hb2
  have HG2 := Lib.hid (grown_new HG.out hg2 (by simp))
  clear hb2 hg2
  go_wp2
  refine bodyPost_ret (results_c40t rfl _ _ _ _ (by rfl) (by rfl) HR2.out) (by rfl) ?_
  exact ⟨rfl, HG2.out⟩
end Go.Proofs.Ytnglbneefkdfgaa
