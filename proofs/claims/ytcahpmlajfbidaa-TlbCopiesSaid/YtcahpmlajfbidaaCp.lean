import Derived.Test.YtcahpmlajfbidaaCl
import Derived.Test.YtcahpmlajfbidaaLa
namespace Go.Proofs.Ytcahpmlajfbidaa
open Go.RowKit Go.Shelf
attribute [local go_sem] Oper.semAt_some
theorem once_split {G : Fence} {m : Nat} {P : Program} {g : Operand} {ps : Array Tmp} {assign body : Code} {id : Nat} {Q2 : Exit → Act → World → Prop} {a : Act} {w : World} (J : World → Prop)
    (hrest : ∀ D W, w.heap.size ≤ D → J W → W.heap[D]? = some (.deferred (some [])) → Q2 .normal { a with defers := { target := .collected D, args := #[] } :: a.defers } W)
    (hmain : (∀ D W, w.heap.size ≤ D → J W → W.heap[D]? = some (.deferred (some [])) → Q2 .normal { a with defers := { target := .collected D, args := #[] } :: a.defers } W) → (Code.rangeFunc g ps assign body).wpIn G m P (Exit.inBlock id Q2) a w) :
    (Code.rangeFunc g ps assign body).wpIn G m P (Exit.inBlock id Q2) a w := hmain hrest
theorem own_grown {β : Type} (V : World) (B : Nat) (hB : V.heap.size ≤ B) : OwnFrom B (fun (_ : β) W => V.grownBy W none) := fun s A B' row hs hg hr => by
  cases row with
  | none => exact hs.trans hg
  | some r => exact grown_new2 hs hg (Nat.le_trans hB (hr r rfl).1)
theorem no_item (x : Tl.no.Item) : False := by
  obtain ⟨⟨i, e⟩, hm, ht⟩ := x
  simp only [Tl.four, List.mem_cons, List.not_mem_nil, or_false, Prod.mk.injEq] at hm
  rcases hm with ⟨rfl, rfl⟩ | ⟨rfl, rfl⟩ | ⟨rfl, rfl⟩ | ⟨rfl, rfl⟩ <;> cases ht
theorem leave3 {fn : Func} {tmps : Array Value} {n D1 D2 D3 r : Nat} {w Z : World} {v : Value} (h1 : Z.heap[D1]? = some (.deferred (some []))) (h2 : Z.heap[D2]? = some (.deferred (some []))) (h3 : Z.heap[D3]? = some (.deferred (some []))) (n12 : D1 ≠ D2) (n13 : D1 ≠ D3) (n23 : D2 ≠ D3)
    (g1 : w.heap.size ≤ D1) (g2 : w.heap.size ≤ D2) (g3 : w.heap.size ≤ D3) (hr : Z.cell? ⟨r, 0, none⟩ = some v) (hb : Below w.heap.size w Z) (hres : ∀ W : World, W.cell? ⟨r, 0, none⟩ = some v → (results fn tmps).run Try.prog W = .ok v W) :
    LeavesInM Fence.wide n Try.prog fn tmps (fun e w' => e = .returned v ∧ Below w.heap.size w w') [{ target := .collected D3, args := #[] }, { target := .collected D2, args := #[] }, { target := .collected D1, args := #[] }] .returning Z := by
  have k3 := grownBy_putObj' Z D3 (.deferred none)
  have e2 := (k3.block D2 (lt_of_block h2) (by simpa using n23)).trans h2
  have e1 := (k3.block D1 (lt_of_block h1) (by simpa using n13)).trans h1
  have c3 := cell_kept hr k3 (fun r e => by cases e; exact ⟨_, h3, rfl⟩)
  have b3 := hb.trans (belowK_b (w := w) (Nat.le_refl _) Z D3 _ (.deferred none) g3 h3 rfl rfl)
  have k2 := grownBy_putObj' (Z.putObj D3 (.deferred none)) D2 (.deferred none)
  have f1 := (k2.block D1 (lt_of_block e1) (by simpa using n12)).trans e1
  have c2 := cell_kept c3 k2 (fun r e => by cases e; exact ⟨_, e2, rfl⟩)
  have b2 := b3.trans (belowK_b (w := w) (Nat.le_refl _) _ D2 _ (.deferred none) g2 e2 rfl rfl)
  have k1 := grownBy_putObj' ((Z.putObj D3 (.deferred none)).putObj D2 (.deferred none)) D1 (.deferred none)
  have c1 := cell_kept c2 k1 (fun r e => by cases e; exact ⟨_, f1, rfl⟩)
  have b1 := b2.trans (belowK_b (w := w) (Nat.le_refl _) _ D1 _ (.deferred none) g1 f1 rfl rfl)
  refine ⟨by simp, .inl ⟨_, _, rfl, run_takeDeferred h3, ?_⟩⟩
  refine ⟨by simp, .inl ⟨_, _, rfl, run_takeDeferred e2, ?_⟩⟩
  refine ⟨by simp, .inl ⟨_, _, rfl, run_takeDeferred f1, ?_⟩⟩
  exact ⟨v, hres _ c1, rfl, b1⟩
theorem wpListIn_val {G : Fence} {m : Nat} {P : Program} {ops : Array Oper} {rest : List Oper} {op : Oper} {a : Act} {w : World} {v : Value} {Q : Exit → Act → World → Prop} (hp : plainOp op.op = true) (hw : Region.wanted op (yielded ops a.tmps) = true)
    (h : (execOp a.eval op).run P w = .ok (.value v) w) (k : wpListIn G m P ops Q rest (a.put op.dst v) w) : wpListIn G m P ops Q (op :: rest) a w := by
  unfold wpListIn
  simp only [hw, if_true]
  refine ⟨fun f hf => (by rw [plain_about hp] at hf; cases hf), ?_⟩
  rw [plain_sem hp, h]
  exact k
/-- The blocks that stay: the result, what was wanted, what is wanted next, the two TLBs. -/
structure Bag (R X Y B C : Nat) (T U : Tl) (W : World) : Prop where
  res : W.heap[R]? = some (.cells #[.bool false] 4 (0, 0))
  want : W.heap[X]? = some (.cells T.cells 30 (0, 0))
  next : W.heap[Y]? = some (.cells U.cells 30 (0, 0))
  tb : Tb W B U
  tc : Tb W C T
theorem Bag.own {R X Y B C : Nat} {T U : Tl} {W V : World} {row : Option Nat} (h : Bag R X Y B C T U W) (hg : W.grownBy V row) (hr : ∀ r, row = some r → ∃ o : Obj, W.heap[r]? = some o ∧ o.isCells = false) : Bag R X Y B C T U V :=
  ⟨block_kept h.res hg hr, block_kept h.want hg hr, block_kept h.next hg hr, block_kept h.tb.blk hg hr, block_kept h.tc.blk hg hr⟩
theorem Bag.keptNone {R X Y B C : Nat} {T U : Tl} {W V : World} (h : Bag R X Y B C T U W) (hg : W.grownBy V none) : Bag R X Y B C T U V := h.own hg (fun r e => by cases e)
theorem Bag.kept {R X Y B C : Nat} {T U : Tl} {W V : World} {g : Nat} (h : Bag R X Y B C T U W) (hg : W.grownBy V (some g)) (h1 : R ≠ g) (h2 : X ≠ g) (h3 : Y ≠ g) (h4 : B ≠ g) (h5 : C ≠ g) : Bag R X Y B C T U V :=
  ⟨(hg.block _ (lt_of_block h.res) (by simpa using h1)).trans h.res, (hg.block _ (lt_of_block h.want) (by simpa using h2)).trans h.want, (hg.block _ (lt_of_block h.next) (by simpa using h3)).trans h.next, h.tb.kept hg (by simpa using h4), h.tc.kept hg (by simpa using h5)⟩
theorem Bag.drew {R X Y B C : Nat} {T U : Tl} {W : World} (h : Bag R X Y B C T U W) : Bag R X Y B C T U W.drew := ⟨h.1, h.2, h.3, h.4, h.5⟩
set_option linter.unusedVariables false
set_option maxRecDepth 100000 in
set_option maxHeartbeats 32000000 in
theorem tlbCopies_in (a : Option Addr) (n cap : Nat) (l : Nat → Ac) (x : Ac) (w : World) (hs : SrcX w a n l) (hm : n ≤ 9223372036854775807) (h60 : ¬ (60 : Int) < n) :
    CallsIn Fence.wide 3 Try.prog 8 #[.slice a n cap, .agg #[.int .i64 x.what, .int .u32 x.page, .int .u32 x.frame, .bool x.wr, .bool x.th]] w fun e w' => e = .returned (.bool true) ∧ Below w.heap.size w w' := by
  have h1 : 1 ≤ 3 := by omega
  have h2n := two_new w (.cells #[.int .i64 x.what, .int .u32 x.page, .int .u32 x.frame, .bool x.wr, .bool x.th] 40) (.cells #[.bool false] 4)
  have hB0 : Below w.heap.size w ((w.alloc (.cells #[.int .i64 x.what, .int .u32 x.page, .int .u32 x.frame, .bool x.wr, .bool x.th] 40)).alloc (.cells #[.bool false] 4)) := ((Below.refl _ w).alloc (Nat.le_refl _) _).alloc (by simp) _
  have hs0 := hs.keptNone h2n.1
  have HP := Lib.hid h2n.2.1
  have HR := Lib.hid h2n.2.2
  have HB := Lib.hid hB0
  have HS := Lib.hid hs0
  clear h2n hB0 hs0 hs
  refine callsIn_of_wp_marks Try.func8 rfl trivial ?_ rfl
  simp only [Try.ntmps8, List.size_toArray, List.length_cons, List.length_nil, Nat.reduceAdd, Nat.reduceSub, Array.replicate_succ, Array.replicate_zero, List.push_toArray, List.append_toArray, List.nil_append, List.cons_append]
  refine wpIn_wide.2 ?_
  go_wp2_with fail
  refine (played_any a n cap l _ HS.out hm).mono ?_; rintro e w1 ⟨B, rfl, hB, hTb, hg1⟩
  have hgood := good_run l n
  have hclean := clean_run l n
  generalize Tl.run l n = T at *
  have hBlt := hTb.lt
  simp only [World.size_alloc] at hB
  have HP1 := Lib.hid ((hg1.block _ (lt_of_block HP.out) (by simp)).trans HP.out)
  have HR1 := Lib.hid ((hg1.block _ (lt_of_block HR.out) (by simp)).trans HR.out)
  have HB1 := Lib.hid (HB.out.grown hg1 HB.out.size (fun k e => by cases e))
  have hRlt : w.heap.size + 1 < w1.heap.size := lt_of_block HR1.out
  have HT1 := Lib.hid hTb
  have HN := Lib.hid (heap_alloc_new w1 (.cells zeros 30))
  have hA := World.grownBy_alloc w1 (.cells zeros 30) none
  have HA := Lib.hid hA
  clear hTb hg1 HP HR HB HS hA
  go_wp2_with (with_reducible refine hold_st 30 _ _ rfl ?_)
  apply Lib.hid
  with_reducible refine wpList_store_all rfl 30 _ _ rfl _ ?cs2501 ?hx2501 ?hy2501 _ _ HN.out ?hf2501 _ ?hl2501 Try.size30 ?h12501 ?_
  case hy2501 => exact rfl
  case hx2501 => exact rfl
  case hf2501 => exact rfl
  case hl2501 => exact rfl
  case h12501 => simp [allOne, Value.oneCell']
  intro w2 hb2 hg2
  have hg2' := grown_new HA.out hg2 (Nat.le_refl _)
  have HX2 := Lib.hid (show w2.heap[w1.heap.size]? = some (.cells T.cells 30 (0, 0)) from hb2)
  have HT2 := Lib.hid (HT1.out.keptNone hg2')
  have HP2 := Lib.hid ((hg2'.block _ (lt_of_block HP1.out) (by simp)).trans HP1.out)
  have HR2 := Lib.hid ((hg2'.block _ (lt_of_block HR1.out) (by simp)).trans HR1.out)
  have HB2 := Lib.hid (HB1.out.grown hg2' HB1.out.size (fun k e => by cases e))
  have hXlt : w1.heap.size < w2.heap.size := lt_of_block hb2
  clear hb2 hg2 hg2' HT1 HP1 HR1 HB1 HN HA
  go_wp2_with fail
  refine (copy_tb B T _ HT2.out).mono ?_; rintro e w3 ⟨C, rfl, hC, hTc, hg3⟩
  have HX3 := Lib.hid ((hg3.block _ (lt_of_block HX2.out) (by simp)).trans HX2.out)
  have HT3 := Lib.hid (HT2.out.keptNone hg3)
  have HP3 := Lib.hid ((hg3.block _ (lt_of_block HP2.out) (by simp)).trans HP2.out)
  have HR3 := Lib.hid ((hg3.block _ (lt_of_block HR2.out) (by simp)).trans HR2.out)
  have HB3 := Lib.hid (HB2.out.grown hg3 HB2.out.size (fun k e => by cases e))
  have hClt := hTc.lt
  have HC3 := Lib.hid hTc
  clear hTc hg3 HX2 HT2 HP2 HR2 HB2
  go_wp2_with fail
  refine (walked_any _ T _ (.inr ⟨B, rfl, HT3.out⟩)).mono ?_; rintro e w4 ⟨g, rfl, hgl, hgb, hg4⟩
  have HX4 := Lib.hid ((hg4.block _ (lt_of_block HX3.out) (by simp)).trans HX3.out)
  have HT4 := Lib.hid (HT3.out.keptNone hg4)
  have HC4 := Lib.hid (HC3.out.keptNone hg4)
  have HP4 := Lib.hid ((hg4.block _ (lt_of_block HP3.out) (by simp)).trans HP3.out)
  have HR4 := Lib.hid ((hg4.block _ (lt_of_block HR3.out) (by simp)).trans HR3.out)
  have HB4 := Lib.hid (HB3.out.grown hg4 HB3.out.size (fun k e => by cases e))
  have HS4 := Lib.hid hgb
  clear hgb hg4 HX3 HT3 HC3 HP3 HR3 HB3
  have hSame := same_tb B C T T w4 HT4.out HC4.out
  rw [decide_eq_true rfl] at hSame
  go_wp2_with fail
  refine (hSame).mono ?_; rintro e w5 ⟨rfl, hg5⟩
  have HX5 := Lib.hid ((hg5.block _ (lt_of_block HX4.out) (by simp)).trans HX4.out)
  have HT5 := Lib.hid (HT4.out.keptNone hg5)
  have HC5 := Lib.hid (HC4.out.keptNone hg5)
  have HP5 := Lib.hid ((hg5.block _ (lt_of_block HP4.out) (by simp)).trans HP4.out)
  have HR5 := Lib.hid ((hg5.block _ (lt_of_block HR4.out) (by simp)).trans HR4.out)
  have HB5 := Lib.hid (HB4.out.grown hg5 HB4.out.size (fun k e => by cases e))
  have HS5 := Lib.hid ((hg5.block _ (lt_of_block HS4.out) (by simp)).trans HS4.out)
  clear hg5 HX4 HT4 HC4 HP4 HR4 HB4 HS4 hSame
  go_wp2_with (with_reducible refine hold_ld 30 _ rfl ?_)
  apply Lib.hid
  refine wpList_val (by rfl) (exec_ld30 (x := .tmp 6) (T := T) rfl rfl HX5.out) ?_
  go_wp2_with (with_reducible refine hold_ld 40 _ rfl ?_)
  apply Lib.hid
  refine wpList_val (by rfl) (exec_ld (x := .tmp 3) 40 (by rfl) w.heap.size 0 (by rfl) _ 40 (0, 0) HP5.out _ 5 (by rfl) Try.underlying40 (by rfl) Try.size40) ?_
  go_wp2_with fail
  refine (act_any B T x.what x.page x.frame x.wr x.th _ HT5.out hgood).mono ?_; rintro e w6 ⟨rfl, hT6, hg6⟩
  have hcleanU := clean_act hclean x.what x.page x.frame x.wr
  generalize T.act x.what x.page x.frame x.wr = U at *
  have HX6 := Lib.hid ((hg6.block _ (lt_of_block HX5.out) (by simp; omega)).trans HX5.out)
  have HT6 := Lib.hid hT6
  have HC6 := Lib.hid (HC5.out.kept hg6 (by simp; omega))
  have HR6 := Lib.hid ((hg6.block _ (lt_of_block HR5.out) (by simp; omega)).trans HR5.out)
  have HB6 := Lib.hid (HB5.out.grown hg6 HB5.out.size (fun k e => by cases e; omega))
  have HS6 := Lib.hid ((hg6.block _ (lt_of_block HS5.out) (by simp; omega)).trans HS5.out)
  have hCl6 : C < w6.heap.size := HC6.out.lt
  have hSl6 : g < w6.heap.size := lt_of_block HS6.out
  have hXl6 : w1.heap.size < w6.heap.size := lt_of_block HX6.out
  have hwl6 : w.heap.size ≤ w6.heap.size := HB6.out.size
  clear hT6 hg6 HX5 HT5 HC5 HP5 HR5 HB5 HS5
  have HN6 := Lib.hid (heap_alloc_new w6 (.cells zeros 30))
  have HA6 := Lib.hid (World.grownBy_alloc w6 (.cells zeros 30) none)
  go_wp2_with (with_reducible refine hold_st 30 _ _ rfl ?_)
  apply Lib.hid
  with_reducible refine wpList_store_all rfl 30 _ _ rfl _ ?cs2502 ?hx2502 ?hy2502 _ _ HN6.out ?hf2502 _ ?hl2502 Try.size30 ?h12502 ?_
  case hy2502 => exact rfl
  case hx2502 => exact rfl
  case hf2502 => exact rfl
  case hl2502 => exact rfl
  case h12502 => simp [allOne, Value.oneCell']
  intro w7 hb7 hg7
  have hg7' := grown_new HA6.out hg7 (Nat.le_refl _)
  have HG7 := Lib.hid (show Bag (w.heap.size + 1) w1.heap.size w6.heap.size B C T U w7 from
    ⟨(hg7'.block _ (lt_of_block HR6.out) (by simp)).trans HR6.out, (hg7'.block _ (lt_of_block HX6.out) (by simp)).trans HX6.out, hb7, HT6.out.keptNone hg7', HC6.out.keptNone hg7'⟩)
  have HB7 := Lib.hid (HB6.out.grown hg7' HB6.out.size (fun k e => by cases e))
  have HS7 := Lib.hid ((hg7'.block _ (lt_of_block HS6.out) (by simp)).trans HS6.out)
  have hYl7 : w6.heap.size < w7.heap.size := lt_of_block hb7
  clear hb7 hg7 hg7' HX6 HT6 HC6 HR6 HB6 HS6 HN6 HA6
  have HA7 := Lib.hid (World.grownBy_alloc w7 (.cells Tl.no.cells16 28) none)
  have HN7 := Lib.hid (heap_alloc_new w7 (.cells Tl.no.cells16 28))
  have HG8 := HG7.out.keptNone HA7.out
  have HB8 := HB7.out.grown HA7.out HB7.out.size (fun k e => by cases e)
  have hb8 := (HA7.out.block _ (lt_of_block HS7.out) (by simp)).trans HS7.out
  have hsz8 := HB8.size
  go_wp2
  refine (wpIn_wide (n := 3)).1 ?_
  refine wpIn_rangeFunc_ownH rfl h1 (gf := 30) (lb := #[.pointer (some ⟨g, 0, none⟩)]) rfl trivial (enters_of Try.func30 (by kernel_rfl) rfl)
    (walked_items Fence.wide (3 - 1) trivial rfl (by omega) g w.heap.size T _ hb8) belowK_t (belowK_b (by simp; omega)) (Below.refl _ _) (fun _ => rfl)
    (fun pre W => (Bag (w.heap.size + 1) w1.heap.size w6.heap.size B C T U W ∧ W.heap[w7.heap.size]? = some (.cells (hadOf pre).cells16 28 (0, 0)) ∧ W.heap[g]? = some (.cells T.cells 62 (0, 0))) ∧ Below w.heap.size w W)
    (fun c pre W => False ∧ Below w.heap.size w W)
    (OwnFrom.and (Own.from (fun s A' B' row hs hg hr => by exact ⟨hs.1.own hg hr, block_kept hs.2.1 hg hr, block_kept hs.2.2 hg hr⟩) _) (ownFrom_below (Nat.le_refl _) (by simp; omega)))
    (fun c => OwnFrom.and (Own.from (fun s A' B' row hs hg hr => by exact hs) _) (ownFrom_below (Nat.le_refl _) (by simp; omega)))
    ⟨⟨HG8, HN7.out, hb8⟩, HB8⟩
    (fun y a' W => ∃ Bx, W.heap[Bx]? = some (.cells #[.bool y.1.2.th, .int .u32 y.1.2.page, .int .u32 y.1.2.frame, .bool y.1.2.wr] 27 (0, 0)) ∧ a' = { tmps := #[.slice a n cap, .agg #[.int .i64 x.what, .int .u32 x.page, .int .u32 x.frame, .bool x.wr, .bool x.th], undef, .pointer (some ⟨w.heap.size, 0, none⟩), .pointer (some ⟨w.heap.size + 1, 0, none⟩), .pointer (some ⟨B, 0, none⟩), .pointer (some ⟨w1.heap.size, 0, none⟩), .bool true, .pointer (some ⟨C, 0, none⟩), .func (.func 30) #[] #[.pointer (some ⟨g, 0, none⟩)], .pointer (some ⟨w6.heap.size, 0, none⟩), .bool true, .pointer (some ⟨w7.heap.size, 0, none⟩), .int .i64 (y.1.1 : Int), .pointer (some ⟨Bx, 0, none⟩), undef, undef, undef, undef, undef, undef, .slice a n cap, .int .i64 (n : Nat), .bool false, undef, .tuple #[.pointer (some ⟨B, 0, none⟩), T.val, .bool true], .slice a n cap, .tuple #[.pointer (some ⟨B, 0, none⟩), T.val, .bool true], .pointer (some ⟨B, 0, none⟩), T.val, .bool true, .pointer (some ⟨B, 0, none⟩), .pointer (some ⟨C, 0, none⟩), .pointer (some ⟨B, 0, none⟩), .func (.func 30) #[] #[.pointer (some ⟨g, 0, none⟩)], .bool true, .bool false, .bool false, .pointer (some ⟨B, 0, none⟩), .pointer (some ⟨C, 0, none⟩), .bool true, .bool false, .bool false, .tuple #[U.val, .bool true], .pointer (some ⟨B, 0, none⟩), T.val, .agg #[.int .i64 x.what, .int .u32 x.page, .int .u32 x.frame, .bool x.wr, .bool x.th], .tuple #[U.val, .bool true], U.val, .bool true, .func (.func 30) #[] #[.pointer (some ⟨g, 0, none⟩)], .int .i64 (y.1.1 : Int), y.1.2.val, undef, undef, undef, undef, undef, undef, undef, undef, undef, undef, undef, undef, undef, undef, undef, undef, undef, undef, undef, undef, undef, undef, undef, undef, undef, undef, undef, undef, undef, undef, undef, undef, undef, undef, undef, undef, undef, undef, undef, undef, undef, undef, undef, undef, undef, undef, undef, undef, undef, undef, undef, undef, undef, undef, undef, undef, undef, undef, undef, undef, undef, undef, undef, undef, undef, undef, undef, undef, undef, undef, undef, undef, undef, undef, undef, undef, undef, undef, undef, undef, undef, undef, undef, undef, undef, undef, undef, undef, undef, undef, undef, undef, undef, undef, undef, undef, undef, undef, undef, undef, undef, undef, undef, undef, undef, undef, undef, undef, undef, undef, undef, undef, undef, undef, undef, undef, undef, undef, undef, undef, undef, undef, undef, undef, undef, undef, undef, undef], defers := [] })
    (fun y a' => Own.from (fun s A' B' row hs hg hr => by obtain ⟨Bx, h1, h2⟩ := hs; exact ⟨Bx, block_kept h1 hg hr, h2⟩) _)
    ?assign ?body ?done ?stop
  case assign =>
    rintro l' pre y W K ⟨hF, hB'⟩ hK
    have HN := Lib.hid (heap_alloc_new W (.cells zero4 27))
    have HF := Lib.hid hF
    have HK := Lib.hid hK
    clear hK hF
    gi_wp2_with (with_reducible refine hold_sti 27 _ _ rfl ?_)
    apply Lib.hid
    with_reducible refine wpListIn_store_all rfl 27 _ _ rfl _ ?cs601 ?hx601 ?hy601 _ _ HN.out ?hf601 _ ?hl601 Try.size27 ?h1601 ?_
    case hy601 => exact rfl
    case hx601 => exact rfl
    case hf601 => exact rfl
    case hl601 => exact rfl
    case h1601 => simp [allOne, Value.oneCell']
    intro w3 hb3 hg3
    have hg3' : W.grownBy w3 none := grown_new (World.grownBy_alloc _ _ _) hg3 (Nat.le_refl _)
    clear hg3 HN
    gi_wp2
    exact HK.out _ _ (KeepsFrom.of_grownBy hg3' (fun j e => by cases e)) ((Below.refl _ W).grown hg3' hB'.size (fun k e => by cases e)) ⟨⟨HF.out.1.keptNone hg3', (hg3'.block _ (lt_of_block HF.out.2.1) (by simp)).trans HF.out.2.1, (hg3'.block _ (lt_of_block HF.out.2.2) (by simp)).trans HF.out.2.2⟩, hB'.grown hg3' hB'.size (fun k e => by cases e)⟩ ⟨W.heap.size, hb3, rfl⟩
  case body =>
    rintro l' pre y a' V hl ⟨r, hr⟩ ⟨⟨hG, hH, hgV⟩, hBl⟩ ⟨Bx, hcx, rfl⟩ hlt
    have HgV := Lib.hid hgV
    clear hgV
    have HG := Lib.hid hG
    have HH := Lib.hid hH
    clear hG hH hr
    obtain ⟨⟨i, e⟩, hm', ht⟩ := y
    simp only [Tl.four, List.mem_cons, List.not_mem_nil, or_false, Prod.mk.injEq] at hm'
    obtain ⟨c0, c1, c2, c3⟩ := cells4 hcx
    have HSN := Lib.hid (hadOf_snoc (T := T) pre)
    generalize hadOf pre = P0 at *
    simp only at c0 c1 c2 c3
    clear hcx
    rcases hm' with ⟨rfl, rfl⟩ | ⟨rfl, rfl⟩ | ⟨rfl, rfl⟩ | ⟨rfl, rfl⟩
    · gi_wp2_with (with_reducible refine hold_sti 27 _ _ rfl ?_)
      apply Lib.hid
      with_reducible refine wpListIn_store_blk rfl 27 _ _ rfl _ ?o700 ?cs700 ?hx700 ?hy700 _ _ HH.out ?hf700 _ ?hl700 Try.size27 ?h1700 ?_
      case hy700 => exact rfl
      case hx700 => exact rfl
      case hf700 => exact rfl
      case hl700 => exact rfl
      case h1700 => simp [allOne, Value.oneCell']
      intro V2 hb2 hg2
      rw [setMany_eq _ _ _ (by simp)] at hb2
      gi_wp2
      exact ⟨KeepsFrom.of_grownBy hg2 (fun j e => by cases e; simp), (Below.refl _ V).grown hg2 hBl.size (fun k e => by cases e; omega), ⟨HG.out.kept hg2 (by omega) (by omega) (by omega) (by omega) (by omega), by rw [HSN.out]; exact hb2, (hg2.block _ (lt_of_block HgV.out) (by simp; omega)).trans HgV.out⟩, hBl.grown hg2 hBl.size (fun k e => by cases e; omega)⟩
    · gi_wp2_with (with_reducible refine hold_sti 27 _ _ rfl ?_)
      apply Lib.hid
      with_reducible refine wpListIn_store_blk rfl 27 _ _ rfl _ ?o701 ?cs701 ?hx701 ?hy701 _ _ HH.out ?hf701 _ ?hl701 Try.size27 ?h1701 ?_
      case hy701 => exact rfl
      case hx701 => exact rfl
      case hf701 => exact rfl
      case hl701 => exact rfl
      case h1701 => simp [allOne, Value.oneCell']
      intro V2 hb2 hg2
      rw [setMany_eq _ _ _ (by simp)] at hb2
      gi_wp2
      exact ⟨KeepsFrom.of_grownBy hg2 (fun j e => by cases e; simp), (Below.refl _ V).grown hg2 hBl.size (fun k e => by cases e; omega), ⟨HG.out.kept hg2 (by omega) (by omega) (by omega) (by omega) (by omega), by rw [HSN.out]; exact hb2, (hg2.block _ (lt_of_block HgV.out) (by simp; omega)).trans HgV.out⟩, hBl.grown hg2 hBl.size (fun k e => by cases e; omega)⟩
    · gi_wp2_with (with_reducible refine hold_sti 27 _ _ rfl ?_)
      apply Lib.hid
      with_reducible refine wpListIn_store_blk rfl 27 _ _ rfl _ ?o702 ?cs702 ?hx702 ?hy702 _ _ HH.out ?hf702 _ ?hl702 Try.size27 ?h1702 ?_
      case hy702 => exact rfl
      case hx702 => exact rfl
      case hf702 => exact rfl
      case hl702 => exact rfl
      case h1702 => simp [allOne, Value.oneCell']
      intro V2 hb2 hg2
      rw [setMany_eq _ _ _ (by simp)] at hb2
      gi_wp2
      exact ⟨KeepsFrom.of_grownBy hg2 (fun j e => by cases e; simp), (Below.refl _ V).grown hg2 hBl.size (fun k e => by cases e; omega), ⟨HG.out.kept hg2 (by omega) (by omega) (by omega) (by omega) (by omega), by rw [HSN.out]; exact hb2, (hg2.block _ (lt_of_block HgV.out) (by simp; omega)).trans HgV.out⟩, hBl.grown hg2 hBl.size (fun k e => by cases e; omega)⟩
    · gi_wp2_with (with_reducible refine hold_sti 27 _ _ rfl ?_)
      apply Lib.hid
      with_reducible refine wpListIn_store_blk rfl 27 _ _ rfl _ ?o703 ?cs703 ?hx703 ?hy703 _ _ HH.out ?hf703 _ ?hl703 Try.size27 ?h1703 ?_
      case hy703 => exact rfl
      case hx703 => exact rfl
      case hf703 => exact rfl
      case hl703 => exact rfl
      case h1703 => simp [allOne, Value.oneCell']
      intro V2 hb2 hg2
      rw [setMany_eq _ _ _ (by simp)] at hb2
      gi_wp2
      exact ⟨KeepsFrom.of_grownBy hg2 (fun j e => by cases e; simp), (Below.refl _ V).grown hg2 hBl.size (fun k e => by cases e; omega), ⟨HG.out.kept hg2 (by omega) (by omega) (by omega) (by omega) (by omega), by rw [HSN.out]; exact hb2, (hg2.block _ (lt_of_block HgV.out) (by simp; omega)).trans HgV.out⟩, hBl.grown hg2 hBl.size (fun k e => by cases e; omega)⟩
  case stop =>
    rintro D c pre W hD ⟨k, hk, hS⟩ ⟨hf, _⟩ hK
    exact hf.elim
  case done =>
    rintro D1 ys W9 hD1 hS ⟨⟨hG, hH, hgV⟩, hBl⟩ hK1
    have hH' : W9.heap[w7.heap.size]? = some (.cells T.cells16 28 (0, 0)) := by
      have e : hadOf ys = { T with next := 0 } := by unfold hadOf; rw [hS, had_all hclean]
      rw [e] at hH
      exact hH
    have HG9 := Lib.hid (hG.keptNone (World.grownBy_alloc W9 (.cells #[.int .i64 0] 3) none))
    have HH9 := Lib.hid (((World.grownBy_alloc W9 (.cells #[.int .i64 0] 3) none).block _ (lt_of_block hH') (by simp)).trans hH')
    have HK9 := Lib.hid (((World.grownBy_alloc W9 (.cells #[.int .i64 0] 3) none).block _ (lt_of_block hK1) (by simp)).trans hK1)
    have HB9 := Lib.hid (hBl.grown (World.grownBy_alloc W9 (.cells #[.int .i64 0] 3) none) hBl.size (fun k e => by cases e))
    have HO9 := Lib.hid (heap_alloc_new W9 (.cells #[.int .i64 0] 3))
    have hHW : w7.heap.size < W9.heap.size := lt_of_block hH'
    have hD1l : D1 < W9.heap.size := lt_of_block hK1
    have hD1w : w7.heap.size < D1 := by have := hD1; rw [World.size_alloc] at this; omega
    have hg10 := ((World.grownBy_alloc W9 (.cells #[.int .i64 0] 3) none).block _ (lt_of_block hgV) (by simp)).trans hgV
    have hB10 := HB9.out
    have hsz10 := hB10.size
    clear hG hH hH' hBl hK1 hgV HG7 HB7 HS7 HA7 HN7 HG8 HB8 hb8
    go_wp2
    refine (wpIn_wide (n := 3)).1 ?_
    refine once_split (fun V => (∃ o : Int, (o = 0 ∧ T.many = 0 ∨ o = 1 ∧ 1 ≤ T.many) ∧ Bag (w.heap.size + 1) w1.heap.size w6.heap.size B C T U V ∧ V.heap[w7.heap.size]? = some (.cells T.cells16 28 (0, 0)) ∧ V.heap[W9.heap.size]? = some (.cells #[.int .i64 o] 3 (0, 0)) ∧ V.heap[D1]? = some (.deferred (some []))) ∧ Below w.heap.size w V) ?rest ?main
    case main =>
      intro REST
      refine wpIn_rangeFunc_ownH rfl h1 (gf := 30) (lb := #[.pointer (some ⟨g, 0, none⟩)]) rfl trivial (enters_of Try.func30 (by kernel_rfl) rfl)
        (walked_items Fence.wide (3 - 1) trivial rfl (by omega) g w.heap.size T _ hg10) belowK_t (belowK_b (by simp; omega)) (Below.refl _ _) (fun _ => rfl)
        (fun pre W => (pre = [] ∧ Bag (w.heap.size + 1) w1.heap.size w6.heap.size B C T U W ∧ W.heap[w7.heap.size]? = some (.cells T.cells16 28 (0, 0)) ∧ W.heap[W9.heap.size]? = some (.cells #[.int .i64 0] 3 (0, 0)) ∧ W.heap[D1]? = some (.deferred (some []))) ∧ Below w.heap.size w W)
        (fun c pre W => (c = .exit 2 ∧ (∃ y, pre = [y]) ∧ Bag (w.heap.size + 1) w1.heap.size w6.heap.size B C T U W ∧ W.heap[w7.heap.size]? = some (.cells T.cells16 28 (0, 0)) ∧ W.heap[W9.heap.size]? = some (.cells #[.int .i64 1] 3 (0, 0)) ∧ W.heap[D1]? = some (.deferred (some []))) ∧ Below w.heap.size w W)
        (OwnFrom.and (fun s A' B' row hs hg hr => by exact ⟨hs.1, hs.2.1.own hg (fun r e => (hr r e).2), block_kept hs.2.2.1 hg (fun r e => (hr r e).2), block_kept hs.2.2.2.1 hg (fun r e => (hr r e).2), (hg.block D1 (lt_of_block hs.2.2.2.2) (fun e => by have := (hr _ e.symm).1; simp at this; omega)).trans hs.2.2.2.2⟩) (ownFrom_below (Nat.le_refl _) (by simp; omega)))
        (fun c => OwnFrom.and (fun s A' B' row hs hg hr => by exact ⟨hs.1, hs.2.1, hs.2.2.1.own hg (fun r e => (hr r e).2), block_kept hs.2.2.2.1 hg (fun r e => (hr r e).2), block_kept hs.2.2.2.2.1 hg (fun r e => (hr r e).2), (hg.block D1 (lt_of_block hs.2.2.2.2.2) (fun e => by have := (hr _ e.symm).1; simp at this; omega)).trans hs.2.2.2.2.2⟩) (ownFrom_below (Nat.le_refl _) (by simp; omega)))
        ⟨⟨rfl, HG9.out, HH9.out, HO9.out, HK9.out⟩, HB9.out⟩
        (fun y a' W => a' = { tmps := #[.slice a n cap, .agg #[.int .i64 x.what, .int .u32 x.page, .int .u32 x.frame, .bool x.wr, .bool x.th], undef, .pointer (some ⟨w.heap.size, 0, none⟩), .pointer (some ⟨w.heap.size + 1, 0, none⟩), .pointer (some ⟨B, 0, none⟩), .pointer (some ⟨w1.heap.size, 0, none⟩), .bool true, .pointer (some ⟨C, 0, none⟩), .func (.func 30) #[] #[.pointer (some ⟨g, 0, none⟩)], .pointer (some ⟨w6.heap.size, 0, none⟩), .bool true, .pointer (some ⟨w7.heap.size, 0, none⟩), undef, undef, .pointer (some ⟨W9.heap.size, 0, none⟩), undef, undef, undef, undef, undef, .slice a n cap, .int .i64 (n : Nat), .bool false, undef, .tuple #[.pointer (some ⟨B, 0, none⟩), T.val, .bool true], .slice a n cap, .tuple #[.pointer (some ⟨B, 0, none⟩), T.val, .bool true], .pointer (some ⟨B, 0, none⟩), T.val, .bool true, .pointer (some ⟨B, 0, none⟩), .pointer (some ⟨C, 0, none⟩), .pointer (some ⟨B, 0, none⟩), .func (.func 30) #[] #[.pointer (some ⟨g, 0, none⟩)], .bool true, .bool false, .bool false, .pointer (some ⟨B, 0, none⟩), .pointer (some ⟨C, 0, none⟩), .bool true, .bool false, .bool false, .tuple #[U.val, .bool true], .pointer (some ⟨B, 0, none⟩), T.val, .agg #[.int .i64 x.what, .int .u32 x.page, .int .u32 x.frame, .bool x.wr, .bool x.th], .tuple #[U.val, .bool true], U.val, .bool true, .func (.func 30) #[] #[.pointer (some ⟨g, 0, none⟩)], undef, undef, undef, undef, undef, undef, undef, undef, undef, undef, undef, .func (.func 30) #[] #[.pointer (some ⟨g, 0, none⟩)], .int .i64 (y.1.1 : Int), y.1.2.val, undef, undef, undef, undef, undef, undef, undef, undef, undef, undef, undef, undef, undef, undef, undef, undef, undef, undef, undef, undef, undef, undef, undef, undef, undef, undef, undef, undef, undef, undef, undef, undef, undef, undef, undef, undef, undef, undef, undef, undef, undef, undef, undef, undef, undef, undef, undef, undef, undef, undef, undef, undef, undef, undef, undef, undef, undef, undef, undef, undef, undef, undef, undef, undef, undef, undef, undef, undef, undef, undef, undef, undef, undef, undef, undef, undef, undef, undef, undef, undef, undef, undef, undef, undef, undef, undef, undef, undef, undef, undef, undef, undef, undef, undef, undef, undef, undef, undef, undef, undef, undef, undef, undef, undef, undef, undef, undef, undef, undef, undef, undef, undef, undef, undef, undef, undef], defers := [] })
        (fun y a' => fun s A' B' row hs hg hr => hs)
        ?assign ?body ?done ?stop
      case assign =>
        rintro l' pre y W K hI hK
        gi_wp2
        exact hK _ _ (KeepsFrom.refl _ _) (Below.refl _ _) hI rfl
      case body =>
        rintro l' pre y a' V hl ⟨r, hr⟩ ⟨⟨hpre, hG, hH, hO, hKD⟩, hBl⟩ rfl hlt
        subst hpre
        have c0 := cell_of_one hO
        have c1 := free_of_one hO
        have HG := Lib.hid hG
        have HH := Lib.hid hH
        have HO := Lib.hid hO
        have HKD := Lib.hid hKD
        clear hG hH hO hKD hr
        have hgr := grownBy_setCell' V W9.heap.size (.int .i64 1)
        have HO' := Lib.hid (one_setCell (u := .int .i64 1) HO.out)
        have HGR := Lib.hid hgr
        clear hgr
        gi_wp2
        exact ⟨KeepsFrom.of_grownBy HGR.out (fun j e => by cases e; simp), ⟨rfl, ⟨y.1.1, y.1.2, y.2, rfl⟩, HG.out.kept HGR.out (by omega) (by omega) (by omega) (by omega) (by omega), (HGR.out.block _ (lt_of_block HH.out) (by simp; omega)).trans HH.out, HO'.out, (HGR.out.block _ (lt_of_block HKD.out) (by simp; omega)).trans HKD.out⟩, hBl.grown HGR.out hBl.size (fun k e => by cases e; omega)⟩
      case done =>
        rintro D2 ys V hD2 hS ⟨⟨hpre, hG, hH, hO, hKD⟩, hBl⟩ hK2
        subst hpre
        refine REST D2 V hD2 ⟨⟨0, .inl ⟨rfl, ?_⟩, hG, hH, hO, hKD⟩, hBl⟩ hK2
        rw [← seq_many, ← hS]
        rfl
      case stop =>
        rintro D2 c pre V hD2 ⟨k, hk, hS⟩ ⟨⟨rfl, ⟨y, rfl⟩, hG, hH, hO, hKD⟩, hBl⟩ hK2
        refine wpIn_exit ?_
        refine REST D2 V hD2 ⟨⟨1, .inr ⟨rfl, ?_⟩, hG, hH, hO, hKD⟩, hBl⟩ hK2
        have h1 : (T.seq k).length = 1 := by rw [← hS]; rfl
        have h2 : (T.seq k).length ≤ (T.seq 4).length := (seq_prefix T k).length_le
        rw [← seq_many]
        omega
    case rest =>
      rintro D2 V hD2 ⟨⟨o, ho, hG, hH, hO, hKD⟩, hBl⟩ hK2
      have hD2w : W9.heap.size < D2 := by have := hD2; rw [World.size_alloc] at this; omega
      have HG := Lib.hid hG
      have HH := Lib.hid hH
      have HO := Lib.hid hO
      have HKD := Lib.hid hKD
      have HBV := Lib.hid hBl
      have HK2 := Lib.hid hK2
      have hOV : W9.heap.size < V.heap.size := lt_of_block hO
      clear hG hH hO hKD hBl hK2 HG9 HH9 HK9 HB9 HO9 hg10 hB10
      go_wp2_with fail
      refine (fill_nil _ _ _ _ _).mono ?_; rintro e v1 ⟨rfl, hv1⟩
      have HV1 := Lib.hid hv1
      clear hv1
      go_wp2_with fail
      refine (flush_nil _).mono ?_; rintro e z ⟨rfl, rfl⟩
      have hlook := look_any none .no 1 v1 (.inl ⟨rfl, rfl⟩)
      rw [show Tl.no.look 1 = .no from by decide, show Tl.no.at 1 = 0 from by decide, show Tl.no.has 1 = false from by decide] at hlook
      go_wp2_with fail
      refine hlook.mono ?_; rintro e v2 ⟨rfl, hv2⟩
      have HV2 := Lib.hid (HV1.out.trans hv2)
      have HN := Lib.hid (heap_alloc_new v2 (.cells zero4 27))
      have HA := Lib.hid (World.grownBy_alloc v2 (.cells zero4 27) none)
      clear hv2 hlook HV1
      go_wp2_with (with_reducible refine hold_st 27 _ _ rfl ?_)
      apply Lib.hid
      with_reducible refine wpList_store_all rfl 27 _ _ rfl _ ?cs2503 ?hx2503 ?hy2503 _ _ HN.out ?hf2503 _ ?hl2503 Try.size27 ?h12503 ?_
      case hy2503 => exact rfl
      case hx2503 => exact rfl
      case hf2503 => exact rfl
      case hl2503 => exact rfl
      case h12503 => simp [allOne, Value.oneCell']
      intro v3 hb3 hg3
      have hg3' := grown_new HA.out hg3 (Nat.le_refl _)
      have HV3 := HV2.out.trans hg3'
      have hV2 : V.heap.size ≤ v2.heap.size := HV2.out.size
      have HG3 := Lib.hid (HG.out.keptNone HV3)
      have HH3 := Lib.hid ((HV3.block _ (lt_of_block HH.out) (by simp)).trans HH.out)
      have HO3 := Lib.hid ((HV3.block _ (lt_of_block HO.out) (by simp)).trans HO.out)
      have HKD3 := Lib.hid ((HV3.block _ (lt_of_block HKD.out) (by simp)).trans HKD.out)
      have HK23 := Lib.hid ((HV3.block _ (lt_of_block HK2.out) (by simp)).trans HK2.out)
      have HBV3 := Lib.hid (HBV.out.grown HV3 HBV.out.size (fun k e => by cases e))
      have HZ3 := Lib.hid hb3
      have hZ3 : v2.heap.size < v3.heap.size := lt_of_block hb3
      have hD2V : D2 < V.heap.size := lt_of_block HK2.out
      clear hb3 hg3 hg3' HV3 HV2 HN HA HG HH HO HKD HBV HK2
      go_wp2_with fail
      refine (walked_any none .no _ (.inl ⟨rfl, rfl⟩)).mono ?_; rintro e v4 ⟨g2, rfl, -, hgb4, hv4⟩
      go_wp2
      refine (wpIn_wide (n := 3)).1 ?_
      have hsz4 := hv4.size
      refine wpIn_rangeFunc_ownH rfl h1 (gf := 30) (lb := #[.pointer (some ⟨g2, 0, none⟩)]) rfl trivial (enters_of Try.func30 (by kernel_rfl) rfl)
        (walked_items Fence.wide (3 - 1) trivial rfl (by omega) g2 0 .no v4 hgb4) belowK_t (belowK_b (by omega)) (Below.refl _ _) (fun _ => rfl)
        (fun _ W => v3.grownBy W none) (fun _ _ _ => False) (own_grown v3 _ hsz4) (fun c => fun s A' B' row hs hg hr => hs) hv4 (fun _ _ _ => False) (fun y a' => fun s A' B' row hs hg hr => hs)
        (fun l' pre y => (no_item y).elim) (fun l' pre y => (no_item y).elim) ?done (fun D c pre W hD hS hf hK => hf.elim)
      case done =>
        rintro D3 ys W12 hD3 hS hgr hK3
        have HG12 := Lib.hid (HG3.out.keptNone hgr).drew
        have HH12 := Lib.hid ((hgr.block _ (lt_of_block HH3.out) (by simp)).trans HH3.out)
        have HO12 := Lib.hid ((hgr.block _ (lt_of_block HO3.out) (by simp)).trans HO3.out)
        have HZ12 := Lib.hid ((hgr.block _ (lt_of_block HZ3.out) (by simp)).trans HZ3.out)
        have HKD12 := Lib.hid ((hgr.block _ (lt_of_block HKD3.out) (by simp)).trans HKD3.out)
        have HK212 := Lib.hid ((hgr.block _ (lt_of_block HK23.out) (by simp)).trans HK23.out)
        have HK312 := Lib.hid hK3
        have HB12 := Lib.hid ((HBV3.out.grown hgr HBV3.out.size (fun k e => by cases e)).trans (below_drew _ W12))
        have hTU : decide (T = U) = decide (U = T) := decide_eq_decide.2 eq_comm
        have hmin : o = min 1 T.many := by omega
        clear HG3 HH3 HO3 HZ3 HKD3 HK23 HBV3 hgr hK3
        go_wp2
        as_aux_lemma =>
        refine reg_open_n (some (w.heap.size + 1)) (m := 100) rfl (by kernel_rfl) ?_
        refine reg_take 0 (some 82) (v := ?_) rfl rfl (by kernel_rfl) (by kernel_rfl) (by kernel_rfl) (fun _ _ _ h => h) (by rfl) ?_ ?_
        rotate_left
        · intro W hW; go_simp; first | done | with_reducible rfl
        try simp only [Act.put, List.setIfInBounds_toArray, List.set_cons_zero, List.set_cons_succ]
        refine reg_take 1 (some 83) (v := ?_) rfl rfl (by kernel_rfl) (by kernel_rfl) (by kernel_rfl) (fun _ _ _ h => h) (by rfl) ?_ ?_
        rotate_left
        · intro W hW; go_simp; first | done | with_reducible rfl
        try simp only [Act.put, List.setIfInBounds_toArray, List.set_cons_zero, List.set_cons_succ]
        refine reg_take 2 (some 84) (v := ?_) rfl rfl (by kernel_rfl) (by kernel_rfl) (by kernel_rfl) (fun _ _ _ h => h) (by rfl) ?_ ?_
        rotate_left
        · intro W hW; refine exec_ld (x := .tmp 12) 28 ?_ w7.heap.size 0 ?_ _ 28 (0, 0) (((hW).block _ (lt_of_block HH12.out) (by simp; omega)).trans HH12.out) _ 16 ?_ Try.underlying28 ?_ Try.size28 <;> rfl
        try simp only [Act.put, List.setIfInBounds_toArray, List.set_cons_zero, List.set_cons_succ]
        refine reg_take 3 (some 85) (v := ?_) rfl rfl (by kernel_rfl) (by kernel_rfl) (by kernel_rfl) (fun _ _ _ h => h) (by rfl) ?_ ?_
        rotate_left
        · intro W hW; go_simp; first | done | with_reducible rfl
        try simp only [Act.put, List.setIfInBounds_toArray, List.set_cons_zero, List.set_cons_succ]
        refine reg_take 4 (some 86) (v := ?_) rfl rfl (by kernel_rfl) (by kernel_rfl) (by kernel_rfl) (fun _ _ _ h => h) (by rfl) ?_ ?_
        rotate_left
        · intro W hW; refine exec_ld (x := .tmp 85) 28 ?_ w1.heap.size 0 ?_ _ 30 (0, 0) (((hW).block _ (lt_of_block HG12.out.want) (by simp; omega)).trans HG12.out.want) _ 16 ?_ Try.underlying28 ?_ Try.size28 <;> rfl
        try simp only [Act.put, List.setIfInBounds_toArray, List.set_cons_zero, List.set_cons_succ]
        refine reg_take 5 (some 87) (v := ?_) rfl rfl (by kernel_rfl) (by kernel_rfl) (by kernel_rfl) (fun _ _ _ h => h) (by rfl) ?_ ?_
        rotate_left
        · intro W hW; refine exec_eql (x := .tmp 84) (y := .tmp 86) (t := 28) (b := true) ?_ ?_ ?_ Try.guard28 ((eq28 T T 9997 W).trans (by simp)) <;> rfl
        try simp only [Act.put, List.setIfInBounds_toArray, List.set_cons_zero, List.set_cons_succ]
        refine reg_take 6 (some 88) (v := ?_) rfl rfl (by kernel_rfl) (by kernel_rfl) (by kernel_rfl) (fun _ _ _ h => h) (by rfl) ?_ ?_
        rotate_left
        · intro W hW; go_simp; first | done | with_reducible rfl
        try simp only [Act.put, List.setIfInBounds_toArray, List.set_cons_zero, List.set_cons_succ]
        refine reg_take 7 (some 89) (v := ?_) rfl rfl (by kernel_rfl) (by kernel_rfl) (by kernel_rfl) (fun _ _ _ h => h) (by rfl) ?_ ?_
        rotate_left
        · intro W hW; go_simp; first | done | with_reducible rfl
        try simp only [Act.put, List.setIfInBounds_toArray, List.set_cons_zero, List.set_cons_succ]
        refine reg_take 8 (some 90) (v := ?_) rfl rfl (by kernel_rfl) (by kernel_rfl) (by kernel_rfl) (fun _ _ _ h => h) (by rfl) ?_ ?_
        rotate_left
        · intro W hW; have c := cell_of_one (((hW).block _ (lt_of_block HO12.out) (by simp; omega)).trans HO12.out); go_simp; first | done | with_reducible rfl
        try simp only [Act.put, List.setIfInBounds_toArray, List.set_cons_zero, List.set_cons_succ]
        refine reg_take 9 (some 91) (v := ?_) rfl rfl (by kernel_rfl) (by kernel_rfl) (by kernel_rfl) (fun _ _ _ h => h) (by rfl) ?_ ?_
        rotate_left
        · intro W hW; refine exec_ld30 (x := .tmp 6) ?_ ?_ (((hW).block _ (lt_of_block HG12.out.want) (by simp; omega)).trans HG12.out.want) <;> rfl
        try simp only [Act.put, List.setIfInBounds_toArray, List.set_cons_zero, List.set_cons_succ]
        refine wpAnyH_ready (rs := [10]) (by kernel_rfl) (by simp) ?_
        refine (AllReadyH.cons (o := { dst := some 92, op := Op.call { callee := Callee.value (Operand.func 24), args := #[Operand.tmp 91], argTypes := #[30] }, type := 3, pos := "law.go:149", after := #[{ on := 9, ground := Ground.data }, { on := 7, ground := Ground.chain }, { on := 7, ground := Ground.guard }], guard := some (7, true) }) rfl (fun K hK => ?_) AllReadyH.nil)
        go_simp
        refine (ref_many T _).mono ?_; rintro e y1 ⟨rfl, k1'⟩; have k1 := grown_none k1' (some (w.heap.size + 1))
        refine reg_next hK k1 ?_
        clear hK K
        try simp only [Act.put, List.setIfInBounds_toArray, List.set_cons_zero, List.set_cons_succ]
        refine reg_take 11 (some 93) (v := ?_) rfl rfl (by kernel_rfl) (by kernel_rfl) (by kernel_rfl) (fun _ _ _ h => h) (by rfl) ?_ ?_
        rotate_left
        · intro W hW; go_simp; first | done | with_reducible rfl
        try simp only [Act.put, List.setIfInBounds_toArray, List.set_cons_zero, List.set_cons_succ]
        refine reg_take 12 (some 94) (v := ?_) rfl rfl (by kernel_rfl) (by kernel_rfl) (by kernel_rfl) (fun _ _ _ h => h) (by rfl) ?_ ?_
        rotate_left
        · intro W hW; go_simp; first | done | with_reducible rfl
        try simp only [Act.put, List.setIfInBounds_toArray, List.set_cons_zero, List.set_cons_succ]
        refine reg_take 13 (some 95) (v := ?_) rfl rfl (by kernel_rfl) (by kernel_rfl) (by kernel_rfl) (fun _ _ _ h => h) (by rfl) ?_ ?_
        rotate_left
        · intro W hW; go_simp; first | done | with_reducible rfl
        try simp only [Act.put, List.setIfInBounds_toArray, List.set_cons_zero, List.set_cons_succ]
        refine reg_take 14 (some 96) (v := ?_) rfl rfl (by kernel_rfl) (by kernel_rfl) (by kernel_rfl) (fun _ _ _ h => h) (by rfl) ?_ ?_
        rotate_left
        · intro W hW; go_simp; first | done | with_reducible rfl
        try simp only [Act.put, List.setIfInBounds_toArray, List.set_cons_zero, List.set_cons_succ]
        refine reg_take 15 (some 97) (v := ?_) rfl rfl (by kernel_rfl) (by kernel_rfl) (by kernel_rfl) (fun _ _ _ h => h) (by rfl) ?_ ?_
        rotate_left
        · intro W hW; go_simp; first | done | with_reducible rfl
        try simp only [Act.put, List.setIfInBounds_toArray, List.set_cons_zero, List.set_cons_succ]
        refine reg_take 16 (some 98) (v := ?_) rfl rfl (by kernel_rfl) (by kernel_rfl) (by kernel_rfl) (fun _ _ _ h => h) (by rfl) ?_ ?_
        rotate_left
        · intro W hW; refine exec_ld30 (x := .tmp 6) ?_ ?_ ((((k1.trans hW)).block _ (lt_of_block HG12.out.want) (by simp; omega)).trans HG12.out.want) <;> rfl
        try simp only [Act.put, List.setIfInBounds_toArray, List.set_cons_zero, List.set_cons_succ]
        refine wpAnyH_ready (rs := [17]) (by kernel_rfl) (by simp) ?_
        refine (AllReadyH.cons (o := { dst := some 99, op := Op.call { callee := Callee.value (Operand.func 11), args := #[Operand.tmp 97, Operand.tmp 98], argTypes := #[24, 30] }, type := 4, pos := "law.go:149", after := #[{ on := 15, ground := Ground.data }, { on := 16, ground := Ground.data }, { on := 14, ground := Ground.chain }, { on := 14, ground := Ground.guard }], guard := some (14, true) }) rfl (fun K hK => ?_) AllReadyH.nil)
        go_simp
        refine (is_any C T _ (HG12.out.tc.kept (k1) (by simp; omega))).mono ?_; rintro e y2 ⟨rfl, k2'⟩; have k2 := grown_none k2' (some (w.heap.size + 1))
        refine reg_next hK k2 ?_
        clear hK K
        try simp only [Act.put, List.setIfInBounds_toArray, List.set_cons_zero, List.set_cons_succ]
        as_aux_lemma =>
        refine reg_take 18 (some 100) (v := ?_) rfl rfl (by kernel_rfl) (by kernel_rfl) (by kernel_rfl) (fun _ _ _ h => h) (by rfl) ?_ ?_
        rotate_left
        · intro W hW; go_simp; first | done | with_reducible rfl
        try simp only [Act.put, List.setIfInBounds_toArray, List.set_cons_zero, List.set_cons_succ]
        refine reg_take 19 (some 101) (v := ?_) rfl rfl (by kernel_rfl) (by kernel_rfl) (by kernel_rfl) (fun _ _ _ h => h) (by rfl) ?_ ?_
        rotate_left
        · intro W hW; go_simp; first | done | with_reducible rfl
        try simp only [Act.put, List.setIfInBounds_toArray, List.set_cons_zero, List.set_cons_succ]
        refine reg_take 20 (some 102) (v := ?_) rfl rfl (by kernel_rfl) (by kernel_rfl) (by kernel_rfl) (fun _ _ _ h => h) (by rfl) ?_ ?_
        rotate_left
        · intro W hW; go_simp; first | done | with_reducible rfl
        try simp only [Act.put, List.setIfInBounds_toArray, List.set_cons_zero, List.set_cons_succ]
        refine reg_take 21 (some 103) (v := ?_) rfl rfl (by kernel_rfl) (by kernel_rfl) (by kernel_rfl) (fun _ _ _ h => h) (by rfl) ?_ ?_
        rotate_left
        · intro W hW; refine exec_ld30 (x := .tmp 10) ?_ ?_ ((((k1.trans (k2.trans hW))).block _ (lt_of_block HG12.out.next) (by simp; omega)).trans HG12.out.next) <;> rfl
        try simp only [Act.put, List.setIfInBounds_toArray, List.set_cons_zero, List.set_cons_succ]
        refine wpAnyH_ready (rs := [22]) (by kernel_rfl) (by simp) ?_
        refine (AllReadyH.cons (o := { dst := some 104, op := Op.call { callee := Callee.value (Operand.func 11), args := #[Operand.tmp 102, Operand.tmp 103], argTypes := #[24, 30] }, type := 4, pos := "law.go:149", after := #[{ on := 20, ground := Ground.data }, { on := 21, ground := Ground.data }, { on := 19, ground := Ground.chain }, { on := 19, ground := Ground.guard }], guard := some (19, true) }) rfl (fun K hK => ?_) AllReadyH.nil)
        go_simp
        refine (is_any B U _ (HG12.out.tb.kept ((k1.trans k2)) (by simp; omega))).mono ?_; rintro e y3 ⟨rfl, k3'⟩; have k3 := grown_none k3' (some (w.heap.size + 1))
        refine reg_next hK k3 ?_
        clear hK K
        try simp only [Act.put, List.setIfInBounds_toArray, List.set_cons_zero, List.set_cons_succ]
        refine reg_take 23 (some 105) (v := ?_) rfl rfl (by kernel_rfl) (by kernel_rfl) (by kernel_rfl) (fun _ _ _ h => h) (by rfl) ?_ ?_
        rotate_left
        · intro W hW; go_simp; first | done | with_reducible rfl
        try simp only [Act.put, List.setIfInBounds_toArray, List.set_cons_zero, List.set_cons_succ]
        refine reg_take 24 (some 106) (v := ?_) rfl rfl (by kernel_rfl) (by kernel_rfl) (by kernel_rfl) (fun _ _ _ h => h) (by rfl) ?_ ?_
        rotate_left
        · intro W hW; go_simp; first | done | with_reducible rfl
        try simp only [Act.put, List.setIfInBounds_toArray, List.set_cons_zero, List.set_cons_succ]
        refine reg_take 25 (some 107) (v := ?_) rfl rfl (by kernel_rfl) (by kernel_rfl) (by kernel_rfl) (fun _ _ _ h => h) (by rfl) ?_ ?_
        rotate_left
        · intro W hW; go_simp; first | done | with_reducible rfl
        try simp only [Act.put, List.setIfInBounds_toArray, List.set_cons_zero, List.set_cons_succ]
        refine reg_take 26 (some 108) (v := ?_) rfl rfl (by kernel_rfl) (by kernel_rfl) (by kernel_rfl) (fun _ _ _ h => h) (by rfl) ?_ ?_
        rotate_left
        · intro W hW; go_simp; first | done | with_reducible rfl
        try simp only [Act.put, List.setIfInBounds_toArray, List.set_cons_zero, List.set_cons_succ]
        refine reg_take 28 (some 110) (v := ?_) rfl rfl (by kernel_rfl) (by kernel_rfl) (by kernel_rfl) (fun _ _ _ h => h) (by rfl) ?_ ?_
        rotate_left
        · intro W hW; refine exec_ld30 (x := .tmp 6) ?_ ?_ ((((k1.trans (k2.trans (k3.trans hW)))).block _ (lt_of_block HG12.out.want) (by simp; omega)).trans HG12.out.want) <;> rfl
        try simp only [Act.put, List.setIfInBounds_toArray, List.set_cons_zero, List.set_cons_succ]
        refine reg_take 29 (some 111) (v := ?_) rfl rfl (by kernel_rfl) (by kernel_rfl) (by kernel_rfl) (fun _ _ _ h => h) (by rfl) ?_ ?_
        rotate_left
        · intro W hW; refine exec_ld30 (x := .tmp 10) ?_ ?_ ((((k1.trans (k2.trans (k3.trans hW)))).block _ (lt_of_block HG12.out.next) (by simp; omega)).trans HG12.out.next) <;> rfl
        try simp only [Act.put, List.setIfInBounds_toArray, List.set_cons_zero, List.set_cons_succ]
        refine reg_take 30 (some 112) (v := ?_) rfl rfl (by kernel_rfl) (by kernel_rfl) (by kernel_rfl) (fun _ _ _ h => h) (by rfl) ?_ ?_
        rotate_left
        · intro W hW; refine exec_eql (x := .tmp 110) (y := .tmp 111) (t := 30) (b := decide (U = T)) ?_ ?_ ?_ Try.guard30 ((eq62of 30 T U 9996 W (.inl rfl)).trans (by rw [hTU])) <;> rfl
        try simp only [Act.put, List.setIfInBounds_toArray, List.set_cons_zero, List.set_cons_succ]
        refine wpAnyH_ready (rs := [27]) (by kernel_rfl) (by simp) ?_
        refine (AllReadyH.cons (o := { dst := some 109, op := Op.call { callee := Callee.value (Operand.func 23), args := #[Operand.tmp 107, Operand.tmp 108], argTypes := #[24, 24] }, type := 4, pos := "law.go:149", after := #[{ on := 25, ground := Ground.data }, { on := 26, ground := Ground.data }, { on := 24, ground := Ground.chain }, { on := 24, ground := Ground.guard }], guard := some (24, true) }) rfl (fun K hK => ?_) AllReadyH.nil)
        go_simp
        refine (same_tb B C U T _ (HG12.out.tb.kept ((k1.trans (k2.trans k3))) (by simp; omega)) (HG12.out.tc.kept ((k1.trans (k2.trans k3))) (by simp; omega))).mono ?_; rintro e y4 ⟨rfl, k4'⟩; have k4 := grown_none k4' (some (w.heap.size + 1))
        refine reg_next hK k4 ?_
        clear hK K
        try simp only [Act.put, List.setIfInBounds_toArray, List.set_cons_zero, List.set_cons_succ]
        as_aux_lemma =>
        refine reg_take 31 (some 113) (v := ?_) rfl rfl (by kernel_rfl) (by kernel_rfl) (by kernel_rfl) (fun _ _ _ h => h) (by rfl) ?_ ?_
        rotate_left
        · intro W hW; go_simp; first | done | with_reducible rfl
        try simp only [Act.put, List.setIfInBounds_toArray, List.set_cons_zero, List.set_cons_succ]
        refine reg_take 32 (some 114) (v := ?_) rfl rfl (by kernel_rfl) (by kernel_rfl) (by kernel_rfl) (fun _ _ _ h => h) (by rfl) ?_ ?_
        rotate_left
        · intro W hW; go_simp; first | done | with_reducible rfl
        try simp only [Act.put, List.setIfInBounds_toArray, List.set_cons_zero, List.set_cons_succ]
        refine reg_take 33 (some 115) (v := ?_) rfl rfl (by kernel_rfl) (by kernel_rfl) (by kernel_rfl) (fun _ _ _ h => h) (by rfl) ?_ ?_
        rotate_left
        · intro W hW; go_simp; first | done | with_reducible rfl
        try simp only [Act.put, List.setIfInBounds_toArray, List.set_cons_zero, List.set_cons_succ]
        refine reg_take 34 (some 116) (v := ?_) rfl rfl (by kernel_rfl) (by kernel_rfl) (by kernel_rfl) (fun _ _ _ h => h) (by rfl) ?_ ?_
        rotate_left
        · intro W hW; go_simp; first | done | with_reducible rfl
        try simp only [Act.put, List.setIfInBounds_toArray, List.set_cons_zero, List.set_cons_succ]
        refine reg_take 35 (some 117) (v := ?_) rfl rfl (by kernel_rfl) (by kernel_rfl) (by kernel_rfl) (fun _ _ _ h => h) (by rfl) ?_ ?_
        rotate_left
        · intro W hW; go_simp; first | done | with_reducible rfl
        try simp only [Act.put, List.setIfInBounds_toArray, List.set_cons_zero, List.set_cons_succ]
        refine reg_take 37 (some 119) (v := ?_) rfl rfl (by kernel_rfl) (by kernel_rfl) (by kernel_rfl) (fun _ _ _ h => h) (by rfl) ?_ ?_
        rotate_left
        · intro W hW; refine exec_ld30 (x := .tmp 6) ?_ ?_ ((((k1.trans (k2.trans (k3.trans (k4.trans hW))))).block _ (lt_of_block HG12.out.want) (by simp; omega)).trans HG12.out.want) <;> rfl
        try simp only [Act.put, List.setIfInBounds_toArray, List.set_cons_zero, List.set_cons_succ]
        refine reg_take 38 (some 120) (v := ?_) rfl rfl (by kernel_rfl) (by kernel_rfl) (by kernel_rfl) (fun _ _ _ h => h) (by rfl) ?_ ?_
        rotate_left
        · intro W hW; refine exec_ld30 (x := .tmp 10) ?_ ?_ ((((k1.trans (k2.trans (k3.trans (k4.trans hW))))).block _ (lt_of_block HG12.out.next) (by simp; omega)).trans HG12.out.next) <;> rfl
        try simp only [Act.put, List.setIfInBounds_toArray, List.set_cons_zero, List.set_cons_succ]
        refine reg_take 39 (some 121) (v := ?_) rfl rfl (by kernel_rfl) (by kernel_rfl) (by kernel_rfl) (fun _ _ _ h => h) (by rfl) ?_ ?_
        rotate_left
        · intro W hW; refine exec_eql (x := .tmp 119) (y := .tmp 120) (t := 30) (b := decide (T = U)) ?_ ?_ ?_ Try.guard30 (eq62of 30 T U 9996 W (.inl rfl)) <;> rfl
        try simp only [Act.put, List.setIfInBounds_toArray, List.set_cons_zero, List.set_cons_succ]
        refine wpAnyH_ready (rs := [36]) (by kernel_rfl) (by simp) ?_
        refine (AllReadyH.cons (o := { dst := some 118, op := Op.call { callee := Callee.value (Operand.func 23), args := #[Operand.tmp 116, Operand.tmp 117], argTypes := #[24, 24] }, type := 4, pos := "law.go:149", after := #[{ on := 34, ground := Ground.data }, { on := 35, ground := Ground.data }, { on := 33, ground := Ground.chain }, { on := 33, ground := Ground.guard }], guard := some (33, true) }) rfl (fun K hK => ?_) AllReadyH.nil)
        go_simp
        refine (same_tb C B T U _ (HG12.out.tc.kept ((k1.trans (k2.trans (k3.trans k4)))) (by simp; omega)) (HG12.out.tb.kept ((k1.trans (k2.trans (k3.trans k4)))) (by simp; omega))).mono ?_; rintro e y5 ⟨rfl, k5'⟩; have k5 := grown_none k5' (some (w.heap.size + 1))
        refine reg_next hK k5 ?_
        clear hK K
        try simp only [Act.put, List.setIfInBounds_toArray, List.set_cons_zero, List.set_cons_succ]
        refine reg_take 40 (some 122) (v := ?_) rfl rfl (by kernel_rfl) (by kernel_rfl) (by kernel_rfl) (fun _ _ _ h => h) (by rfl) ?_ ?_
        rotate_left
        · intro W hW; go_simp; first | done | with_reducible rfl
        try simp only [Act.put, List.setIfInBounds_toArray, List.set_cons_zero, List.set_cons_succ]
        refine reg_take 41 (some 123) (v := ?_) rfl rfl (by kernel_rfl) (by kernel_rfl) (by kernel_rfl) (fun _ _ _ h => h) (by rfl) ?_ ?_
        rotate_left
        · intro W hW; go_simp; first | done | with_reducible rfl
        try simp only [Act.put, List.setIfInBounds_toArray, List.set_cons_zero, List.set_cons_succ]
        refine reg_take 42 (some 124) (v := ?_) rfl rfl (by kernel_rfl) (by kernel_rfl) (by kernel_rfl) (fun _ _ _ h => h) (by rfl) ?_ ?_
        rotate_left
        · intro W hW; go_simp; first | done | with_reducible rfl
        try simp only [Act.put, List.setIfInBounds_toArray, List.set_cons_zero, List.set_cons_succ]
        refine reg_take 43 (some 125) (v := ?_) rfl rfl (by kernel_rfl) (by kernel_rfl) (by kernel_rfl) (fun _ _ _ h => h) (by rfl) ?_ ?_
        rotate_left
        · intro W hW; go_simp; first | done | with_reducible rfl
        try simp only [Act.put, List.setIfInBounds_toArray, List.set_cons_zero, List.set_cons_succ]
        refine reg_take 44 (some 126) (v := ?_) rfl rfl (by kernel_rfl) (by kernel_rfl) (by kernel_rfl) (fun _ _ _ h => h) (by rfl) ?_ ?_
        rotate_left
        · intro W hW; go_simp; first | done | with_reducible rfl
        try simp only [Act.put, List.setIfInBounds_toArray, List.set_cons_zero, List.set_cons_succ]
        refine reg_take 45 (some 127) (v := ?_) rfl rfl (by kernel_rfl) (by kernel_rfl) (by kernel_rfl) (fun _ _ _ h => h) (by rfl) ?_ ?_
        rotate_left
        · intro W hW; go_simp; first | done | with_reducible rfl
        try simp only [Act.put, List.setIfInBounds_toArray, List.set_cons_zero, List.set_cons_succ]
        refine reg_take 46 (some 128) (v := ?_) rfl rfl (by kernel_rfl) (by kernel_rfl) (by kernel_rfl) (fun _ _ _ h => h) (by rfl) ?_ ?_
        rotate_left
        · intro W hW; go_simp; first | done | with_reducible rfl
        try simp only [Act.put, List.setIfInBounds_toArray, List.set_cons_zero, List.set_cons_succ]
        refine reg_take 47 (some 129) (v := ?_) rfl rfl (by kernel_rfl) (by kernel_rfl) (by kernel_rfl) (fun _ _ _ h => h) (by rfl) ?_ ?_
        rotate_left
        · intro W hW; go_simp; first | done | with_reducible rfl
        try simp only [Act.put, List.setIfInBounds_toArray, List.set_cons_zero, List.set_cons_succ]
        refine wpAnyH_ready (rs := [48]) (by kernel_rfl) (by simp) ?_
        refine (AllReadyH.cons (o := { dst := some 130, op := Op.call { callee := Callee.value (Operand.func 20), args := #[Operand.tmp 129], argTypes := #[24] }, type := 51, pos := "law.go:149", after := #[{ on := 47, ground := Ground.data }, { on := 46, ground := Ground.chain }, { on := 46, ground := Ground.guard }], guard := some (46, true) }) rfl (fun K hK => ?_) AllReadyH.nil)
        go_simp
        refine (all_nil _).mono ?_; rintro e z ⟨rfl, rfl⟩
        refine reg_same hK ?_
        clear hK K
        try simp only [Act.put, List.setIfInBounds_toArray, List.set_cons_zero, List.set_cons_succ]
        as_aux_lemma =>
        refine reg_take 49 (some 131) (v := ?_) rfl rfl (by kernel_rfl) (by kernel_rfl) (by kernel_rfl) (fun _ _ _ h => h) (by rfl) ?_ ?_
        rotate_left
        · intro W hW; go_simp; first | done | with_reducible rfl
        try simp only [Act.put, List.setIfInBounds_toArray, List.set_cons_zero, List.set_cons_succ]
        refine reg_take 50 (some 132) (v := ?_) rfl rfl (by kernel_rfl) (by kernel_rfl) (by kernel_rfl) (fun _ _ _ h => h) (by rfl) ?_ ?_
        rotate_left
        · intro W hW; go_simp; first | done | with_reducible rfl
        try simp only [Act.put, List.setIfInBounds_toArray, List.set_cons_zero, List.set_cons_succ]
        refine reg_take 51 (some 133) (v := ?_) rfl rfl (by kernel_rfl) (by kernel_rfl) (by kernel_rfl) (fun _ _ _ h => h) (by rfl) ?_ ?_
        rotate_left
        · intro W hW; go_simp; first | done | with_reducible rfl
        try simp only [Act.put, List.setIfInBounds_toArray, List.set_cons_zero, List.set_cons_succ]
        refine reg_take 52 (some 134) (v := ?_) rfl rfl (by kernel_rfl) (by kernel_rfl) (by kernel_rfl) (fun _ _ _ h => h) (by rfl) ?_ ?_
        rotate_left
        · intro W hW; go_simp; first | done | with_reducible rfl
        try simp only [Act.put, List.setIfInBounds_toArray, List.set_cons_zero, List.set_cons_succ]
        refine reg_take 53 (some 135) (v := ?_) rfl rfl (by kernel_rfl) (by kernel_rfl) (by kernel_rfl) (fun _ _ _ h => h) (by rfl) ?_ ?_
        rotate_left
        · intro W hW; refine exec_ld (x := .tmp 18) 27 ?_ v2.heap.size 0 ?_ _ 27 (0, 0) ((((k1.trans (k2.trans (k3.trans (k4.trans (k5.trans hW)))))).block _ (lt_of_block HZ12.out) (by simp; omega)).trans HZ12.out) _ 4 ?_ Try.underlying27 ?_ Try.size27 <;> rfl
        try simp only [Act.put, List.setIfInBounds_toArray, List.set_cons_zero, List.set_cons_succ]
        refine reg_take 54 (some 136) (v := ?_) rfl rfl (by kernel_rfl) (by kernel_rfl) (by kernel_rfl) (fun _ _ _ h => h) (by rfl) ?_ ?_
        rotate_left
        · intro W hW; go_simp; first | done | with_reducible rfl
        try simp only [Act.put, List.setIfInBounds_toArray, List.set_cons_zero, List.set_cons_succ]
        refine reg_take 55 (some 137) (v := ?_) rfl rfl (by kernel_rfl) (by kernel_rfl) (by kernel_rfl) (fun _ _ _ h => h) (by rfl) ?_ ?_
        rotate_left
        · intro W hW; refine exec_eql (x := .tmp 135) (y := .tmp 136) (t := 27) (b := true) ?_ ?_ ?_ Try.guard27 ((eq27 .no .no 9998 W).trans (by simp)) <;> rfl
        try simp only [Act.put, List.setIfInBounds_toArray, List.set_cons_zero, List.set_cons_succ]
        refine reg_take 56 (some 138) (v := ?_) rfl rfl (by kernel_rfl) (by kernel_rfl) (by kernel_rfl) (fun _ _ _ h => h) (by rfl) ?_ ?_
        rotate_left
        · intro W hW; go_simp; first | done | with_reducible rfl
        try simp only [Act.put, List.setIfInBounds_toArray, List.set_cons_zero, List.set_cons_succ]
        refine reg_take 57 (some 139) (v := ?_) rfl rfl (by kernel_rfl) (by kernel_rfl) (by kernel_rfl) (fun _ _ _ h => h) (by rfl) ?_ ?_
        rotate_left
        · intro W hW; go_simp; first | done | with_reducible rfl
        try simp only [Act.put, List.setIfInBounds_toArray, List.set_cons_zero, List.set_cons_succ]
        refine reg_take 58 (some 140) (v := ?_) rfl rfl (by kernel_rfl) (by kernel_rfl) (by kernel_rfl) (fun _ _ _ h => h) (by rfl) ?_ ?_
        rotate_left
        · intro W hW; go_simp; first | done | with_reducible rfl
        try simp only [Act.put, List.setIfInBounds_toArray, List.set_cons_zero, List.set_cons_succ]
        refine reg_take 59 (some 141) (v := ?_) rfl rfl (by kernel_rfl) (by kernel_rfl) (by kernel_rfl) (fun _ _ _ h => h) (by rfl) ?_ ?_
        rotate_left
        · intro W hW; go_simp; first | done | with_reducible rfl
        try simp only [Act.put, List.setIfInBounds_toArray, List.set_cons_zero, List.set_cons_succ]
        refine reg_take 60 (some 142) (v := ?_) rfl rfl (by kernel_rfl) (by kernel_rfl) (by kernel_rfl) (fun _ _ _ h => h) (by rfl) ?_ ?_
        rotate_left
        · intro W hW; go_simp; first | done | with_reducible rfl
        try simp only [Act.put, List.setIfInBounds_toArray, List.set_cons_zero, List.set_cons_succ]
        refine reg_take 61 (some 143) (v := ?_) rfl rfl (by kernel_rfl) (by kernel_rfl) (by kernel_rfl) (fun _ _ _ h => h) (by rfl) ?_ ?_
        rotate_left
        · intro W hW; go_simp; first | done | with_reducible rfl
        try simp only [Act.put, List.setIfInBounds_toArray, List.set_cons_zero, List.set_cons_succ]
        refine reg_take 62 (some 144) (v := ?_) rfl rfl (by kernel_rfl) (by kernel_rfl) (by kernel_rfl) (fun _ _ _ h => h) (by rfl) ?_ ?_
        rotate_left
        · intro W hW; go_simp; first | done | with_reducible rfl
        try simp only [Act.put, List.setIfInBounds_toArray, List.set_cons_zero, List.set_cons_succ]
        refine reg_take 63 (some 145) (v := ?_) rfl rfl (by kernel_rfl) (by kernel_rfl) (by kernel_rfl) (fun _ _ _ h => h) (by rfl) ?_ ?_
        rotate_left
        · intro W hW; go_simp; first | done | with_reducible rfl
        try simp only [Act.put, List.setIfInBounds_toArray, List.set_cons_zero, List.set_cons_succ]
        refine reg_take 64 (some 146) (v := ?_) rfl rfl (by kernel_rfl) (by kernel_rfl) (by kernel_rfl) (fun _ _ _ h => h) (by rfl) ?_ ?_
        rotate_left
        · intro W hW; go_simp; first | done | with_reducible rfl
        try simp only [Act.put, List.setIfInBounds_toArray, List.set_cons_zero, List.set_cons_succ]
        refine reg_take 65 (some 147) (v := ?_) rfl rfl (by kernel_rfl) (by kernel_rfl) (by kernel_rfl) (fun _ _ _ h => h) (by rfl) ?_ ?_
        rotate_left
        · intro W hW; go_simp; first | done | with_reducible rfl
        try simp only [Act.put, List.setIfInBounds_toArray, List.set_cons_zero, List.set_cons_succ]
        refine reg_take 66 (some 148) (v := ?_) rfl rfl (by kernel_rfl) (by kernel_rfl) (by kernel_rfl) (fun _ _ _ h => h) (by rfl) ?_ ?_
        rotate_left
        · intro W hW; go_simp; first | done | with_reducible rfl
        try simp only [Act.put, List.setIfInBounds_toArray, List.set_cons_zero, List.set_cons_succ]
        refine wpAnyH_ready (rs := [67]) (by kernel_rfl) (by simp) ?_
        refine (AllReadyH.cons (o := { dst := some 149, op := Op.call { callee := Callee.value (Operand.func 18), args := #[Operand.tmp 148, Operand.const (Value.int IntKind.u32 1)], argTypes := #[24, 25] }, type := 4, pos := "law.go:149", after := #[{ on := 66, ground := Ground.data }, { on := 65, ground := Ground.chain }, { on := 65, ground := Ground.guard }], guard := some (65, true) }) rfl (fun K hK => ?_) AllReadyH.nil)
        go_simp
        refine (drop_nil 1 _).mono ?_; rintro e y6 ⟨rfl, k6'⟩; have k6 := grown_none k6' (some (w.heap.size + 1))
        refine reg_next hK k6 ?_
        clear hK K
        try simp only [Act.put, List.setIfInBounds_toArray, List.set_cons_zero, List.set_cons_succ]
        refine reg_take 68 (some 150) (v := ?_) rfl rfl (by kernel_rfl) (by kernel_rfl) (by kernel_rfl) (fun _ _ _ h => h) (by rfl) ?_ ?_
        rotate_left
        · intro W hW; go_simp; first | done | with_reducible rfl
        try simp only [Act.put, List.setIfInBounds_toArray, List.set_cons_zero, List.set_cons_succ]
        refine reg_take 69 (some 151) (v := ?_) rfl rfl (by kernel_rfl) (by kernel_rfl) (by kernel_rfl) (fun _ _ _ h => h) (by rfl) ?_ ?_
        rotate_left
        · intro W hW; go_simp; first | done | with_reducible rfl
        try simp only [Act.put, List.setIfInBounds_toArray, List.set_cons_zero, List.set_cons_succ]
        refine reg_take 70 (some 152) (v := ?_) rfl rfl (by kernel_rfl) (by kernel_rfl) (by kernel_rfl) (fun _ _ _ h => h) (by rfl) ?_ ?_
        rotate_left
        · intro W hW; go_simp; first | done | with_reducible rfl
        try simp only [Act.put, List.setIfInBounds_toArray, List.set_cons_zero, List.set_cons_succ]
        refine reg_take 71 (some 153) (v := ?_) rfl rfl (by kernel_rfl) (by kernel_rfl) (by kernel_rfl) (fun _ _ _ h => h) (by rfl) ?_ ?_
        rotate_left
        · intro W hW; go_simp; first | done | with_reducible rfl
        try simp only [Act.put, List.setIfInBounds_toArray, List.set_cons_zero, List.set_cons_succ]
        refine wpAnyH_ready (rs := [72]) (by kernel_rfl) (by simp) ?_
        refine (AllReadyH.cons (o := { dst := some 154, op := Op.call { callee := Callee.value (Operand.func 25), args := #[Operand.tmp 153], argTypes := #[24] }, type := 3, pos := "law.go:149", after := #[{ on := 71, ground := Ground.data }, { on := 70, ground := Ground.chain }, { on := 70, ground := Ground.guard }], guard := some (70, true) }) rfl (fun K hK => ?_) AllReadyH.nil)
        go_simp
        refine (next_nil _).mono ?_; rintro e z ⟨rfl, rfl⟩
        refine reg_same hK ?_
        clear hK K
        try simp only [Act.put, List.setIfInBounds_toArray, List.set_cons_zero, List.set_cons_succ]
        as_aux_lemma =>
        refine reg_take 73 (some 155) (v := ?_) rfl rfl (by kernel_rfl) (by kernel_rfl) (by kernel_rfl) (fun _ _ _ h => h) (by rfl) ?_ ?_
        rotate_left
        · intro W hW; go_simp; first | done | with_reducible rfl
        try simp only [Act.put, List.setIfInBounds_toArray, List.set_cons_zero, List.set_cons_succ]
        refine reg_take 74 (some 156) (v := ?_) rfl rfl (by kernel_rfl) (by kernel_rfl) (by kernel_rfl) (fun _ _ _ h => h) (by rfl) ?_ ?_
        rotate_left
        · intro W hW; go_simp; first | done | with_reducible rfl
        try simp only [Act.put, List.setIfInBounds_toArray, List.set_cons_zero, List.set_cons_succ]
        refine reg_take 75 (some 157) (v := ?_) rfl rfl (by kernel_rfl) (by kernel_rfl) (by kernel_rfl) (fun _ _ _ h => h) (by rfl) ?_ ?_
        rotate_left
        · intro W hW; go_simp; first | done | with_reducible rfl
        try simp only [Act.put, List.setIfInBounds_toArray, List.set_cons_zero, List.set_cons_succ]
        refine reg_take 76 (some 158) (v := ?_) rfl rfl (by kernel_rfl) (by kernel_rfl) (by kernel_rfl) (fun _ _ _ h => h) (by rfl) ?_ ?_
        rotate_left
        · intro W hW; go_simp; first | done | with_reducible rfl
        try simp only [Act.put, List.setIfInBounds_toArray, List.set_cons_zero, List.set_cons_succ]
        refine wpAnyH_ready (rs := [77]) (by kernel_rfl) (by simp) ?_
        refine (AllReadyH.cons (o := { dst := some 159, op := Op.call { callee := Callee.value (Operand.func 21), args := #[Operand.tmp 158], argTypes := #[24] }, type := 24, pos := "law.go:149", after := #[{ on := 76, ground := Ground.data }, { on := 75, ground := Ground.chain }, { on := 75, ground := Ground.guard }], guard := some (75, true) }) rfl (fun K hK => ?_) AllReadyH.nil)
        go_simp
        refine (copy_nil _).mono ?_; rintro e z ⟨rfl, rfl⟩
        refine reg_same hK ?_
        clear hK K
        try simp only [Act.put, List.setIfInBounds_toArray, List.set_cons_zero, List.set_cons_succ]
        refine reg_take 78 (some 160) (v := ?_) rfl rfl (by kernel_rfl) (by kernel_rfl) (by kernel_rfl) (fun _ _ _ h => h) (by rfl) ?_ ?_
        rotate_left
        · intro W hW; go_simp; first | done | with_reducible rfl
        try simp only [Act.put, List.setIfInBounds_toArray, List.set_cons_zero, List.set_cons_succ]
        refine reg_take 79 (some 161) (v := ?_) rfl rfl (by kernel_rfl) (by kernel_rfl) (by kernel_rfl) (fun _ _ _ h => h) (by rfl) ?_ ?_
        rotate_left
        · intro W hW; go_simp; first | done | with_reducible rfl
        try simp only [Act.put, List.setIfInBounds_toArray, List.set_cons_zero, List.set_cons_succ]
        refine reg_take 80 (some 162) (v := ?_) rfl rfl (by kernel_rfl) (by kernel_rfl) (by kernel_rfl) (fun _ _ _ h => h) (by rfl) ?_ ?_
        rotate_left
        · intro W hW; go_simp; first | done | with_reducible rfl
        try simp only [Act.put, List.setIfInBounds_toArray, List.set_cons_zero, List.set_cons_succ]
        refine reg_take 81 (some 163) (v := ?_) rfl rfl (by kernel_rfl) (by kernel_rfl) (by kernel_rfl) (fun _ _ _ h => h) (by rfl) ?_ ?_
        rotate_left
        · intro W hW; go_simp; first | done | with_reducible rfl
        try simp only [Act.put, List.setIfInBounds_toArray, List.set_cons_zero, List.set_cons_succ]
        refine wpAnyH_ready (rs := [82]) (by kernel_rfl) (by simp) ?_
        refine (AllReadyH.cons (o := { dst := some 164, op := Op.call { callee := Callee.value (Operand.func 23), args := #[Operand.tmp 163, Operand.const (Value.pointer none)], argTypes := #[24, 24] }, type := 4, pos := "law.go:149", after := #[{ on := 81, ground := Ground.data }, { on := 80, ground := Ground.chain }, { on := 80, ground := Ground.guard }], guard := some (80, true) }) rfl (fun K hK => ?_) AllReadyH.nil)
        go_simp
        refine (same_nn _).mono ?_; rintro e z ⟨rfl, rfl⟩
        refine reg_same hK ?_
        clear hK K
        try simp only [Act.put, List.setIfInBounds_toArray, List.set_cons_zero, List.set_cons_succ]
        as_aux_lemma =>
        refine reg_take 83 (some 165) (v := ?_) rfl rfl (by kernel_rfl) (by kernel_rfl) (by kernel_rfl) (fun _ _ _ h => h) (by rfl) ?_ ?_
        rotate_left
        · intro W hW; go_simp; first | done | with_reducible rfl
        try simp only [Act.put, List.setIfInBounds_toArray, List.set_cons_zero, List.set_cons_succ]
        refine reg_take 84 (some 166) (v := ?_) rfl rfl (by kernel_rfl) (by kernel_rfl) (by kernel_rfl) (fun _ _ _ h => h) (by rfl) ?_ ?_
        rotate_left
        · intro W hW; go_simp; first | done | with_reducible rfl
        try simp only [Act.put, List.setIfInBounds_toArray, List.set_cons_zero, List.set_cons_succ]
        refine reg_take 85 (some 167) (v := ?_) rfl rfl (by kernel_rfl) (by kernel_rfl) (by kernel_rfl) (fun _ _ _ h => h) (by rfl) ?_ ?_
        rotate_left
        · intro W hW; go_simp; first | done | with_reducible rfl
        try simp only [Act.put, List.setIfInBounds_toArray, List.set_cons_zero, List.set_cons_succ]
        refine reg_take 86 (some 168) (v := ?_) rfl rfl (by kernel_rfl) (by kernel_rfl) (by kernel_rfl) (fun _ _ _ h => h) (by rfl) ?_ ?_
        rotate_left
        · intro W hW; go_simp; first | done | with_reducible rfl
        try simp only [Act.put, List.setIfInBounds_toArray, List.set_cons_zero, List.set_cons_succ]
        refine wpAnyH_ready (rs := [87]) (by kernel_rfl) (by simp) ?_
        refine (AllReadyH.cons (o := { dst := some 169, op := Op.call { callee := Callee.value (Operand.func 23), args := #[Operand.tmp 167, Operand.tmp 168], argTypes := #[24, 24] }, type := 4, pos := "law.go:149", after := #[{ on := 85, ground := Ground.data }, { on := 86, ground := Ground.data }, { on := 84, ground := Ground.chain }, { on := 84, ground := Ground.guard }], guard := some (84, true) }) rfl (fun K hK => ?_) AllReadyH.nil)
        go_simp
        refine (same_nt C T _ (HG12.out.tc.kept ((k1.trans (k2.trans (k3.trans (k4.trans (k5.trans k6)))))) (by simp; omega))).mono ?_; rintro e z ⟨rfl, rfl⟩
        refine reg_same hK ?_
        clear hK K
        try simp only [Act.put, List.setIfInBounds_toArray, List.set_cons_zero, List.set_cons_succ]
        refine reg_take 88 (some 170) (v := ?_) rfl rfl (by kernel_rfl) (by kernel_rfl) (by kernel_rfl) (fun _ _ _ h => h) (by rfl) ?_ ?_
        rotate_left
        · intro W hW; go_simp; first | done | with_reducible rfl
        try simp only [Act.put, List.setIfInBounds_toArray, List.set_cons_zero, List.set_cons_succ]
        refine reg_take 89 (some 171) (v := ?_) rfl rfl (by kernel_rfl) (by kernel_rfl) (by kernel_rfl) (fun _ _ _ h => h) (by rfl) ?_ ?_
        rotate_left
        · intro W hW; go_simp; first | done | with_reducible rfl
        try simp only [Act.put, List.setIfInBounds_toArray, List.set_cons_zero, List.set_cons_succ]
        refine reg_take 90 (some 172) (v := ?_) rfl rfl (by kernel_rfl) (by kernel_rfl) (by kernel_rfl) (fun _ _ _ h => h) (by rfl) ?_ ?_
        rotate_left
        · intro W hW; go_simp; first | done | with_reducible rfl
        try simp only [Act.put, List.setIfInBounds_toArray, List.set_cons_zero, List.set_cons_succ]
        refine reg_take 91 (some 173) (v := ?_) rfl rfl (by kernel_rfl) (by kernel_rfl) (by kernel_rfl) (fun _ _ _ h => h) (by rfl) ?_ ?_
        rotate_left
        · intro W hW; go_simp; first | done | with_reducible rfl
        try simp only [Act.put, List.setIfInBounds_toArray, List.set_cons_zero, List.set_cons_succ]
        refine reg_take 92 (some 174) (v := ?_) rfl rfl (by kernel_rfl) (by kernel_rfl) (by kernel_rfl) (fun _ _ _ h => h) (by rfl) ?_ ?_
        rotate_left
        · intro W hW; go_simp; first | done | with_reducible rfl
        try simp only [Act.put, List.setIfInBounds_toArray, List.set_cons_zero, List.set_cons_succ]
        refine wpAnyH_ready (rs := [93]) (by kernel_rfl) (by simp) ?_
        refine (AllReadyH.cons (o := { dst := some 175, op := Op.call { callee := Callee.value (Operand.func 23), args := #[Operand.tmp 173, Operand.tmp 174], argTypes := #[24, 24] }, type := 4, pos := "law.go:149", after := #[{ on := 91, ground := Ground.data }, { on := 92, ground := Ground.data }, { on := 90, ground := Ground.chain }, { on := 90, ground := Ground.guard }], guard := some (90, true) }) rfl (fun K hK => ?_) AllReadyH.nil)
        go_simp
        refine (same_tn C T _ (HG12.out.tc.kept ((k1.trans (k2.trans (k3.trans (k4.trans (k5.trans k6)))))) (by simp; omega))).mono ?_; rintro e z ⟨rfl, rfl⟩
        refine reg_same hK ?_
        clear hK K
        try simp only [Act.put, List.setIfInBounds_toArray, List.set_cons_zero, List.set_cons_succ]
        as_aux_lemma =>
        refine reg_take 94 (some 176) (v := ?_) rfl rfl (by kernel_rfl) (by kernel_rfl) (by kernel_rfl) (fun _ _ _ h => h) (by rfl) ?_ ?_
        rotate_left
        · intro W hW; go_simp; first | done | with_reducible rfl
        try simp only [Act.put, List.setIfInBounds_toArray, List.set_cons_zero, List.set_cons_succ]
        refine reg_take 95 (some 177) (v := ?_) rfl rfl (by kernel_rfl) (by kernel_rfl) (by kernel_rfl) (fun _ _ _ h => h) (by rfl) ?_ ?_
        rotate_left
        · intro W hW; go_simp; first | done | with_reducible rfl
        try simp only [Act.put, List.setIfInBounds_toArray, List.set_cons_zero, List.set_cons_succ]
        refine reg_take 96 (some 178) (v := ?_) rfl rfl (by kernel_rfl) (by kernel_rfl) (by kernel_rfl) (fun _ _ _ h => h) (by rfl) ?_ ?_
        rotate_left
        · intro W hW; go_simp; first | done | with_reducible rfl
        try simp only [Act.put, List.setIfInBounds_toArray, List.set_cons_zero, List.set_cons_succ]
        refine wpAnyH_ready (rs := [97]) (by kernel_rfl) (by simp) ?_
        refine (AllReadyH.cons (o := { dst := some 179, op := Op.call { callee := Callee.value (Operand.func 9), args := #[], argTypes := #[] }, type := 4, pos := "law.go:149", after := #[{ on := 96, ground := Ground.chain }, { on := 96, ground := Ground.guard }], guard := some (96, true) }) rfl (fun K hK => ?_) AllReadyH.nil)
        go_simp
        refine (works_any _).mono ?_; rintro e y7 ⟨rfl, k7'⟩; have k7 := grown_none k7' (some (w.heap.size + 1))
        refine reg_next hK k7 ?_
        clear hK K
        try simp only [Act.put, List.setIfInBounds_toArray, List.set_cons_zero, List.set_cons_succ]
        refine reg_take 98 (some 180) (v := ?_) rfl rfl (by kernel_rfl) (by kernel_rfl) (by kernel_rfl) (fun _ _ _ h => h) (by rfl) ?_ ?_
        rotate_left
        · intro W hW; go_simp; first | done | with_reducible rfl
        try simp only [Act.put, List.setIfInBounds_toArray, List.set_cons_zero, List.set_cons_succ]
        refine wpAnyH_ready (rs := [99]) (by kernel_rfl) (by simp) ?_
        refine (AllReadyH.cons (o := { dst := none, op := Op.store 4 (Operand.tmp 4) (Operand.tmp 180), type := 0, pos := "law.go:149", after := #[{ on := 98, ground := Ground.data }, { on := 97, ground := Ground.chain }, { on := 0, ground := Ground.phase }, { on := 1, ground := Ground.phase }, { on := 2, ground := Ground.phase }, { on := 3, ground := Ground.phase }, { on := 4, ground := Ground.phase }, { on := 5, ground := Ground.phase }, { on := 6, ground := Ground.phase }, { on := 7, ground := Ground.phase }, { on := 8, ground := Ground.phase }, { on := 9, ground := Ground.phase }, { on := 10, ground := Ground.phase }, { on := 11, ground := Ground.phase }, { on := 12, ground := Ground.phase }, { on := 13, ground := Ground.phase }, { on := 14, ground := Ground.phase }, { on := 15, ground := Ground.phase }, { on := 16, ground := Ground.phase }, { on := 17, ground := Ground.phase }, { on := 18, ground := Ground.phase }, { on := 19, ground := Ground.phase }, { on := 20, ground := Ground.phase }, { on := 21, ground := Ground.phase }, { on := 22, ground := Ground.phase }, { on := 23, ground := Ground.phase }, { on := 24, ground := Ground.phase }, { on := 25, ground := Ground.phase }, { on := 26, ground := Ground.phase }, { on := 27, ground := Ground.phase }, { on := 28, ground := Ground.phase }, { on := 29, ground := Ground.phase }, { on := 30, ground := Ground.phase }, { on := 31, ground := Ground.phase }, { on := 32, ground := Ground.phase }, { on := 33, ground := Ground.phase }, { on := 34, ground := Ground.phase }, { on := 35, ground := Ground.phase }, { on := 36, ground := Ground.phase }, { on := 37, ground := Ground.phase }, { on := 38, ground := Ground.phase }, { on := 39, ground := Ground.phase }, { on := 40, ground := Ground.phase }, { on := 41, ground := Ground.phase }, { on := 42, ground := Ground.phase }, { on := 43, ground := Ground.phase }, { on := 44, ground := Ground.phase }, { on := 45, ground := Ground.phase }, { on := 46, ground := Ground.phase }, { on := 47, ground := Ground.phase }, { on := 48, ground := Ground.phase }, { on := 49, ground := Ground.phase }, { on := 50, ground := Ground.phase }, { on := 51, ground := Ground.phase }, { on := 52, ground := Ground.phase }, { on := 53, ground := Ground.phase }, { on := 54, ground := Ground.phase }, { on := 55, ground := Ground.phase }, { on := 56, ground := Ground.phase }, { on := 57, ground := Ground.phase }, { on := 58, ground := Ground.phase }, { on := 59, ground := Ground.phase }, { on := 60, ground := Ground.phase }, { on := 61, ground := Ground.phase }, { on := 62, ground := Ground.phase }, { on := 63, ground := Ground.phase }, { on := 64, ground := Ground.phase }, { on := 65, ground := Ground.phase }, { on := 66, ground := Ground.phase }, { on := 67, ground := Ground.phase }, { on := 68, ground := Ground.phase }, { on := 69, ground := Ground.phase }, { on := 70, ground := Ground.phase }, { on := 71, ground := Ground.phase }, { on := 72, ground := Ground.phase }, { on := 73, ground := Ground.phase }, { on := 74, ground := Ground.phase }, { on := 75, ground := Ground.phase }, { on := 76, ground := Ground.phase }, { on := 77, ground := Ground.phase }, { on := 78, ground := Ground.phase }, { on := 79, ground := Ground.phase }, { on := 80, ground := Ground.phase }, { on := 81, ground := Ground.phase }, { on := 82, ground := Ground.phase }, { on := 83, ground := Ground.phase }, { on := 84, ground := Ground.phase }, { on := 85, ground := Ground.phase }, { on := 86, ground := Ground.phase }, { on := 87, ground := Ground.phase }, { on := 88, ground := Ground.phase }, { on := 89, ground := Ground.phase }, { on := 90, ground := Ground.phase }, { on := 91, ground := Ground.phase }, { on := 92, ground := Ground.phase }, { on := 93, ground := Ground.phase }, { on := 94, ground := Ground.phase }, { on := 95, ground := Ground.phase }, { on := 96, ground := Ground.phase }, { on := 97, ground := Ground.phase }, { on := 98, ground := Ground.phase }], guard := none }) rfl (fun K hK => ?_) AllReadyH.nil)
        have q0 := ((k1'.trans (k2'.trans (k3'.trans (k4'.trans (k5'.trans (k6'.trans k7')))))).block _ (lt_of_block HG12.out.res) (by simp)).trans HG12.out.res
        have q1 := cell_of_one q0
        have q2 := free_of_one q0
        go_simp
        have k8 := grownBy_setCell' y7 (w.heap.size + 1) (.bool true)
        refine reg_next hK k8 ?_
        clear hK K
        try simp only [Act.put]
        as_aux_lemma =>
        refine wpAnyH_done (by kernel_rfl) ?_ _
        have r1 := cell_of_one (one_setCell (u := .bool true) q0)
        have HR1 := Lib.hid r1
        have hBf := HB12.out.grown ((k1.trans (k2.trans (k3.trans (k4.trans (k5.trans (k6.trans (k7.trans k8)))))))) HB12.out.size (fun k e => by cases e; omega)
        have d1 := (((k1.trans (k2.trans (k3.trans (k4.trans (k5.trans (k6.trans (k7.trans k8)))))))).block _ (lt_of_block HKD12.out) (by simp; omega)).trans HKD12.out
        have d2 := (((k1.trans (k2.trans (k3.trans (k4.trans (k5.trans (k6.trans (k7.trans k8)))))))).block _ (lt_of_block HK212.out) (by simp; omega)).trans HK212.out
        have d3 := (((k1.trans (k2.trans (k3.trans (k4.trans (k5.trans (k6.trans (k7.trans k8)))))))).block _ (lt_of_block HK312.out) (by simp; omega)).trans HK312.out
        have HBf := Lib.hid hBf
        have HD1 := Lib.hid d1
        have HD2 := Lib.hid d2
        have HD3 := Lib.hid d3
        clear r1 hBf d1 d2 d3 k1 k1' k2 k2' k3 k3' k4 k4' k5 k5' k6 k6' k7 k7' k8 q0 q1 q2
        generalize y7.setCell { block := w.heap.size + 1, off := 0 } (.bool true) = Z at *
        refine OnlyNormal.mk ?_
        go_wp2
        have hn23 : D2 ≠ D3 := by omega
        have hn13 : D1 ≠ D3 := by omega
        have hn12 : D1 ≠ D2 := by omega
        exact leave3 HD1.out HD2.out HD3.out hn12 hn13 hn23 (by omega) (by omega) (by omega) HR1.out HBf.out (fun W h => by simp [results, Try.f8, go_sem, h])
set_option maxRecDepth 100000 in
theorem tlbCopies_many (a : Option Addr) (n cap : Nat) (x : Ac) (w : World) (h60 : (60 : Int) < n) :
    CallsIn Fence.wide 3 Try.prog 8 #[.slice a n cap, .agg #[.int .i64 x.what, .int .u32 x.page, .int .u32 x.frame, .bool x.wr, .bool x.th]] w fun e w' => e = .returned (.bool true) ∧ Below w.heap.size w w' := by
  have h2n := two_new w (.cells #[.int .i64 x.what, .int .u32 x.page, .int .u32 x.frame, .bool x.wr, .bool x.th] 40) (.cells #[.bool false] 4)
  have hB0 : Below w.heap.size w ((w.alloc (.cells #[.int .i64 x.what, .int .u32 x.page, .int .u32 x.frame, .bool x.wr, .bool x.th] 40)).alloc (.cells #[.bool false] 4)) := ((Below.refl _ w).alloc (Nat.le_refl _) _).alloc (by simp) _
  have HR := Lib.hid h2n.2.2
  have HB := Lib.hid hB0
  clear h2n hB0
  refine callsIn_of_wp_marks Try.func8 rfl trivial ?_ rfl
  simp only [Try.ntmps8, List.size_toArray, List.length_cons, List.length_nil, Nat.reduceAdd, Nat.reduceSub, Array.replicate_succ, Array.replicate_zero, List.push_toArray, List.append_toArray, List.nil_append, List.cons_append]
  refine wpIn_wide.2 ?_
  go_wp2_with fail
  refine (works_any _).mono ?_; rintro e w1 ⟨rfl, hg1⟩
  have hr := (hg1.block _ (lt_of_block HR.out) (by simp)).trans HR.out
  have hb := HB.out.grown hg1 HB.out.size (fun k e => by cases e)
  have q1 := cell_of_one hr
  have q2 := free_of_one hr
  have HR2 := Lib.hid (cell_of_one (one_setCell (u := .bool true) hr))
  have HB2 := Lib.hid (hb.grown (grownBy_setCell' w1 (w.heap.size + 1) (.bool true)) hb.size (fun k e => by cases e; omega))
  clear hr hb hg1 HR HB
  go_wp2
  have c := HR2.out
  exact ⟨.bool true, by simp [results, Try.f8, go_sem, c], rfl, HB2.out⟩
theorem tlbCopies_walk (a : Option Addr) (n cap : Nat) (l : Nat → Ac) (x : Ac) (w : World) (hs : SrcX w a n l) (hm : n ≤ 9223372036854775807) :
    Calls Try.prog 8 #[.slice a n cap, .agg #[.int .i64 x.what, .int .u32 x.page, .int .u32 x.frame, .bool x.wr, .bool x.th]] w fun e w' => e = .returned (.bool true) ∧ w.grownBy w' none := by
  by_cases h60 : (60 : Int) < n
  · exact (callsIn_wide.1 (tlbCopies_many a n cap x w h60)).mono fun _ _ h => ⟨h.1, grown_below h.2⟩
  · exact (callsIn_wide.1 (tlbCopies_in a n cap l x w hs hm h60)).mono fun _ _ h => ⟨h.1, grown_below h.2⟩
end Go.Proofs.Ytcahpmlajfbidaa
