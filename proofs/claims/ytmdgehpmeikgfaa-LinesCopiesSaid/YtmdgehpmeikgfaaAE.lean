import Derived.Test.YtmdgehpmeikgfaaAD
import Derived.Laws.Concat
set_option linter.unusedVariables false
namespace Go.Proofs.Ytmdgehpmeikgfaa
open Go.RowKit
/-- Lines, and two lists of bytes beside them. -/
structure OSx (w0 w : World) (B : Nat) (c : Lc) (g : Gh) (vi vo : Value) (li lo : List UInt8) : Prop where
  wk : Wk w0 w B c g
  wg : WG g
  si : Sl w vi li
  so : Sl w vo lo
  ni : ∀ k, rowOf vi = some k → ¬ own c B k
  no : ∀ k, rowOf vo = some k → ¬ own c B k
  nio : ∀ k, rowOf vi = some k → rowOf vo ≠ some k
  wi : ∀ k, rowOf vi = some k → w0.heap.size ≤ k
  wo : ∀ k, rowOf vo = some k → w0.heap.size ≤ k
/-- .. which are what was pushed and what was taken. -/
structure OS (w0 w : World) (B : Nat) (c : Lc) (g : Gh) (vi vo : Value) (li lo : List UInt8) : Prop where
  x : OSx w0 w B c g vi vo li lo
  hi : li = g.pushed
  ho : lo = g.pushed.take g.taken
namespace OSx
variable {w0 w w' : World} {B : Nat} {c c' : Lc} {g g' : Gh} {vi vo v : Value} {li lo l : List UInt8}
theorem kn (h : OSx w0 w B c g vi vo li lo) (hg : w.grownBy w' none) : OSx w0 w' B c g vi vo li lo :=
  ⟨h.wk.keptNone hg, h.wg, h.si.keptNone hg, h.so.keptNone hg, h.ni, h.no, h.nio, h.wi, h.wo⟩
theorem line (h : OSx w0 w B c g vi vo li lo) (p : LPost w w' B c c' g') (hwg : WG g') : OSx w0 w' B c' g' vi vo li lo :=
  ⟨h.wk.step p, hwg, h.si.keeps p.keep (fun k hk h2 => h.ni k hk h2), h.so.keeps p.keep (fun k hk h2 => h.no k hk h2),
    fun k hk hk2 => (p.newl k hk2).elim (h.ni k hk) (fun h1 => by have := h.si.lt k hk; omega), fun k hk hk2 => (p.newl k hk2).elim (h.no k hk) (fun h1 => by have := h.so.lt k hk; omega), h.nio, h.wi, h.wo⟩
theorem done (h : OSx w0 w B c g vi vo li lo) (h1 : li = g.pushed) (h2 : lo = g.pushed.take g.taken) : OS w0 w B c g vi vo li lo := ⟨h, h1, h2⟩
theorem appI (h : OSx w0 w B c g vi vo li lo) (hs : Sl w' v l) (hg : w.grownBy w' (rowOf vi)) (hr : rowOf v = rowOf vi ∨ rowOf v = some w.heap.size) : OSx w0 w' B c g v vo l lo := by
  have hk : Keeps (fun k => rowOf vi = some k) w w' := Keeps.of hg (fun r e => e)
  have hsz := h.wk.grown.size
  refine ⟨⟨h.wk.ls.keeps hk (fun k h1 h2 => h.ni k h2 h1), h.wk.new, (((Keeps.keep (X := fun k => w0.heap.size ≤ k) h.wk.grown).trans (hk.mono (fun i _ e => h.wi i e))).toGrown (fun i hi hx => by omega))⟩, h.wg, hs, h.so.keeps hk (fun k h1 h2 => h.nio k h2 h1), ?_, h.no, ?_, ?_, h.wo⟩
  · intro k hk2
    rcases hr with e | e
    · exact h.ni k (e ▸ hk2)
    · rw [e] at hk2; cases hk2
      exact fun h2 => by have := h.wk.ls.lt _ h2; omega
  · intro k hk2
    rcases hr with e | e
    · exact h.nio k (e ▸ hk2)
    · rw [e] at hk2; cases hk2
      exact fun h2 => by have := h.so.lt _ h2; omega
  · intro k hk2
    rcases hr with e | e
    · exact h.wi k (e ▸ hk2)
    · rw [e] at hk2; cases hk2
      exact hsz
theorem appO (h : OSx w0 w B c g vi vo li lo) (hs : Sl w' v l) (hg : w.grownBy w' (rowOf vo)) (hr : rowOf v = rowOf vo ∨ rowOf v = some w.heap.size) : OSx w0 w' B c g vi v li l := by
  have hk : Keeps (fun k => rowOf vo = some k) w w' := Keeps.of hg (fun r e => e)
  have hsz := h.wk.grown.size
  refine ⟨⟨h.wk.ls.keeps hk (fun k h1 h2 => h.no k h2 h1), h.wk.new, (((Keeps.keep (X := fun k => w0.heap.size ≤ k) h.wk.grown).trans (hk.mono (fun i _ e => h.wo i e))).toGrown (fun i hi hx => by omega))⟩, h.wg, h.si.keeps hk (fun k h1 h2 => h.nio k h1 h2), hs, h.ni, ?_, ?_, h.wi, ?_⟩
  · intro k hk2
    rcases hr with e | e
    · exact h.no k (e ▸ hk2)
    · rw [e] at hk2; cases hk2
      exact fun h2 => by have := h.wk.ls.lt _ h2; omega
  · intro k hk1 hk2
    rcases hr with e | e
    · exact h.nio k hk1 (e ▸ hk2)
    · rw [e] at hk2; cases hk2
      have := h.si.lt _ hk1; omega
  · intro k hk2
    rcases hr with e | e
    · exact h.wo k (e ▸ hk2)
    · rw [e] at hk2; cases hk2
      exact hsz
end OSx
namespace OS
variable {w0 w w' : World} {B : Nat} {c c' : Lc} {g g' : Gh} {vi vo v : Value} {li lo l : List UInt8}
theorem wk (h : OS w0 w B c g vi vo li lo) : Wk w0 w B c g := h.x.wk
theorem wg (h : OS w0 w B c g vi vo li lo) : WG g := h.x.wg
theorem si (h : OS w0 w B c g vi vo li lo) : Sl w vi li := h.x.si
theorem so (h : OS w0 w B c g vi vo li lo) : Sl w vo lo := h.x.so
theorem kn (h : OS w0 w B c g vi vo li lo) (hg : w.grownBy w' none) : OS w0 w' B c g vi vo li lo := ⟨h.x.kn hg, h.hi, h.ho⟩
theorem line (h : OS w0 w B c g vi vo li lo) (p : LPost w w' B c c' g') (hp : g'.pushed = g.pushed) (ht : g'.taken = g.taken) (hwg : WG g') : OS w0 w' B c' g' vi vo li lo :=
  ⟨h.x.line p hwg, by rw [hp]; exact h.hi, by rw [hp, ht]; exact h.ho⟩
end OS
theorem Gh.raise_pushed (g : Gh) (line : Int) (up : Bool) : (g.raise line up).pushed = g.pushed := by
  unfold Gh.raise; repeat' split
  all_goals rfl
theorem Gh.raise_taken (g : Gh) (line : Int) (up : Bool) : (g.raise line up).taken = g.taken := by
  unfold Gh.raise; repeat' split
  all_goals rfl
theorem Gh.raise_told (g : Gh) (line : Int) (up : Bool) : (g.raise line up).told = g.told := by
  unfold Gh.raise; repeat' split
  all_goals rfl
theorem WG.raise {g : Gh} (h : WG g) (line : Int) (up : Bool) : WG (g.raise line up) := by
  obtain ⟨h1, h2, h3, h4⟩ := h
  unfold Gh.raise; repeat' split
  all_goals exact ⟨h1, h2, h3, h4⟩
theorem cat3 (w : World) (x y z : List UInt8) (h : x ++ y = z) (hx : x.length ≤ 1000000) (hy : y.length ≤ 1000000) : (binOp .add 9 (.string ⟨x.toArray⟩) (.string ⟨y.toArray⟩)).run Try.prog w = .ok (.string ⟨z.toArray⟩) w := by
  subst h
  simp only [binOp]
  exact run_string_add_lists w x y (by omega) (by omega)
theorem order_plain : ∀ (m : Fin 16) (b0 b1 b2 b3 : Bool), ((pend m.val (wseq b0 b1 b2 b3 4)).isSome = decide (setL (wseq b0 b1 b2 b3 4) &&& m.val ≠ 0)) ∧
    ((pend m.val (wseq b0 b1 b2 b3 4)).isSome = true → ((pend m.val (wseq b0 b1 b2 b3 4)).getD 0 < 4 ∧ (setL (wseq b0 b1 b2 b3 4) &&& m.val) / 2 ^ ((pend m.val (wseq b0 b1 b2 b3 4)).getD 0) % 2 = 1 ∧ (setL (wseq b0 b1 b2 b3 4) &&& m.val) % 2 ^ ((pend m.val (wseq b0 b1 b2 b3 4)).getD 0) = 0)) ∧ setL (wseq b0 b1 b2 b3 4) < 16 := by
  decide +kernel
set_option maxRecDepth 100000 in
set_option maxHeartbeats 32000000 in
theorem linesOrder_walk (a : Option Addr) (n cap : Nat) (l : Nat → Ac) (bss : Nat → List UInt8) (now : Int) (w : World) (hs : SrcX w a n l bss) (hm : n ≤ 9223372036854775807) :
    Calls Try.prog 4 #[.slice a n cap, .int .i64 now] w fun e w' => e = .returned (.bool true) ∧ w.grownBy w' none := by
  by_cases hc : cost l n ≤ 5000
  rotate_left
  · have hd : decide (cost l n ≤ 5000) = false := by simp [hc]
    have C := few_any a n cap l bss w hs hm
    rw [hd] at C
    clear hs hd hc
    go_enter Try.func4, Try.ntmps4
    go_wp2_with fail
    refine C.mono ?_; rintro e w' ⟨rfl, rfl⟩
    clear C
    go_wp2_with fail
    refine (works_any _).mono ?_; rintro e w1 ⟨rfl, hg1⟩
    go_wp2
    go_ret
    exact ⟨rfl, hg1⟩
  have hd : decide (cost l n ≤ 5000) = true := by simp [hc]
  have C := few_any a n cap l bss w hs hm
  rw [hd] at C
  have hcn : n ≤ 125 := by have := cost_ge l n; omega
  have hbl : ∀ j, j < n → (bss j).length ≤ 5000 := fun j hj => by
    rcases id hs with h | ⟨b, o, _, h⟩
    · omega
    · have := cost_bn l j n hj
      rw [(h j hj).2.1] at this
      omega
  clear hd hc
  go_enter Try.func4, Try.ntmps4
  go_wp2_with fail
  refine C.mono ?_; rintro e w' ⟨rfl, rfl⟩
  go_wp2_with fail
  refine (new_any _).mono ?_; rintro e w1 ⟨B, rfl, hB, hT1, hg1⟩
  have HW1 := Lib.hid (Wk.start hB hT1 hg1)
  clear hT1 hg1 C
  go_wp2
  go_loopw [6, 7, 8] (fun vi vo i wr => ∃ k : Nat, k ≤ n ∧ i = .int .i64 k ∧ ∃ c g li lo ai ci ao co, vi = .slice ai (List.length li) ci ∧ vo = .slice ao (List.length lo) co ∧ OS w wr B c g vi vo li lo ∧ g.pushed.length ≤ 256 * k ∧ g.told.length ≤ k) (fun _ _ i _ => n - (intOf i).toNat)
  case atStart => exact ⟨0, Nat.zero_le _, rfl, .new, .zero, [], [], none, 0, none, 0, rfl, rfl, ⟨⟨HW1.out, ⟨by show (0 : Nat) < 4294967296; decide, by show (0 : Nat) < 16; decide, Nat.le_refl _, by show (0 : Nat) - 0 ≤ 256; decide⟩, .inl ⟨rfl, rfl⟩, .inl ⟨rfl, rfl⟩, (fun k h => by cases h), (fun k h => by cases h), (fun k h => by cases h), (fun k h => by cases h), (fun k h => by cases h)⟩, rfl, rfl⟩, Nat.le_refl _, Nat.le_refl _⟩
  case round =>
    obtain ⟨k, hk, rfl, c, g, li, lo, ai, ci, ao, co, rfl, rfl, hO, hbp, hbt⟩ := hrel
    clear HW1
    by_cases hlt : k < n
    rotate_left
    · obtain rfl : k = n := by omega
      have HO := Lib.hid hO
      clear hO hs
      have hord := order_plain ⟨g.mask, HO.out.wg.ms⟩ (decide (0 < g.alarm) && decide ((g.alarm : Int) ≤ now)) (decide (g.taken < g.pushed.length)) g.f2 g.f3
      change ((pend g.mask (g.wantL now)).isSome = decide (setL (g.wantL now) &&& g.mask ≠ 0)) ∧ ((pend g.mask (g.wantL now)).isSome = true → ((pend g.mask (g.wantL now)).getD 0 < 4 ∧ (setL (g.wantL now) &&& g.mask) / 2 ^ ((pend g.mask (g.wantL now)).getD 0) % 2 = 1 ∧ (setL (g.wantL now) &&& g.mask) % 2 ^ ((pend g.mask (g.wantL now)).getD 0) = 0)) ∧ setL (g.wantL now) < 16 at hord
      have CW := wants_ls B c g now wr HO.out.wk.ls HO.out.wg
      have CP := fun W (h : LS W B c g) => pending_ls B c g now W h HO.out.wg
      have hms := HO.out.wg.ms
      generalize setL (g.wantL now) = sl at hord CW
      generalize hpd : (pend g.mask (g.wantL now)).isSome = ok at hord CP
      generalize hpn : (pend g.mask (g.wantL now)).getD 0 = pn at hord CP
      obtain ⟨ho1, ho2, ho3⟩ := hord
      have hand := u32_and_nat sl g.mask (by omega) (by omega)
      generalize hlf : sl &&& g.mask = lf at ho1 ho2 hand
      have hlf4 : lf < 4294967296 := by rw [← hlf]; exact Nat.lt_of_le_of_lt Nat.and_le_left (by omega)
      clear hpd hpn hlf ho3
      go_wp2_with fail
      refine CW.mono ?_; rintro e w3 ⟨rfl, hg3⟩
      have HO3 := Lib.hid (HO.out.kn hg3)
      clear hg3 CW
      go_wp2_with fail
      refine (mask_ls B c g (g.mask : Nat) HO3.out.wk.ls rfl).mono ?_; rintro e w' ⟨rfl, rfl⟩
      go_wp2_with fail
      refine (CP _ HO3.out.wk.ls).mono ?_; rintro e w5 ⟨rfl, hg5⟩
      have HO5 := Lib.hid (HO3.out.kn hg5)
      clear hg5 CP HO3 HO
      cases ok
      · have hz : lf = 0 := by simpa using ho1
        subst hz
        clear ho1 ho2
        go_wp2_with fail
        refine (works_any _).mono ?_; rintro e w6 ⟨rfl, hg6⟩
        have HG := Lib.hid (HO5.out.wk.grown.trans hg6)
        clear hg6
        go_wp2
        go_ret
        exact ⟨rfl, HG.out⟩
      · have hz : lf ≠ 0 := by simpa using ho1
        obtain ⟨hp4, hp1, hp0⟩ := ho2 rfl
        have hz' : ((lf : Int) != 0) = true := by simp [hz]
        clear ho1 ho2
        obtain rfl | rfl | rfl | rfl : pn = 0 ∨ pn = 1 ∨ pn = 2 ∨ pn = 3 := by omega
        · have e1 : (((lf : Int) % 2) == 1) = true := by simp at hp1 ⊢; omega
          have e0 : ((lf : Int) % 1 == 0) = true := by simp at hp0 ⊢; try omega
          clear hp1 hp0
          go_wp2_with fail
          refine (works_any _).mono ?_; rintro e w6 ⟨rfl, hg6⟩
          have HG := Lib.hid (HO5.out.wk.grown.trans hg6)
          clear hg6
          go_wp2
          go_ret
          exact ⟨rfl, HG.out⟩
        · have e1 : (((lf : Int) / 2 % 2) == 1) = true := by simp at hp1 ⊢; omega
          have e0 : ((lf : Int) % 2 == 0) = true := by simp at hp0 ⊢; try omega
          clear hp1 hp0
          go_wp2_with fail
          refine (works_any _).mono ?_; rintro e w6 ⟨rfl, hg6⟩
          have HG := Lib.hid (HO5.out.wk.grown.trans hg6)
          clear hg6
          go_wp2
          go_ret
          exact ⟨rfl, HG.out⟩
        · have e1 : (((lf : Int) / 4 % 2) == 1) = true := by simp at hp1 ⊢; omega
          have e0 : ((lf : Int) % 4 == 0) = true := by simp at hp0 ⊢; try omega
          clear hp1 hp0
          go_wp2_with fail
          refine (works_any _).mono ?_; rintro e w6 ⟨rfl, hg6⟩
          have HG := Lib.hid (HO5.out.wk.grown.trans hg6)
          clear hg6
          go_wp2
          go_ret
          exact ⟨rfl, HG.out⟩
        · have e1 : (((lf : Int) / 8 % 2) == 1) = true := by simp at hp1 ⊢; omega
          have e0 : ((lf : Int) % 8 == 0) = true := by simp at hp0 ⊢; try omega
          clear hp1 hp0
          go_wp2_with fail
          refine (works_any _).mono ?_; rintro e w6 ⟨rfl, hg6⟩
          have HG := Lib.hid (HO5.out.wk.grown.trans hg6)
          clear hg6
          go_wp2
          go_ret
          exact ⟨rfl, HG.out⟩
    have hli0 : li.length ≤ g.pushed.length := by rw [hO.hi]; exact Nat.le_refl _
    have hlo0' : lo.length ≤ g.pushed.length := by rw [hO.ho, List.length_take]; omega
    obtain ⟨b, o, rfl, hcs⟩ := hs.resolve_left (by omega)
    obtain ⟨hx1, hx2, hx3, hwd, hx5⟩ := hcs k hlt
    have hbs := hbl k hlt
    have hb0 : b < w.heap.size := World.block_lt_of_cell? w _ (hx1 0 _ rfl)
    have hwr := hO.wk.grown
    have hRx := rangeAt_of hx1 (hwr.block b hb0 (by simp))
    have hxlt : bss k ≠ [] → ∀ b' o', (l k).ba = some ⟨b', o', none⟩ → b' < w.heap.size := fun he b' o' e => Go.Proofs.Ytmdgehpmeikgfaa.Src.lt (src_at e hx3) he
    have hSx := hx3.keptNone hwr
    have hlt' : (k : Int) < (n : Nat) := by omega
    generalize l k = x at *
    generalize bss k = bs at *
    have HRX := Lib.hid hRx
    have HBN := Lib.hid hx2
    clear hx2
    have HO := Lib.hid hO
    have HSX := Lib.hid hSx
    have hga := World.grownBy_alloc wr (.cells (Ac.mk 0 0 none 0 0 0 0 false).cells 49) none
    have HNX := Lib.hid (heap_alloc_new wr (.cells (Ac.mk 0 0 none 0 0 0 0 false).cells 49))
    clear hx1 hx3 hx5 hO hSx hcs hs hwr hRx
    go_wp2_with (with_reducible refine hold_ld 49 _ rfl ?_)
    apply Lib.hid
    refine wpList_val (by rfl) (exec_ldm (x := .tmp 31) 49 rfl b (o + k * 6) rfl x.cells.toList _ HRX.out Try.underlying49 rfl Try.size49) ?_
    have HOa := Lib.hid (HO.out.kn hga)
    have HSa := Lib.hid (HSX.out.keptNone hga)
    clear hga
    go_wp2_with (with_reducible refine hold_st 49 _ _ rfl ?_)
    apply Lib.hid
    with_reducible refine wpList_store_all rfl 49 _ _ rfl _ ?cs4901 ?hx4901 ?hy4901 _ _ HNX.out ?hf4901 _ ?hl4901 Try.size49 ?h14901 ?_
    case hy4901 => exact rfl
    case hx4901 => exact rfl
    case hf4901 => exact rfl
    case hl4901 => exact rfl
    case h14901 => simp [allOne, Value.oneCell']
    intro w2 hb2 hg2
    have hnC : ¬ own c B wr.heap.size := fun h => by have := HO.out.wk.ls.lt _ h; omega
    have HNC := Lib.hid hnC
    have hk2 : Keeps (fun k => k = wr.heap.size) (wr.alloc (.cells (Ac.mk 0 0 none 0 0 0 0 false).cells 49)) w2 := Keeps.row hg2 rfl
    have HOx := Lib.hid (show OS w w2 B c g (.slice ai li.length ci) (.slice ao lo.length co) li lo from
      ⟨⟨⟨HOa.out.wk.ls.keeps hk2 (fun k hk e => HNC.out (e ▸ hk)), HOa.out.wk.new, grown_new HOa.out.wk.grown hg2 (HO.out.wk.grown.size)⟩, HOa.out.wg, HOa.out.si.keeps hk2 (fun k hk e => by have := HO.out.si.lt k hk; omega), HOa.out.so.keeps hk2 (fun k hk e => by have := HO.out.so.lt k hk; omega), HOa.out.x.ni, HOa.out.x.no, HOa.out.x.nio, HOa.out.x.wi, HOa.out.x.wo⟩, HOa.out.hi, HOa.out.ho⟩)
    have HSx := Lib.hid (show Go.Proofs.Ytmdgehpmeikgfaa.Src w2 x.ba bs from (Classical.em (bs = [])).elim .inl (fun he => Go.Proofs.Ytmdgehpmeikgfaa.Src.keeps HSa.out hk2 (fun b' o' e h => by have := hxlt he b' o' e; have := HO.out.wk.grown.size; omega)))
    have HCX := Lib.hid (show w2.heap[wr.heap.size]? = some (.cells x.cells 49 (0, 0)) from hb2)
    have hwz := HO.out.wk.grown.size
    clear hb2 hg2 hk2 hnC HNX HRX HO HSX HOa HSa
    have hx2 := HBN.out
    obtain ⟨what, line, ba, bn, bc, byte, word, up⟩ := x
    simp only at hx2 hwd hxlt
    clear HBN
    subst hx2
    by_cases h0 : what = 0
    · subst h0
      have c0 := cells_all HCX.out 0
      have c1 := cells_all HCX.out 1
      have c2 := cells_all HCX.out 2
      have c3' := cells_all HCX.out 3
      have c4 := cells_all HCX.out 4
      have c5 := cells_all HCX.out 5
      go_wp2_with fail
      refine (ls_setAlarm B c g word _ HOx.out.wk.ls).mono ?_; rintro e w3 ⟨rfl, c3, hp⟩
      obtain ⟨g3, hg3⟩ : ∃ g3, g3 = { g with alarm := word } := ⟨_, rfl⟩
      rw [← hg3] at hp
      have HO3 := Lib.hid (show OS w w3 B c3 g3 (.slice ai li.length ci) (.slice ao lo.length co) li lo from HOx.out.line hp (by rw [hg3]) (by rw [hg3]) (by rw [hg3]; exact ⟨hwd, HOx.out.wg.ms, HOx.out.wg.tk, HOx.out.wg.wt⟩))
      have hbp3 : g3.pushed.length ≤ 256 * (k + 1) := by rw [hg3]; show g.pushed.length ≤ _; omega
      have hbt3 : g3.told.length ≤ k + 1 := by rw [hg3]; show g.told.length ≤ _; omega
      have HG3 := Lib.hid hg3
      clear hp hg3 HOx HCX
      obtain ⟨q, hqe⟩ : ∃ q, q = g3.pushed.drop g3.taken := ⟨_, rfl⟩
      have hli3 := HO3.out.hi
      have hlo3 := HO3.out.ho
      have hcat : lo ++ q = li := by rw [hlo3, hqe, hli3]; exact List.take_append_drop _ _
      have hq0 := HO3.out.wk.ls.q
      rw [← hqe] at hq0
      have HQ := Lib.hid hq0
      have htk3 := HO3.out.wg.tk
      have hqn : q.length = g3.pushed.length - g3.taken := by rw [hqe]; exact List.length_drop
      have hlin : li.length = g3.pushed.length := by rw [hli3]
      have hlon : lo.length = g3.taken := by rw [hlo3, List.length_take]; omega
      have hql : q.length ≤ 1000000 := by omega
      have hws : IntKind.i64.wrap ((li.length : Int) - (lo.length : Nat)) = (q.length : Nat) := by rw [IntKind.wrap_i64]; omega
      have hl1 : lo.length ≤ 1000000 := by omega
      have HNC1 := Lib.hid (show ¬ (9223372036854775807 < lo.length + q.length) by omega)
      have HNC2 := Lib.hid (show (ByteArray.mk lo.toArray ++ ByteArray.mk q.toArray) = ByteArray.mk li.toArray by rw [ByteArray.mk_append_mk, hcat])
      have HX0 := Lib.hid hqe
      have HX1 := Lib.hid hli3
      have HX2 := Lib.hid hlo3
      clear hq0 hqe hli3 hlo3 hlin hlon hqn htk3 hcat
      go_wp2
      refine reg_open (none) (n := 19) rfl (by kernel_rfl) ?_
      refine reg_take 0 (some 96) (v := ?_) rfl rfl (by kernel_rfl) (by kernel_rfl) (by kernel_rfl) (fun _ _ _ h => h) (by rfl) ?_ ?_
      rotate_left
      · intro W hW; go_simp; first | done | with_reducible rfl
      try simp only [Act.put, List.setIfInBounds_toArray, List.set_cons_zero, List.set_cons_succ]
      refine reg_take 1 (some 97) (v := ?_) rfl rfl (by kernel_rfl) (by kernel_rfl) (by kernel_rfl) (fun _ _ _ h => h) (by rfl) ?_ ?_
      rotate_left
      · intro W hW; have k := conv_sl (HO3.out.so.keptNone (drewl hW)); go_simp; first | done | with_reducible rfl
      try simp only [Act.put, List.setIfInBounds_toArray, List.set_cons_zero, List.set_cons_succ]
      refine reg_take 2 (some 98) (v := ?_) rfl rfl (by kernel_rfl) (by kernel_rfl) (by kernel_rfl) (fun _ _ _ h => h) (by rfl) ?_ ?_
      rotate_left
      · intro W hW; go_simp; first | done | with_reducible rfl
      try simp only [Act.put, List.setIfInBounds_toArray, List.set_cons_zero, List.set_cons_succ]
      refine reg_take 6 (some 102) (v := ?_) rfl rfl (by kernel_rfl) (by kernel_rfl) (by kernel_rfl) (fun _ _ _ h => h) (by rfl) ?_ ?_
      rotate_left
      · intro W hW; go_simp; first | done | with_reducible rfl
      try simp only [Act.put, List.setIfInBounds_toArray, List.set_cons_zero, List.set_cons_succ]
      refine reg_take 7 (some 103) (v := ?_) rfl rfl (by kernel_rfl) (by kernel_rfl) (by kernel_rfl) (fun _ _ _ h => h) (by rfl) ?_ ?_
      rotate_left
      · intro W hW; have k := conv_sl (HO3.out.si.keptNone (drewl hW)); go_simp; first | done | with_reducible rfl
      try simp only [Act.put, List.setIfInBounds_toArray, List.set_cons_zero, List.set_cons_succ]
      refine wpAnyH_ready (rs := [3]) (by kernel_rfl) (by simp) ?_
      refine (AllReadyH.cons (o := { dst := some 99, op := Op.call { callee := Callee.value (Operand.func 27), args := #[Operand.tmp 98], argTypes := #[23] }, type := 27, pos := "law.go:192", after := #[{ on := 2, ground := Ground.data }], guard := none }) rfl (fun K hK => ?_) AllReadyH.nil)
      go_simp
      refine (queue_sl B c3 q _ HO3.out.wk.ls.drew.lk HQ.out hql).mono ?_; rintro e u1 ⟨a1, cap1, rfl, hQ1, h1⟩
      refine reg_next hK h1 ?_
      clear hK K
      try simp only [Act.put, List.setIfInBounds_toArray, List.set_cons_zero, List.set_cons_succ]
      refine reg_take 4 (some 100) (v := ?_) rfl rfl (by kernel_rfl) (by kernel_rfl) (by kernel_rfl) (fun _ _ _ h => h) (by rfl) ?_ ?_
      rotate_left
      · intro W hW; have k := conv_sl (hQ1.keptNone hW); go_simp; first | done | with_reducible rfl
      try simp only [Act.put, List.setIfInBounds_toArray, List.set_cons_zero, List.set_cons_succ]
      refine reg_take 5 (some 101) (v := ?_) rfl rfl (by kernel_rfl) (by kernel_rfl) (by kernel_rfl) (fun _ _ _ h => h) (by rfl) ?_ ?_
      rotate_left
      · intro W hW; have k1 := HNC1.out; have k2 := HNC2.out; go_simp; first | done | with_reducible rfl
      try simp only [Act.put, List.setIfInBounds_toArray, List.set_cons_zero, List.set_cons_succ]
      refine reg_take 8 (some 104) (v := ?_) rfl rfl (by kernel_rfl) (by kernel_rfl) (by kernel_rfl) (fun _ _ _ h => h) (by rfl) ?_ ?_
      rotate_left
      · intro W hW; go_simp; first | done | with_reducible rfl
      try simp only [Act.put, List.setIfInBounds_toArray, List.set_cons_zero, List.set_cons_succ]
      refine reg_take 9 (some 105) (v := ?_) rfl rfl (by kernel_rfl) (by kernel_rfl) (by kernel_rfl) (fun _ _ _ h => h) (by rfl) ?_ ?_
      rotate_left
      · intro W hW; go_simp; first | done | with_reducible rfl
      try simp only [Act.put, List.setIfInBounds_toArray, List.set_cons_zero, List.set_cons_succ]
      refine reg_take 10 (some 106) (v := ?_) rfl rfl (by kernel_rfl) (by kernel_rfl) (by kernel_rfl) (fun _ _ _ h => h) (by rfl) ?_ ?_
      rotate_left
      · intro W hW; go_simp; first | done | with_reducible rfl
      try simp only [Act.put, List.setIfInBounds_toArray, List.set_cons_zero, List.set_cons_succ]
      refine reg_take 12 (some 108) (v := ?_) rfl rfl (by kernel_rfl) (by kernel_rfl) (by kernel_rfl) (fun _ _ _ h => h) (by rfl) ?_ ?_
      rotate_left
      · intro W hW; go_simp; first | done | with_reducible rfl
      try simp only [Act.put, List.setIfInBounds_toArray, List.set_cons_zero, List.set_cons_succ]
      refine reg_take 13 (some 109) (v := ?_) rfl rfl (by kernel_rfl) (by kernel_rfl) (by kernel_rfl) (fun _ _ _ h => h) (by rfl) ?_ ?_
      rotate_left
      · intro W hW; go_simp; first | done | with_reducible rfl
      try simp only [Act.put, List.setIfInBounds_toArray, List.set_cons_zero, List.set_cons_succ]
      refine reg_take 14 (some 110) (v := ?_) rfl rfl (by kernel_rfl) (by kernel_rfl) (by kernel_rfl) (fun _ _ _ h => h) (by rfl) ?_ ?_
      rotate_left
      · intro W hW; go_simp; first | done | with_reducible rfl
      try simp only [Act.put, List.setIfInBounds_toArray, List.set_cons_zero, List.set_cons_succ]
      refine reg_take 15 (some 111) (v := ?_) rfl rfl (by kernel_rfl) (by kernel_rfl) (by kernel_rfl) (fun _ _ _ h => h) (by rfl) ?_ ?_
      rotate_left
      · intro W hW; go_simp; first | done | with_reducible rfl
      try simp only [Act.put, List.setIfInBounds_toArray, List.set_cons_zero, List.set_cons_succ]
      refine reg_take 16 (some 112) (v := ?_) rfl rfl (by kernel_rfl) (by kernel_rfl) (by kernel_rfl) (fun _ _ _ h => h) (by rfl) ?_ ?_
      rotate_left
      · intro W hW; go_simp; first | done | with_reducible rfl
      try simp only [Act.put, List.setIfInBounds_toArray, List.set_cons_zero, List.set_cons_succ]
      refine wpAnyH_ready (rs := [11]) (by kernel_rfl) (by simp) ?_
      refine (AllReadyH.cons (o := { dst := some 107, op := Op.call { callee := Callee.value (Operand.func 28), args := #[Operand.tmp 106], argTypes := #[23] }, type := 3, pos := "law.go:192", after := #[{ on := 10, ground := Ground.data }, { on := 9, ground := Ground.chain }, { on := 9, ground := Ground.guard }], guard := some (9, false) }) rfl (fun K hK => ?_) AllReadyH.nil)
      go_simp
      refine (waits_lk B c3 q _ (HO3.out.wk.ls.keptNone (drewl h1)).lk (HQ.out.keptNone (drewl h1)) hql).mono ?_; rintro e u2 ⟨rfl, h2⟩
      refine reg_next hK h2 ?_
      clear hK K
      try simp only [Act.put, List.setIfInBounds_toArray, List.set_cons_zero, List.set_cons_succ]
      refine reg_take 17 (some 113) (v := ?_) rfl rfl (by kernel_rfl) (by kernel_rfl) (by kernel_rfl) (fun _ _ _ h => h) (by rfl) ?_ ?_
      rotate_left
      · intro W hW; go_simp; first | done | with_reducible rfl
      try simp only [Act.put, List.setIfInBounds_toArray, List.set_cons_zero, List.set_cons_succ]
      refine reg_take 18 (some 114) (v := ?_) rfl rfl (by kernel_rfl) (by kernel_rfl) (by kernel_rfl) (fun _ _ _ h => h) (by rfl) ?_ ?_
      rotate_left
      · intro W hW; go_simp; first | done | with_reducible rfl
      try simp only [Act.put, List.setIfInBounds_toArray, List.set_cons_zero, List.set_cons_succ]
      refine wpAnyH_done (by kernel_rfl) ?_ _
      have HO4 := Lib.hid (HO3.out.kn (drewl (h1.trans h2)))
      clear h1 h2 hQ1
      go_wp2
      go_roundw
      case rel => exact ⟨k + 1, by omega, by simp, c3, g3, li, lo, _, _, _, _, rfl, rfl, HO4.out, by omega, by omega⟩
      case measure => simp [intOf]; omega
    by_cases h1 : what = 1
    · subst h1
      by_cases hfit : g.pushed.length - g.taken + bs.length ≤ 256
      rotate_left
      · have c0 := cells_all HCX.out 0
        have c1 := cells_all HCX.out 1
        have c2 := cells_all HCX.out 2
        have c3' := cells_all HCX.out 3
        have c4 := cells_all HCX.out 4
        have c5 := cells_all HCX.out 5
        have hfit' : 256 < g.pushed.length - g.taken + bs.length := by omega
        go_wp2_with fail
        refine (ls_push_long B c g bs.length ba bc _ HOx.out.wk.ls HOx.out.wg hfit').mono ?_; rintro e w3 ⟨rfl, rfl⟩
        go_wp2_with fail
        refine (num_any _ _).mono ?_; rintro e w' ⟨rfl, rfl⟩
        have HO3 := HOx
        have hbp3 : g.pushed.length ≤ 256 * (k + 1) := by omega
        have hbt3 : g.told.length ≤ k + 1 := by omega
        clear HOx HCX
        obtain ⟨q, hqe⟩ : ∃ q, q = g.pushed.drop g.taken := ⟨_, rfl⟩
        have hli3 := HO3.out.hi
        have hlo3 := HO3.out.ho
        have hcat : lo ++ q = li := by rw [hlo3, hqe, hli3]; exact List.take_append_drop _ _
        have hq0 := HO3.out.wk.ls.q
        rw [← hqe] at hq0
        have HQ := Lib.hid hq0
        have htk3 := HO3.out.wg.tk
        have hqn : q.length = g.pushed.length - g.taken := by rw [hqe]; exact List.length_drop
        have hlin : li.length = g.pushed.length := by rw [hli3]
        have hlon : lo.length = g.taken := by rw [hlo3, List.length_take]; omega
        have hql : q.length ≤ 1000000 := by omega
        have hws : IntKind.i64.wrap ((li.length : Int) - (lo.length : Nat)) = (q.length : Nat) := by rw [IntKind.wrap_i64]; omega
        have hl1 : lo.length ≤ 1000000 := by omega
        have HNC1 := Lib.hid (show ¬ (9223372036854775807 < lo.length + q.length) by omega)
        have HNC2 := Lib.hid (show (ByteArray.mk lo.toArray ++ ByteArray.mk q.toArray) = ByteArray.mk li.toArray by rw [ByteArray.mk_append_mk, hcat])
        have HX0 := Lib.hid hqe
        have HX1 := Lib.hid hli3
        have HX2 := Lib.hid hlo3
        clear hq0 hqe hli3 hlo3 hlin hlon hqn htk3 hcat
        go_wp2
        refine reg_open (none) (n := 19) rfl (by kernel_rfl) ?_
        refine reg_take 0 (some 96) (v := ?_) rfl rfl (by kernel_rfl) (by kernel_rfl) (by kernel_rfl) (fun _ _ _ h => h) (by rfl) ?_ ?_
        rotate_left
        · intro W hW; go_simp; first | done | with_reducible rfl
        try simp only [Act.put, List.setIfInBounds_toArray, List.set_cons_zero, List.set_cons_succ]
        refine reg_take 1 (some 97) (v := ?_) rfl rfl (by kernel_rfl) (by kernel_rfl) (by kernel_rfl) (fun _ _ _ h => h) (by rfl) ?_ ?_
        rotate_left
        · intro W hW; have k := conv_sl (HO3.out.so.keptNone (drewl hW)); go_simp; first | done | with_reducible rfl
        try simp only [Act.put, List.setIfInBounds_toArray, List.set_cons_zero, List.set_cons_succ]
        refine reg_take 2 (some 98) (v := ?_) rfl rfl (by kernel_rfl) (by kernel_rfl) (by kernel_rfl) (fun _ _ _ h => h) (by rfl) ?_ ?_
        rotate_left
        · intro W hW; go_simp; first | done | with_reducible rfl
        try simp only [Act.put, List.setIfInBounds_toArray, List.set_cons_zero, List.set_cons_succ]
        refine reg_take 6 (some 102) (v := ?_) rfl rfl (by kernel_rfl) (by kernel_rfl) (by kernel_rfl) (fun _ _ _ h => h) (by rfl) ?_ ?_
        rotate_left
        · intro W hW; go_simp; first | done | with_reducible rfl
        try simp only [Act.put, List.setIfInBounds_toArray, List.set_cons_zero, List.set_cons_succ]
        refine reg_take 7 (some 103) (v := ?_) rfl rfl (by kernel_rfl) (by kernel_rfl) (by kernel_rfl) (fun _ _ _ h => h) (by rfl) ?_ ?_
        rotate_left
        · intro W hW; have k := conv_sl (HO3.out.si.keptNone (drewl hW)); go_simp; first | done | with_reducible rfl
        try simp only [Act.put, List.setIfInBounds_toArray, List.set_cons_zero, List.set_cons_succ]
        refine wpAnyH_ready (rs := [3]) (by kernel_rfl) (by simp) ?_
        refine (AllReadyH.cons (o := { dst := some 99, op := Op.call { callee := Callee.value (Operand.func 27), args := #[Operand.tmp 98], argTypes := #[23] }, type := 27, pos := "law.go:192", after := #[{ on := 2, ground := Ground.data }], guard := none }) rfl (fun K hK => ?_) AllReadyH.nil)
        go_simp
        refine (queue_sl B c q _ HO3.out.wk.ls.drew.lk HQ.out hql).mono ?_; rintro e u1 ⟨a1, cap1, rfl, hQ1, h1⟩
        refine reg_next hK h1 ?_
        clear hK K
        try simp only [Act.put, List.setIfInBounds_toArray, List.set_cons_zero, List.set_cons_succ]
        refine reg_take 4 (some 100) (v := ?_) rfl rfl (by kernel_rfl) (by kernel_rfl) (by kernel_rfl) (fun _ _ _ h => h) (by rfl) ?_ ?_
        rotate_left
        · intro W hW; have k := conv_sl (hQ1.keptNone hW); go_simp; first | done | with_reducible rfl
        try simp only [Act.put, List.setIfInBounds_toArray, List.set_cons_zero, List.set_cons_succ]
        refine reg_take 5 (some 101) (v := ?_) rfl rfl (by kernel_rfl) (by kernel_rfl) (by kernel_rfl) (fun _ _ _ h => h) (by rfl) ?_ ?_
        rotate_left
        · intro W hW; have k1 := HNC1.out; have k2 := HNC2.out; go_simp; first | done | with_reducible rfl
        try simp only [Act.put, List.setIfInBounds_toArray, List.set_cons_zero, List.set_cons_succ]
        refine reg_take 8 (some 104) (v := ?_) rfl rfl (by kernel_rfl) (by kernel_rfl) (by kernel_rfl) (fun _ _ _ h => h) (by rfl) ?_ ?_
        rotate_left
        · intro W hW; go_simp; first | done | with_reducible rfl
        try simp only [Act.put, List.setIfInBounds_toArray, List.set_cons_zero, List.set_cons_succ]
        refine reg_take 9 (some 105) (v := ?_) rfl rfl (by kernel_rfl) (by kernel_rfl) (by kernel_rfl) (fun _ _ _ h => h) (by rfl) ?_ ?_
        rotate_left
        · intro W hW; go_simp; first | done | with_reducible rfl
        try simp only [Act.put, List.setIfInBounds_toArray, List.set_cons_zero, List.set_cons_succ]
        refine reg_take 10 (some 106) (v := ?_) rfl rfl (by kernel_rfl) (by kernel_rfl) (by kernel_rfl) (fun _ _ _ h => h) (by rfl) ?_ ?_
        rotate_left
        · intro W hW; go_simp; first | done | with_reducible rfl
        try simp only [Act.put, List.setIfInBounds_toArray, List.set_cons_zero, List.set_cons_succ]
        refine reg_take 12 (some 108) (v := ?_) rfl rfl (by kernel_rfl) (by kernel_rfl) (by kernel_rfl) (fun _ _ _ h => h) (by rfl) ?_ ?_
        rotate_left
        · intro W hW; go_simp; first | done | with_reducible rfl
        try simp only [Act.put, List.setIfInBounds_toArray, List.set_cons_zero, List.set_cons_succ]
        refine reg_take 13 (some 109) (v := ?_) rfl rfl (by kernel_rfl) (by kernel_rfl) (by kernel_rfl) (fun _ _ _ h => h) (by rfl) ?_ ?_
        rotate_left
        · intro W hW; go_simp; first | done | with_reducible rfl
        try simp only [Act.put, List.setIfInBounds_toArray, List.set_cons_zero, List.set_cons_succ]
        refine reg_take 14 (some 110) (v := ?_) rfl rfl (by kernel_rfl) (by kernel_rfl) (by kernel_rfl) (fun _ _ _ h => h) (by rfl) ?_ ?_
        rotate_left
        · intro W hW; go_simp; first | done | with_reducible rfl
        try simp only [Act.put, List.setIfInBounds_toArray, List.set_cons_zero, List.set_cons_succ]
        refine reg_take 15 (some 111) (v := ?_) rfl rfl (by kernel_rfl) (by kernel_rfl) (by kernel_rfl) (fun _ _ _ h => h) (by rfl) ?_ ?_
        rotate_left
        · intro W hW; go_simp; first | done | with_reducible rfl
        try simp only [Act.put, List.setIfInBounds_toArray, List.set_cons_zero, List.set_cons_succ]
        refine reg_take 16 (some 112) (v := ?_) rfl rfl (by kernel_rfl) (by kernel_rfl) (by kernel_rfl) (fun _ _ _ h => h) (by rfl) ?_ ?_
        rotate_left
        · intro W hW; go_simp; first | done | with_reducible rfl
        try simp only [Act.put, List.setIfInBounds_toArray, List.set_cons_zero, List.set_cons_succ]
        refine wpAnyH_ready (rs := [11]) (by kernel_rfl) (by simp) ?_
        refine (AllReadyH.cons (o := { dst := some 107, op := Op.call { callee := Callee.value (Operand.func 28), args := #[Operand.tmp 106], argTypes := #[23] }, type := 3, pos := "law.go:192", after := #[{ on := 10, ground := Ground.data }, { on := 9, ground := Ground.chain }, { on := 9, ground := Ground.guard }], guard := some (9, false) }) rfl (fun K hK => ?_) AllReadyH.nil)
        go_simp
        refine (waits_lk B c q _ (HO3.out.wk.ls.keptNone (drewl h1)).lk (HQ.out.keptNone (drewl h1)) hql).mono ?_; rintro e u2 ⟨rfl, h2⟩
        refine reg_next hK h2 ?_
        clear hK K
        try simp only [Act.put, List.setIfInBounds_toArray, List.set_cons_zero, List.set_cons_succ]
        refine reg_take 17 (some 113) (v := ?_) rfl rfl (by kernel_rfl) (by kernel_rfl) (by kernel_rfl) (fun _ _ _ h => h) (by rfl) ?_ ?_
        rotate_left
        · intro W hW; go_simp; first | done | with_reducible rfl
        try simp only [Act.put, List.setIfInBounds_toArray, List.set_cons_zero, List.set_cons_succ]
        refine reg_take 18 (some 114) (v := ?_) rfl rfl (by kernel_rfl) (by kernel_rfl) (by kernel_rfl) (fun _ _ _ h => h) (by rfl) ?_ ?_
        rotate_left
        · intro W hW; go_simp; first | done | with_reducible rfl
        try simp only [Act.put, List.setIfInBounds_toArray, List.set_cons_zero, List.set_cons_succ]
        refine wpAnyH_done (by kernel_rfl) ?_ _
        have HO4 := Lib.hid (HO3.out.kn (drewl (h1.trans h2)))
        clear h1 h2 hQ1
        go_wp2
        go_roundw
        case rel => exact ⟨k + 1, by omega, by simp, c, g, li, lo, _, _, _, _, rfl, rfl, HO4.out, by omega, by omega⟩
        case measure => simp [intOf]; omega
      have c0 := cells_all HCX.out 0
      have c1 := cells_all HCX.out 1
      have c2 := cells_all HCX.out 2
      have c3' := cells_all HCX.out 3
      have c4 := cells_all HCX.out 4
      have c5 := cells_all HCX.out 5
      have CP := ls_push_ok B c g bs ba bc w2 HOx.out.wk.ls HOx.out.wg HSx.out (by omega) hfit
      rw [← HOx.out.hi] at CP
      go_wp2_with fail
      refine CP.mono ?_; rintro e w2b ⟨rfl, c3, hp⟩
      obtain ⟨g3, hg3⟩ : ∃ g3, g3 = { g with pushed := li ++ bs } := ⟨_, rfl⟩
      rw [← hg3] at hp
      have HOy := Lib.hid (show OSx w w2b B c3 g3 (.slice ai li.length ci) (.slice ao lo.length co) li lo from HOx.out.x.line hp (by rw [hg3]; exact ⟨HOx.out.wg.al, HOx.out.wg.ms, by have := HOx.out.wg.tk; rw [← HOx.out.hi] at this; simp; omega, by have := HOx.out.hi; simp [this]; omega⟩))
      have HCy := Lib.hid ((hp.keep.block _ (lt_of_block HCX.out) HNC.out).trans HCX.out)
      have hSy := Go.Proofs.Ytmdgehpmeikgfaa.Src.keeps HSx.out hp.keep
      have HSy := Lib.hid (show Go.Proofs.Ytmdgehpmeikgfaa.Src w2b ba bs from (Classical.em (bs = [])).elim .inl (fun he => hSy (fun b' o' e hk => by have h1 := HOx.out.wk.new _ hk; have h2 := hxlt he b' o' e; omega)))
      have hbp3 : g3.pushed.length ≤ 256 * (k + 1) := by have := HOx.out.hi; rw [hg3]; simp [this]; omega
      have hbt3 : g3.told.length ≤ k + 1 := by rw [hg3]; show g.told.length ≤ _; omega
      have HG3 := Lib.hid hg3
      clear hp hg3 hSy CP
      go_wp2_with fail
      refine (num_any _ _).mono ?_; rintro e w' ⟨rfl, rfl⟩
      have c2' := cells_all HCy.out 2
      have hv0 := HOy.out.si
      have hvs := src_go (cap := bc) HSy.out
      go_wp2_with (at_builtin; refine wpList_sl rfl _ _ rfl _ _ li bs rfl rfl hv0 hvs (by omega) ?_)
      intro v3 w3 hQ3 hg3 hr3
      obtain ⟨li3, hli⟩ : ∃ l, l = li ++ bs := ⟨_, rfl⟩
      rw [← hli] at hQ3
      obtain ⟨ai3, ci3, hv3, _⟩ := hQ3.shape
      subst hv3
      have HO3 := Lib.hid (show OS w w3 B c3 g3 (.slice ai3 li3.length ci3) (.slice ao lo.length co) li3 lo from (HOy.out.appI hQ3 hg3 hr3).done (by rw [HG3.out, hli]) (by rw [HG3.out]; show lo = (li ++ bs).take g.taken; rw [List.take_append_of_le_length (by have := HOx.out.wg.tk; have := congrArg List.length HOx.out.hi; omega), HOx.out.ho, HOx.out.hi]))
      have HL3 := Lib.hid hli
      clear hQ3 hg3 hr3 hli hv0 hvs HOy HCy HSy HOx HCX
      obtain ⟨q, hqe⟩ : ∃ q, q = g3.pushed.drop g3.taken := ⟨_, rfl⟩
      have hli3 := HO3.out.hi
      have hlo3 := HO3.out.ho
      have hcat : lo ++ q = li3 := by rw [hlo3, hqe, hli3]; exact List.take_append_drop _ _
      have hq0 := HO3.out.wk.ls.q
      rw [← hqe] at hq0
      have HQ := Lib.hid hq0
      have htk3 := HO3.out.wg.tk
      have hqn : q.length = g3.pushed.length - g3.taken := by rw [hqe]; exact List.length_drop
      have hlin : li3.length = g3.pushed.length := by rw [hli3]
      have hlon : lo.length = g3.taken := by rw [hlo3, List.length_take]; omega
      have hql : q.length ≤ 1000000 := by omega
      have hws : IntKind.i64.wrap ((li3.length : Int) - (lo.length : Nat)) = (q.length : Nat) := by rw [IntKind.wrap_i64]; omega
      have hl1 : lo.length ≤ 1000000 := by omega
      have HNC1 := Lib.hid (show ¬ (9223372036854775807 < lo.length + q.length) by omega)
      have HNC2 := Lib.hid (show (ByteArray.mk lo.toArray ++ ByteArray.mk q.toArray) = ByteArray.mk li3.toArray by rw [ByteArray.mk_append_mk, hcat])
      have HX0 := Lib.hid hqe
      have HX1 := Lib.hid hli3
      have HX2 := Lib.hid hlo3
      clear hq0 hqe hli3 hlo3 hlin hlon hqn htk3 hcat
      go_wp2
      refine reg_open (none) (n := 19) rfl (by kernel_rfl) ?_
      refine reg_take 0 (some 96) (v := ?_) rfl rfl (by kernel_rfl) (by kernel_rfl) (by kernel_rfl) (fun _ _ _ h => h) (by rfl) ?_ ?_
      rotate_left
      · intro W hW; go_simp; first | done | with_reducible rfl
      try simp only [Act.put, List.setIfInBounds_toArray, List.set_cons_zero, List.set_cons_succ]
      refine reg_take 1 (some 97) (v := ?_) rfl rfl (by kernel_rfl) (by kernel_rfl) (by kernel_rfl) (fun _ _ _ h => h) (by rfl) ?_ ?_
      rotate_left
      · intro W hW; have k := conv_sl (HO3.out.so.keptNone (drewl hW)); go_simp; first | done | with_reducible rfl
      try simp only [Act.put, List.setIfInBounds_toArray, List.set_cons_zero, List.set_cons_succ]
      refine reg_take 2 (some 98) (v := ?_) rfl rfl (by kernel_rfl) (by kernel_rfl) (by kernel_rfl) (fun _ _ _ h => h) (by rfl) ?_ ?_
      rotate_left
      · intro W hW; go_simp; first | done | with_reducible rfl
      try simp only [Act.put, List.setIfInBounds_toArray, List.set_cons_zero, List.set_cons_succ]
      refine reg_take 6 (some 102) (v := ?_) rfl rfl (by kernel_rfl) (by kernel_rfl) (by kernel_rfl) (fun _ _ _ h => h) (by rfl) ?_ ?_
      rotate_left
      · intro W hW; go_simp; first | done | with_reducible rfl
      try simp only [Act.put, List.setIfInBounds_toArray, List.set_cons_zero, List.set_cons_succ]
      refine reg_take 7 (some 103) (v := ?_) rfl rfl (by kernel_rfl) (by kernel_rfl) (by kernel_rfl) (fun _ _ _ h => h) (by rfl) ?_ ?_
      rotate_left
      · intro W hW; have k := conv_sl (HO3.out.si.keptNone (drewl hW)); go_simp; first | done | with_reducible rfl
      try simp only [Act.put, List.setIfInBounds_toArray, List.set_cons_zero, List.set_cons_succ]
      refine wpAnyH_ready (rs := [3]) (by kernel_rfl) (by simp) ?_
      refine (AllReadyH.cons (o := { dst := some 99, op := Op.call { callee := Callee.value (Operand.func 27), args := #[Operand.tmp 98], argTypes := #[23] }, type := 27, pos := "law.go:192", after := #[{ on := 2, ground := Ground.data }], guard := none }) rfl (fun K hK => ?_) AllReadyH.nil)
      go_simp
      refine (queue_sl B c3 q _ HO3.out.wk.ls.drew.lk HQ.out hql).mono ?_; rintro e u1 ⟨a1, cap1, rfl, hQ1, h1⟩
      refine reg_next hK h1 ?_
      clear hK K
      try simp only [Act.put, List.setIfInBounds_toArray, List.set_cons_zero, List.set_cons_succ]
      refine reg_take 4 (some 100) (v := ?_) rfl rfl (by kernel_rfl) (by kernel_rfl) (by kernel_rfl) (fun _ _ _ h => h) (by rfl) ?_ ?_
      rotate_left
      · intro W hW; have k := conv_sl (hQ1.keptNone hW); go_simp; first | done | with_reducible rfl
      try simp only [Act.put, List.setIfInBounds_toArray, List.set_cons_zero, List.set_cons_succ]
      refine reg_take 5 (some 101) (v := ?_) rfl rfl (by kernel_rfl) (by kernel_rfl) (by kernel_rfl) (fun _ _ _ h => h) (by rfl) ?_ ?_
      rotate_left
      · intro W hW; have k1 := HNC1.out; have k2 := HNC2.out; go_simp; first | done | with_reducible rfl
      try simp only [Act.put, List.setIfInBounds_toArray, List.set_cons_zero, List.set_cons_succ]
      refine reg_take 8 (some 104) (v := ?_) rfl rfl (by kernel_rfl) (by kernel_rfl) (by kernel_rfl) (fun _ _ _ h => h) (by rfl) ?_ ?_
      rotate_left
      · intro W hW; go_simp; first | done | with_reducible rfl
      try simp only [Act.put, List.setIfInBounds_toArray, List.set_cons_zero, List.set_cons_succ]
      refine reg_take 9 (some 105) (v := ?_) rfl rfl (by kernel_rfl) (by kernel_rfl) (by kernel_rfl) (fun _ _ _ h => h) (by rfl) ?_ ?_
      rotate_left
      · intro W hW; go_simp; first | done | with_reducible rfl
      try simp only [Act.put, List.setIfInBounds_toArray, List.set_cons_zero, List.set_cons_succ]
      refine reg_take 10 (some 106) (v := ?_) rfl rfl (by kernel_rfl) (by kernel_rfl) (by kernel_rfl) (fun _ _ _ h => h) (by rfl) ?_ ?_
      rotate_left
      · intro W hW; go_simp; first | done | with_reducible rfl
      try simp only [Act.put, List.setIfInBounds_toArray, List.set_cons_zero, List.set_cons_succ]
      refine reg_take 12 (some 108) (v := ?_) rfl rfl (by kernel_rfl) (by kernel_rfl) (by kernel_rfl) (fun _ _ _ h => h) (by rfl) ?_ ?_
      rotate_left
      · intro W hW; go_simp; first | done | with_reducible rfl
      try simp only [Act.put, List.setIfInBounds_toArray, List.set_cons_zero, List.set_cons_succ]
      refine reg_take 13 (some 109) (v := ?_) rfl rfl (by kernel_rfl) (by kernel_rfl) (by kernel_rfl) (fun _ _ _ h => h) (by rfl) ?_ ?_
      rotate_left
      · intro W hW; go_simp; first | done | with_reducible rfl
      try simp only [Act.put, List.setIfInBounds_toArray, List.set_cons_zero, List.set_cons_succ]
      refine reg_take 14 (some 110) (v := ?_) rfl rfl (by kernel_rfl) (by kernel_rfl) (by kernel_rfl) (fun _ _ _ h => h) (by rfl) ?_ ?_
      rotate_left
      · intro W hW; go_simp; first | done | with_reducible rfl
      try simp only [Act.put, List.setIfInBounds_toArray, List.set_cons_zero, List.set_cons_succ]
      refine reg_take 15 (some 111) (v := ?_) rfl rfl (by kernel_rfl) (by kernel_rfl) (by kernel_rfl) (fun _ _ _ h => h) (by rfl) ?_ ?_
      rotate_left
      · intro W hW; go_simp; first | done | with_reducible rfl
      try simp only [Act.put, List.setIfInBounds_toArray, List.set_cons_zero, List.set_cons_succ]
      refine reg_take 16 (some 112) (v := ?_) rfl rfl (by kernel_rfl) (by kernel_rfl) (by kernel_rfl) (fun _ _ _ h => h) (by rfl) ?_ ?_
      rotate_left
      · intro W hW; go_simp; first | done | with_reducible rfl
      try simp only [Act.put, List.setIfInBounds_toArray, List.set_cons_zero, List.set_cons_succ]
      refine wpAnyH_ready (rs := [11]) (by kernel_rfl) (by simp) ?_
      refine (AllReadyH.cons (o := { dst := some 107, op := Op.call { callee := Callee.value (Operand.func 28), args := #[Operand.tmp 106], argTypes := #[23] }, type := 3, pos := "law.go:192", after := #[{ on := 10, ground := Ground.data }, { on := 9, ground := Ground.chain }, { on := 9, ground := Ground.guard }], guard := some (9, false) }) rfl (fun K hK => ?_) AllReadyH.nil)
      go_simp
      refine (waits_lk B c3 q _ (HO3.out.wk.ls.keptNone (drewl h1)).lk (HQ.out.keptNone (drewl h1)) hql).mono ?_; rintro e u2 ⟨rfl, h2⟩
      refine reg_next hK h2 ?_
      clear hK K
      try simp only [Act.put, List.setIfInBounds_toArray, List.set_cons_zero, List.set_cons_succ]
      refine reg_take 17 (some 113) (v := ?_) rfl rfl (by kernel_rfl) (by kernel_rfl) (by kernel_rfl) (fun _ _ _ h => h) (by rfl) ?_ ?_
      rotate_left
      · intro W hW; go_simp; first | done | with_reducible rfl
      try simp only [Act.put, List.setIfInBounds_toArray, List.set_cons_zero, List.set_cons_succ]
      refine reg_take 18 (some 114) (v := ?_) rfl rfl (by kernel_rfl) (by kernel_rfl) (by kernel_rfl) (fun _ _ _ h => h) (by rfl) ?_ ?_
      rotate_left
      · intro W hW; go_simp; first | done | with_reducible rfl
      try simp only [Act.put, List.setIfInBounds_toArray, List.set_cons_zero, List.set_cons_succ]
      refine wpAnyH_done (by kernel_rfl) ?_ _
      have HO4 := Lib.hid (HO3.out.kn (drewl (h1.trans h2)))
      clear h1 h2 hQ1
      go_wp2
      go_roundw
      case rel => exact ⟨k + 1, by omega, by simp, c3, g3, li3, lo, _, _, _, _, rfl, rfl, HO4.out, by omega, by omega⟩
      case measure => simp [intOf]; omega
    by_cases h2 : what = 2
    · subst h2
      by_cases hk' : g.taken < g.pushed.length
      rotate_left
      · have c0 := cells_all HCX.out 0
        have c1 := cells_all HCX.out 1
        have c2 := cells_all HCX.out 2
        have c3' := cells_all HCX.out 3
        have c4 := cells_all HCX.out 4
        have c5 := cells_all HCX.out 5
        have hk' : g.taken = g.pushed.length := by have := HOx.out.wg.tk; omega
        go_wp2_with fail
        refine (ls_take_none B c g _ HOx.out.wk.ls hk').mono ?_; rintro e w3 ⟨rfl, rfl⟩
        have HO3 := HOx
        have hbp3 : g.pushed.length ≤ 256 * (k + 1) := by omega
        have hbt3 : g.told.length ≤ k + 1 := by omega
        clear HOx HCX
        obtain ⟨q, hqe⟩ : ∃ q, q = g.pushed.drop g.taken := ⟨_, rfl⟩
        have hli3 := HO3.out.hi
        have hlo3 := HO3.out.ho
        have hcat : lo ++ q = li := by rw [hlo3, hqe, hli3]; exact List.take_append_drop _ _
        have hq0 := HO3.out.wk.ls.q
        rw [← hqe] at hq0
        have HQ := Lib.hid hq0
        have htk3 := HO3.out.wg.tk
        have hqn : q.length = g.pushed.length - g.taken := by rw [hqe]; exact List.length_drop
        have hlin : li.length = g.pushed.length := by rw [hli3]
        have hlon : lo.length = g.taken := by rw [hlo3, List.length_take]; omega
        have hql : q.length ≤ 1000000 := by omega
        have hws : IntKind.i64.wrap ((li.length : Int) - (lo.length : Nat)) = (q.length : Nat) := by rw [IntKind.wrap_i64]; omega
        have hl1 : lo.length ≤ 1000000 := by omega
        have HNC1 := Lib.hid (show ¬ (9223372036854775807 < lo.length + q.length) by omega)
        have HNC2 := Lib.hid (show (ByteArray.mk lo.toArray ++ ByteArray.mk q.toArray) = ByteArray.mk li.toArray by rw [ByteArray.mk_append_mk, hcat])
        have HX0 := Lib.hid hqe
        have HX1 := Lib.hid hli3
        have HX2 := Lib.hid hlo3
        clear hq0 hqe hli3 hlo3 hlin hlon hqn htk3 hcat
        go_wp2
        refine reg_open (none) (n := 19) rfl (by kernel_rfl) ?_
        refine reg_take 0 (some 96) (v := ?_) rfl rfl (by kernel_rfl) (by kernel_rfl) (by kernel_rfl) (fun _ _ _ h => h) (by rfl) ?_ ?_
        rotate_left
        · intro W hW; go_simp; first | done | with_reducible rfl
        try simp only [Act.put, List.setIfInBounds_toArray, List.set_cons_zero, List.set_cons_succ]
        refine reg_take 1 (some 97) (v := ?_) rfl rfl (by kernel_rfl) (by kernel_rfl) (by kernel_rfl) (fun _ _ _ h => h) (by rfl) ?_ ?_
        rotate_left
        · intro W hW; have k := conv_sl (HO3.out.so.keptNone (drewl hW)); go_simp; first | done | with_reducible rfl
        try simp only [Act.put, List.setIfInBounds_toArray, List.set_cons_zero, List.set_cons_succ]
        refine reg_take 2 (some 98) (v := ?_) rfl rfl (by kernel_rfl) (by kernel_rfl) (by kernel_rfl) (fun _ _ _ h => h) (by rfl) ?_ ?_
        rotate_left
        · intro W hW; go_simp; first | done | with_reducible rfl
        try simp only [Act.put, List.setIfInBounds_toArray, List.set_cons_zero, List.set_cons_succ]
        refine reg_take 6 (some 102) (v := ?_) rfl rfl (by kernel_rfl) (by kernel_rfl) (by kernel_rfl) (fun _ _ _ h => h) (by rfl) ?_ ?_
        rotate_left
        · intro W hW; go_simp; first | done | with_reducible rfl
        try simp only [Act.put, List.setIfInBounds_toArray, List.set_cons_zero, List.set_cons_succ]
        refine reg_take 7 (some 103) (v := ?_) rfl rfl (by kernel_rfl) (by kernel_rfl) (by kernel_rfl) (fun _ _ _ h => h) (by rfl) ?_ ?_
        rotate_left
        · intro W hW; have k := conv_sl (HO3.out.si.keptNone (drewl hW)); go_simp; first | done | with_reducible rfl
        try simp only [Act.put, List.setIfInBounds_toArray, List.set_cons_zero, List.set_cons_succ]
        refine wpAnyH_ready (rs := [3]) (by kernel_rfl) (by simp) ?_
        refine (AllReadyH.cons (o := { dst := some 99, op := Op.call { callee := Callee.value (Operand.func 27), args := #[Operand.tmp 98], argTypes := #[23] }, type := 27, pos := "law.go:192", after := #[{ on := 2, ground := Ground.data }], guard := none }) rfl (fun K hK => ?_) AllReadyH.nil)
        go_simp
        refine (queue_sl B c q _ HO3.out.wk.ls.drew.lk HQ.out hql).mono ?_; rintro e u1 ⟨a1, cap1, rfl, hQ1, h1⟩
        refine reg_next hK h1 ?_
        clear hK K
        try simp only [Act.put, List.setIfInBounds_toArray, List.set_cons_zero, List.set_cons_succ]
        refine reg_take 4 (some 100) (v := ?_) rfl rfl (by kernel_rfl) (by kernel_rfl) (by kernel_rfl) (fun _ _ _ h => h) (by rfl) ?_ ?_
        rotate_left
        · intro W hW; have k := conv_sl (hQ1.keptNone hW); go_simp; first | done | with_reducible rfl
        try simp only [Act.put, List.setIfInBounds_toArray, List.set_cons_zero, List.set_cons_succ]
        refine reg_take 5 (some 101) (v := ?_) rfl rfl (by kernel_rfl) (by kernel_rfl) (by kernel_rfl) (fun _ _ _ h => h) (by rfl) ?_ ?_
        rotate_left
        · intro W hW; have k1 := HNC1.out; have k2 := HNC2.out; go_simp; first | done | with_reducible rfl
        try simp only [Act.put, List.setIfInBounds_toArray, List.set_cons_zero, List.set_cons_succ]
        refine reg_take 8 (some 104) (v := ?_) rfl rfl (by kernel_rfl) (by kernel_rfl) (by kernel_rfl) (fun _ _ _ h => h) (by rfl) ?_ ?_
        rotate_left
        · intro W hW; go_simp; first | done | with_reducible rfl
        try simp only [Act.put, List.setIfInBounds_toArray, List.set_cons_zero, List.set_cons_succ]
        refine reg_take 9 (some 105) (v := ?_) rfl rfl (by kernel_rfl) (by kernel_rfl) (by kernel_rfl) (fun _ _ _ h => h) (by rfl) ?_ ?_
        rotate_left
        · intro W hW; go_simp; first | done | with_reducible rfl
        try simp only [Act.put, List.setIfInBounds_toArray, List.set_cons_zero, List.set_cons_succ]
        refine reg_take 10 (some 106) (v := ?_) rfl rfl (by kernel_rfl) (by kernel_rfl) (by kernel_rfl) (fun _ _ _ h => h) (by rfl) ?_ ?_
        rotate_left
        · intro W hW; go_simp; first | done | with_reducible rfl
        try simp only [Act.put, List.setIfInBounds_toArray, List.set_cons_zero, List.set_cons_succ]
        refine reg_take 12 (some 108) (v := ?_) rfl rfl (by kernel_rfl) (by kernel_rfl) (by kernel_rfl) (fun _ _ _ h => h) (by rfl) ?_ ?_
        rotate_left
        · intro W hW; go_simp; first | done | with_reducible rfl
        try simp only [Act.put, List.setIfInBounds_toArray, List.set_cons_zero, List.set_cons_succ]
        refine reg_take 13 (some 109) (v := ?_) rfl rfl (by kernel_rfl) (by kernel_rfl) (by kernel_rfl) (fun _ _ _ h => h) (by rfl) ?_ ?_
        rotate_left
        · intro W hW; go_simp; first | done | with_reducible rfl
        try simp only [Act.put, List.setIfInBounds_toArray, List.set_cons_zero, List.set_cons_succ]
        refine reg_take 14 (some 110) (v := ?_) rfl rfl (by kernel_rfl) (by kernel_rfl) (by kernel_rfl) (fun _ _ _ h => h) (by rfl) ?_ ?_
        rotate_left
        · intro W hW; go_simp; first | done | with_reducible rfl
        try simp only [Act.put, List.setIfInBounds_toArray, List.set_cons_zero, List.set_cons_succ]
        refine reg_take 15 (some 111) (v := ?_) rfl rfl (by kernel_rfl) (by kernel_rfl) (by kernel_rfl) (fun _ _ _ h => h) (by rfl) ?_ ?_
        rotate_left
        · intro W hW; go_simp; first | done | with_reducible rfl
        try simp only [Act.put, List.setIfInBounds_toArray, List.set_cons_zero, List.set_cons_succ]
        refine reg_take 16 (some 112) (v := ?_) rfl rfl (by kernel_rfl) (by kernel_rfl) (by kernel_rfl) (fun _ _ _ h => h) (by rfl) ?_ ?_
        rotate_left
        · intro W hW; go_simp; first | done | with_reducible rfl
        try simp only [Act.put, List.setIfInBounds_toArray, List.set_cons_zero, List.set_cons_succ]
        refine wpAnyH_ready (rs := [11]) (by kernel_rfl) (by simp) ?_
        refine (AllReadyH.cons (o := { dst := some 107, op := Op.call { callee := Callee.value (Operand.func 28), args := #[Operand.tmp 106], argTypes := #[23] }, type := 3, pos := "law.go:192", after := #[{ on := 10, ground := Ground.data }, { on := 9, ground := Ground.chain }, { on := 9, ground := Ground.guard }], guard := some (9, false) }) rfl (fun K hK => ?_) AllReadyH.nil)
        go_simp
        refine (waits_lk B c q _ (HO3.out.wk.ls.keptNone (drewl h1)).lk (HQ.out.keptNone (drewl h1)) hql).mono ?_; rintro e u2 ⟨rfl, h2⟩
        refine reg_next hK h2 ?_
        clear hK K
        try simp only [Act.put, List.setIfInBounds_toArray, List.set_cons_zero, List.set_cons_succ]
        refine reg_take 17 (some 113) (v := ?_) rfl rfl (by kernel_rfl) (by kernel_rfl) (by kernel_rfl) (fun _ _ _ h => h) (by rfl) ?_ ?_
        rotate_left
        · intro W hW; go_simp; first | done | with_reducible rfl
        try simp only [Act.put, List.setIfInBounds_toArray, List.set_cons_zero, List.set_cons_succ]
        refine reg_take 18 (some 114) (v := ?_) rfl rfl (by kernel_rfl) (by kernel_rfl) (by kernel_rfl) (fun _ _ _ h => h) (by rfl) ?_ ?_
        rotate_left
        · intro W hW; go_simp; first | done | with_reducible rfl
        try simp only [Act.put, List.setIfInBounds_toArray, List.set_cons_zero, List.set_cons_succ]
        refine wpAnyH_done (by kernel_rfl) ?_ _
        have HO4 := Lib.hid (HO3.out.kn (drewl (h1.trans h2)))
        clear h1 h2 hQ1
        go_wp2
        go_roundw
        case rel => exact ⟨k + 1, by omega, by simp, c, g, li, lo, _, _, _, _, rfl, rfl, HO4.out, by omega, by omega⟩
        case measure => simp [intOf]; omega
      have c0 := cells_all HCX.out 0
      have c1 := cells_all HCX.out 1
      have c2 := cells_all HCX.out 2
      have c3' := cells_all HCX.out 3
      have c4 := cells_all HCX.out 4
      have c5 := cells_all HCX.out 5
      have HLE := Lib.hid (show lo.length = g.taken by rw [HOx.out.ho, List.length_take]; have := HOx.out.wg.tk; omega)
      have CP := ls_take_one B c g w2 HOx.out.wk.ls hk' (by omega)
      obtain ⟨xb, hxb⟩ : ∃ xb, xb = g.pushed[g.taken]'hk' := ⟨_, rfl⟩
      rw [← hxb] at CP
      have HXB := Lib.hid hxb
      clear hxb
      have hneq : ((g.taken : Int) != (lo.length : Nat)) = false := by have := HLE.out; simp; omega
      go_wp2_with fail
      refine CP.mono ?_; rintro e w2b ⟨rfl, c3, hp⟩
      obtain ⟨g3, hg3⟩ : ∃ g3, g3 = { g with taken := g.taken + 1 } := ⟨_, rfl⟩
      rw [← hg3] at hp
      have HOy := Lib.hid (show OSx w w2b B c3 g3 (.slice ai li.length ci) (.slice ao lo.length co) li lo from HOx.out.x.line hp (by rw [hg3]; exact ⟨HOx.out.wg.al, HOx.out.wg.ms, hk', by show g.pushed.length - (g.taken + 1) ≤ 256; have := HOx.out.wg.wt; omega⟩))
      have hbp3 : g3.pushed.length ≤ 256 * (k + 1) := by rw [hg3]; show g.pushed.length ≤ _; omega
      have hbt3 : g3.told.length ≤ k + 1 := by rw [hg3]; show g.told.length ≤ _; omega
      have HG3 := Lib.hid hg3
      clear hp hg3 CP
      have hga := World.grownBy_alloc w2b (.cells #[.int .u8 (xb.toNat : Int)] 5) none
      have HOz := Lib.hid (HOy.out.kn hga)
      have hv0 := HOz.out.so
      have hvs : Go.Src Try.prog 1 27 (.slice (some ⟨w2b.heap.size, 0, none⟩) 1 1) [xb].length (bsV [xb]) (w2b.alloc (.cells #[.int .u8 (xb.toNat : Int)] 5)) :=
        Go.Src.ofSlice _ Try.underlying27 ⟨w2b.heap.size, 0, none⟩ 1 1 (bsV [xb]) (by simp [bsV]) (cell_one_new w2b (.int .u8 (xb.toNat : Int)) 5) (bs_one [xb])
      clear hga
      go_wp2_with (at_builtin; refine wpList_sl rfl _ _ rfl _ _ lo [xb] rfl rfl hv0 hvs (by simp; omega) ?_)
      intro v3 w3 hQ3 hg3 hr3
      obtain ⟨lo3, hli⟩ : ∃ l, l = lo ++ [xb] := ⟨_, rfl⟩
      rw [← hli] at hQ3
      obtain ⟨ao3, co3, hv3, _⟩ := hQ3.shape
      subst hv3
      have HO3 := Lib.hid (show OS w w3 B c3 g3 (.slice ai li.length ci) (.slice ao3 lo3.length co3) li lo3 from (HOz.out.appO hQ3 hg3 (by simpa using hr3)).done (by rw [HG3.out]; exact HOx.out.hi) (by rw [HG3.out, hli, HOx.out.ho, HXB.out]; exact (List.take_succ_eq_append_getElem hk').symm))
      have HL3 := Lib.hid hli
      clear hQ3 hg3 hr3 hli hv0 hvs HOy HOz HOx HCX
      obtain ⟨q, hqe⟩ : ∃ q, q = g3.pushed.drop g3.taken := ⟨_, rfl⟩
      have hli3 := HO3.out.hi
      have hlo3 := HO3.out.ho
      have hcat : lo3 ++ q = li := by rw [hlo3, hqe, hli3]; exact List.take_append_drop _ _
      have hq0 := HO3.out.wk.ls.q
      rw [← hqe] at hq0
      have HQ := Lib.hid hq0
      have htk3 := HO3.out.wg.tk
      have hqn : q.length = g3.pushed.length - g3.taken := by rw [hqe]; exact List.length_drop
      have hlin : li.length = g3.pushed.length := by rw [hli3]
      have hlon : lo3.length = g3.taken := by rw [hlo3, List.length_take]; omega
      have hql : q.length ≤ 1000000 := by omega
      have hws : IntKind.i64.wrap ((li.length : Int) - (lo3.length : Nat)) = (q.length : Nat) := by rw [IntKind.wrap_i64]; omega
      have hl1 : lo3.length ≤ 1000000 := by omega
      have HNC1 := Lib.hid (show ¬ (9223372036854775807 < lo3.length + q.length) by omega)
      have HNC2 := Lib.hid (show (ByteArray.mk lo3.toArray ++ ByteArray.mk q.toArray) = ByteArray.mk li.toArray by rw [ByteArray.mk_append_mk, hcat])
      have HX0 := Lib.hid hqe
      have HX1 := Lib.hid hli3
      have HX2 := Lib.hid hlo3
      clear hq0 hqe hli3 hlo3 hlin hlon hqn htk3 hcat
      go_wp2
      refine reg_open (none) (n := 19) rfl (by kernel_rfl) ?_
      refine reg_take 0 (some 96) (v := ?_) rfl rfl (by kernel_rfl) (by kernel_rfl) (by kernel_rfl) (fun _ _ _ h => h) (by rfl) ?_ ?_
      rotate_left
      · intro W hW; go_simp; first | done | with_reducible rfl
      try simp only [Act.put, List.setIfInBounds_toArray, List.set_cons_zero, List.set_cons_succ]
      refine reg_take 1 (some 97) (v := ?_) rfl rfl (by kernel_rfl) (by kernel_rfl) (by kernel_rfl) (fun _ _ _ h => h) (by rfl) ?_ ?_
      rotate_left
      · intro W hW; have k := conv_sl (HO3.out.so.keptNone (drewl hW)); go_simp; first | done | with_reducible rfl
      try simp only [Act.put, List.setIfInBounds_toArray, List.set_cons_zero, List.set_cons_succ]
      refine reg_take 2 (some 98) (v := ?_) rfl rfl (by kernel_rfl) (by kernel_rfl) (by kernel_rfl) (fun _ _ _ h => h) (by rfl) ?_ ?_
      rotate_left
      · intro W hW; go_simp; first | done | with_reducible rfl
      try simp only [Act.put, List.setIfInBounds_toArray, List.set_cons_zero, List.set_cons_succ]
      refine reg_take 6 (some 102) (v := ?_) rfl rfl (by kernel_rfl) (by kernel_rfl) (by kernel_rfl) (fun _ _ _ h => h) (by rfl) ?_ ?_
      rotate_left
      · intro W hW; go_simp; first | done | with_reducible rfl
      try simp only [Act.put, List.setIfInBounds_toArray, List.set_cons_zero, List.set_cons_succ]
      refine reg_take 7 (some 103) (v := ?_) rfl rfl (by kernel_rfl) (by kernel_rfl) (by kernel_rfl) (fun _ _ _ h => h) (by rfl) ?_ ?_
      rotate_left
      · intro W hW; have k := conv_sl (HO3.out.si.keptNone (drewl hW)); go_simp; first | done | with_reducible rfl
      try simp only [Act.put, List.setIfInBounds_toArray, List.set_cons_zero, List.set_cons_succ]
      refine wpAnyH_ready (rs := [3]) (by kernel_rfl) (by simp) ?_
      refine (AllReadyH.cons (o := { dst := some 99, op := Op.call { callee := Callee.value (Operand.func 27), args := #[Operand.tmp 98], argTypes := #[23] }, type := 27, pos := "law.go:192", after := #[{ on := 2, ground := Ground.data }], guard := none }) rfl (fun K hK => ?_) AllReadyH.nil)
      go_simp
      refine (queue_sl B c3 q _ HO3.out.wk.ls.drew.lk HQ.out hql).mono ?_; rintro e u1 ⟨a1, cap1, rfl, hQ1, h1⟩
      refine reg_next hK h1 ?_
      clear hK K
      try simp only [Act.put, List.setIfInBounds_toArray, List.set_cons_zero, List.set_cons_succ]
      refine reg_take 4 (some 100) (v := ?_) rfl rfl (by kernel_rfl) (by kernel_rfl) (by kernel_rfl) (fun _ _ _ h => h) (by rfl) ?_ ?_
      rotate_left
      · intro W hW; have k := conv_sl (hQ1.keptNone hW); go_simp; first | done | with_reducible rfl
      try simp only [Act.put, List.setIfInBounds_toArray, List.set_cons_zero, List.set_cons_succ]
      refine reg_take 5 (some 101) (v := ?_) rfl rfl (by kernel_rfl) (by kernel_rfl) (by kernel_rfl) (fun _ _ _ h => h) (by rfl) ?_ ?_
      rotate_left
      · intro W hW; have k1 := HNC1.out; have k2 := HNC2.out; go_simp; first | done | with_reducible rfl
      try simp only [Act.put, List.setIfInBounds_toArray, List.set_cons_zero, List.set_cons_succ]
      refine reg_take 8 (some 104) (v := ?_) rfl rfl (by kernel_rfl) (by kernel_rfl) (by kernel_rfl) (fun _ _ _ h => h) (by rfl) ?_ ?_
      rotate_left
      · intro W hW; go_simp; first | done | with_reducible rfl
      try simp only [Act.put, List.setIfInBounds_toArray, List.set_cons_zero, List.set_cons_succ]
      refine reg_take 9 (some 105) (v := ?_) rfl rfl (by kernel_rfl) (by kernel_rfl) (by kernel_rfl) (fun _ _ _ h => h) (by rfl) ?_ ?_
      rotate_left
      · intro W hW; go_simp; first | done | with_reducible rfl
      try simp only [Act.put, List.setIfInBounds_toArray, List.set_cons_zero, List.set_cons_succ]
      refine reg_take 10 (some 106) (v := ?_) rfl rfl (by kernel_rfl) (by kernel_rfl) (by kernel_rfl) (fun _ _ _ h => h) (by rfl) ?_ ?_
      rotate_left
      · intro W hW; go_simp; first | done | with_reducible rfl
      try simp only [Act.put, List.setIfInBounds_toArray, List.set_cons_zero, List.set_cons_succ]
      refine reg_take 12 (some 108) (v := ?_) rfl rfl (by kernel_rfl) (by kernel_rfl) (by kernel_rfl) (fun _ _ _ h => h) (by rfl) ?_ ?_
      rotate_left
      · intro W hW; go_simp; first | done | with_reducible rfl
      try simp only [Act.put, List.setIfInBounds_toArray, List.set_cons_zero, List.set_cons_succ]
      refine reg_take 13 (some 109) (v := ?_) rfl rfl (by kernel_rfl) (by kernel_rfl) (by kernel_rfl) (fun _ _ _ h => h) (by rfl) ?_ ?_
      rotate_left
      · intro W hW; go_simp; first | done | with_reducible rfl
      try simp only [Act.put, List.setIfInBounds_toArray, List.set_cons_zero, List.set_cons_succ]
      refine reg_take 14 (some 110) (v := ?_) rfl rfl (by kernel_rfl) (by kernel_rfl) (by kernel_rfl) (fun _ _ _ h => h) (by rfl) ?_ ?_
      rotate_left
      · intro W hW; go_simp; first | done | with_reducible rfl
      try simp only [Act.put, List.setIfInBounds_toArray, List.set_cons_zero, List.set_cons_succ]
      refine reg_take 15 (some 111) (v := ?_) rfl rfl (by kernel_rfl) (by kernel_rfl) (by kernel_rfl) (fun _ _ _ h => h) (by rfl) ?_ ?_
      rotate_left
      · intro W hW; go_simp; first | done | with_reducible rfl
      try simp only [Act.put, List.setIfInBounds_toArray, List.set_cons_zero, List.set_cons_succ]
      refine reg_take 16 (some 112) (v := ?_) rfl rfl (by kernel_rfl) (by kernel_rfl) (by kernel_rfl) (fun _ _ _ h => h) (by rfl) ?_ ?_
      rotate_left
      · intro W hW; go_simp; first | done | with_reducible rfl
      try simp only [Act.put, List.setIfInBounds_toArray, List.set_cons_zero, List.set_cons_succ]
      refine wpAnyH_ready (rs := [11]) (by kernel_rfl) (by simp) ?_
      refine (AllReadyH.cons (o := { dst := some 107, op := Op.call { callee := Callee.value (Operand.func 28), args := #[Operand.tmp 106], argTypes := #[23] }, type := 3, pos := "law.go:192", after := #[{ on := 10, ground := Ground.data }, { on := 9, ground := Ground.chain }, { on := 9, ground := Ground.guard }], guard := some (9, false) }) rfl (fun K hK => ?_) AllReadyH.nil)
      go_simp
      refine (waits_lk B c3 q _ (HO3.out.wk.ls.keptNone (drewl h1)).lk (HQ.out.keptNone (drewl h1)) hql).mono ?_; rintro e u2 ⟨rfl, h2⟩
      refine reg_next hK h2 ?_
      clear hK K
      try simp only [Act.put, List.setIfInBounds_toArray, List.set_cons_zero, List.set_cons_succ]
      refine reg_take 17 (some 113) (v := ?_) rfl rfl (by kernel_rfl) (by kernel_rfl) (by kernel_rfl) (fun _ _ _ h => h) (by rfl) ?_ ?_
      rotate_left
      · intro W hW; go_simp; first | done | with_reducible rfl
      try simp only [Act.put, List.setIfInBounds_toArray, List.set_cons_zero, List.set_cons_succ]
      refine reg_take 18 (some 114) (v := ?_) rfl rfl (by kernel_rfl) (by kernel_rfl) (by kernel_rfl) (fun _ _ _ h => h) (by rfl) ?_ ?_
      rotate_left
      · intro W hW; go_simp; first | done | with_reducible rfl
      try simp only [Act.put, List.setIfInBounds_toArray, List.set_cons_zero, List.set_cons_succ]
      refine wpAnyH_done (by kernel_rfl) ?_ _
      have HO4 := Lib.hid (HO3.out.kn (drewl (h1.trans h2)))
      clear h1 h2 hQ1
      go_wp2
      go_roundw
      case rel => exact ⟨k + 1, by omega, by simp, c3, g3, li, lo3, _, _, _, _, rfl, rfl, HO4.out, by omega, by omega⟩
      case measure => simp [intOf]; omega
    by_cases h3 : what = 3
    · subst h3
      have c0 := cells_all HCX.out 0
      have c1 := cells_all HCX.out 1
      have c2 := cells_all HCX.out 2
      have c3' := cells_all HCX.out 3
      have c4 := cells_all HCX.out 4
      have c5 := cells_all HCX.out 5
      go_wp2_with fail
      refine (ls_tell B c g byte _ HOx.out.wk.ls (by omega)).mono ?_; rintro e w3 ⟨rfl, c3, hp⟩
      obtain ⟨g3, hg3⟩ : ∃ g3, g3 = { g with told := g.told ++ [byte] } := ⟨_, rfl⟩
      rw [← hg3] at hp
      have HO3 := Lib.hid (show OS w w3 B c3 g3 (.slice ai li.length ci) (.slice ao lo.length co) li lo from HOx.out.line hp (by rw [hg3]) (by rw [hg3]) (by rw [hg3]; exact ⟨HOx.out.wg.al, HOx.out.wg.ms, HOx.out.wg.tk, HOx.out.wg.wt⟩))
      have hbp3 : g3.pushed.length ≤ 256 * (k + 1) := by rw [hg3]; show g.pushed.length ≤ _; omega
      have hbt3 : g3.told.length ≤ k + 1 := by rw [hg3]; simp; omega
      have HG3 := Lib.hid hg3
      clear hp hg3 HOx HCX
      obtain ⟨q, hqe⟩ : ∃ q, q = g3.pushed.drop g3.taken := ⟨_, rfl⟩
      have hli3 := HO3.out.hi
      have hlo3 := HO3.out.ho
      have hcat : lo ++ q = li := by rw [hlo3, hqe, hli3]; exact List.take_append_drop _ _
      have hq0 := HO3.out.wk.ls.q
      rw [← hqe] at hq0
      have HQ := Lib.hid hq0
      have htk3 := HO3.out.wg.tk
      have hqn : q.length = g3.pushed.length - g3.taken := by rw [hqe]; exact List.length_drop
      have hlin : li.length = g3.pushed.length := by rw [hli3]
      have hlon : lo.length = g3.taken := by rw [hlo3, List.length_take]; omega
      have hql : q.length ≤ 1000000 := by omega
      have hws : IntKind.i64.wrap ((li.length : Int) - (lo.length : Nat)) = (q.length : Nat) := by rw [IntKind.wrap_i64]; omega
      have hl1 : lo.length ≤ 1000000 := by omega
      have HNC1 := Lib.hid (show ¬ (9223372036854775807 < lo.length + q.length) by omega)
      have HNC2 := Lib.hid (show (ByteArray.mk lo.toArray ++ ByteArray.mk q.toArray) = ByteArray.mk li.toArray by rw [ByteArray.mk_append_mk, hcat])
      have HX0 := Lib.hid hqe
      have HX1 := Lib.hid hli3
      have HX2 := Lib.hid hlo3
      clear hq0 hqe hli3 hlo3 hlin hlon hqn htk3 hcat
      go_wp2
      refine reg_open (none) (n := 19) rfl (by kernel_rfl) ?_
      refine reg_take 0 (some 96) (v := ?_) rfl rfl (by kernel_rfl) (by kernel_rfl) (by kernel_rfl) (fun _ _ _ h => h) (by rfl) ?_ ?_
      rotate_left
      · intro W hW; go_simp; first | done | with_reducible rfl
      try simp only [Act.put, List.setIfInBounds_toArray, List.set_cons_zero, List.set_cons_succ]
      refine reg_take 1 (some 97) (v := ?_) rfl rfl (by kernel_rfl) (by kernel_rfl) (by kernel_rfl) (fun _ _ _ h => h) (by rfl) ?_ ?_
      rotate_left
      · intro W hW; have k := conv_sl (HO3.out.so.keptNone (drewl hW)); go_simp; first | done | with_reducible rfl
      try simp only [Act.put, List.setIfInBounds_toArray, List.set_cons_zero, List.set_cons_succ]
      refine reg_take 2 (some 98) (v := ?_) rfl rfl (by kernel_rfl) (by kernel_rfl) (by kernel_rfl) (fun _ _ _ h => h) (by rfl) ?_ ?_
      rotate_left
      · intro W hW; go_simp; first | done | with_reducible rfl
      try simp only [Act.put, List.setIfInBounds_toArray, List.set_cons_zero, List.set_cons_succ]
      refine reg_take 6 (some 102) (v := ?_) rfl rfl (by kernel_rfl) (by kernel_rfl) (by kernel_rfl) (fun _ _ _ h => h) (by rfl) ?_ ?_
      rotate_left
      · intro W hW; go_simp; first | done | with_reducible rfl
      try simp only [Act.put, List.setIfInBounds_toArray, List.set_cons_zero, List.set_cons_succ]
      refine reg_take 7 (some 103) (v := ?_) rfl rfl (by kernel_rfl) (by kernel_rfl) (by kernel_rfl) (fun _ _ _ h => h) (by rfl) ?_ ?_
      rotate_left
      · intro W hW; have k := conv_sl (HO3.out.si.keptNone (drewl hW)); go_simp; first | done | with_reducible rfl
      try simp only [Act.put, List.setIfInBounds_toArray, List.set_cons_zero, List.set_cons_succ]
      refine wpAnyH_ready (rs := [3]) (by kernel_rfl) (by simp) ?_
      refine (AllReadyH.cons (o := { dst := some 99, op := Op.call { callee := Callee.value (Operand.func 27), args := #[Operand.tmp 98], argTypes := #[23] }, type := 27, pos := "law.go:192", after := #[{ on := 2, ground := Ground.data }], guard := none }) rfl (fun K hK => ?_) AllReadyH.nil)
      go_simp
      refine (queue_sl B c3 q _ HO3.out.wk.ls.drew.lk HQ.out hql).mono ?_; rintro e u1 ⟨a1, cap1, rfl, hQ1, h1⟩
      refine reg_next hK h1 ?_
      clear hK K
      try simp only [Act.put, List.setIfInBounds_toArray, List.set_cons_zero, List.set_cons_succ]
      refine reg_take 4 (some 100) (v := ?_) rfl rfl (by kernel_rfl) (by kernel_rfl) (by kernel_rfl) (fun _ _ _ h => h) (by rfl) ?_ ?_
      rotate_left
      · intro W hW; have k := conv_sl (hQ1.keptNone hW); go_simp; first | done | with_reducible rfl
      try simp only [Act.put, List.setIfInBounds_toArray, List.set_cons_zero, List.set_cons_succ]
      refine reg_take 5 (some 101) (v := ?_) rfl rfl (by kernel_rfl) (by kernel_rfl) (by kernel_rfl) (fun _ _ _ h => h) (by rfl) ?_ ?_
      rotate_left
      · intro W hW; have k1 := HNC1.out; have k2 := HNC2.out; go_simp; first | done | with_reducible rfl
      try simp only [Act.put, List.setIfInBounds_toArray, List.set_cons_zero, List.set_cons_succ]
      refine reg_take 8 (some 104) (v := ?_) rfl rfl (by kernel_rfl) (by kernel_rfl) (by kernel_rfl) (fun _ _ _ h => h) (by rfl) ?_ ?_
      rotate_left
      · intro W hW; go_simp; first | done | with_reducible rfl
      try simp only [Act.put, List.setIfInBounds_toArray, List.set_cons_zero, List.set_cons_succ]
      refine reg_take 9 (some 105) (v := ?_) rfl rfl (by kernel_rfl) (by kernel_rfl) (by kernel_rfl) (fun _ _ _ h => h) (by rfl) ?_ ?_
      rotate_left
      · intro W hW; go_simp; first | done | with_reducible rfl
      try simp only [Act.put, List.setIfInBounds_toArray, List.set_cons_zero, List.set_cons_succ]
      refine reg_take 10 (some 106) (v := ?_) rfl rfl (by kernel_rfl) (by kernel_rfl) (by kernel_rfl) (fun _ _ _ h => h) (by rfl) ?_ ?_
      rotate_left
      · intro W hW; go_simp; first | done | with_reducible rfl
      try simp only [Act.put, List.setIfInBounds_toArray, List.set_cons_zero, List.set_cons_succ]
      refine reg_take 12 (some 108) (v := ?_) rfl rfl (by kernel_rfl) (by kernel_rfl) (by kernel_rfl) (fun _ _ _ h => h) (by rfl) ?_ ?_
      rotate_left
      · intro W hW; go_simp; first | done | with_reducible rfl
      try simp only [Act.put, List.setIfInBounds_toArray, List.set_cons_zero, List.set_cons_succ]
      refine reg_take 13 (some 109) (v := ?_) rfl rfl (by kernel_rfl) (by kernel_rfl) (by kernel_rfl) (fun _ _ _ h => h) (by rfl) ?_ ?_
      rotate_left
      · intro W hW; go_simp; first | done | with_reducible rfl
      try simp only [Act.put, List.setIfInBounds_toArray, List.set_cons_zero, List.set_cons_succ]
      refine reg_take 14 (some 110) (v := ?_) rfl rfl (by kernel_rfl) (by kernel_rfl) (by kernel_rfl) (fun _ _ _ h => h) (by rfl) ?_ ?_
      rotate_left
      · intro W hW; go_simp; first | done | with_reducible rfl
      try simp only [Act.put, List.setIfInBounds_toArray, List.set_cons_zero, List.set_cons_succ]
      refine reg_take 15 (some 111) (v := ?_) rfl rfl (by kernel_rfl) (by kernel_rfl) (by kernel_rfl) (fun _ _ _ h => h) (by rfl) ?_ ?_
      rotate_left
      · intro W hW; go_simp; first | done | with_reducible rfl
      try simp only [Act.put, List.setIfInBounds_toArray, List.set_cons_zero, List.set_cons_succ]
      refine reg_take 16 (some 112) (v := ?_) rfl rfl (by kernel_rfl) (by kernel_rfl) (by kernel_rfl) (fun _ _ _ h => h) (by rfl) ?_ ?_
      rotate_left
      · intro W hW; go_simp; first | done | with_reducible rfl
      try simp only [Act.put, List.setIfInBounds_toArray, List.set_cons_zero, List.set_cons_succ]
      refine wpAnyH_ready (rs := [11]) (by kernel_rfl) (by simp) ?_
      refine (AllReadyH.cons (o := { dst := some 107, op := Op.call { callee := Callee.value (Operand.func 28), args := #[Operand.tmp 106], argTypes := #[23] }, type := 3, pos := "law.go:192", after := #[{ on := 10, ground := Ground.data }, { on := 9, ground := Ground.chain }, { on := 9, ground := Ground.guard }], guard := some (9, false) }) rfl (fun K hK => ?_) AllReadyH.nil)
      go_simp
      refine (waits_lk B c3 q _ (HO3.out.wk.ls.keptNone (drewl h1)).lk (HQ.out.keptNone (drewl h1)) hql).mono ?_; rintro e u2 ⟨rfl, h2⟩
      refine reg_next hK h2 ?_
      clear hK K
      try simp only [Act.put, List.setIfInBounds_toArray, List.set_cons_zero, List.set_cons_succ]
      refine reg_take 17 (some 113) (v := ?_) rfl rfl (by kernel_rfl) (by kernel_rfl) (by kernel_rfl) (fun _ _ _ h => h) (by rfl) ?_ ?_
      rotate_left
      · intro W hW; go_simp; first | done | with_reducible rfl
      try simp only [Act.put, List.setIfInBounds_toArray, List.set_cons_zero, List.set_cons_succ]
      refine reg_take 18 (some 114) (v := ?_) rfl rfl (by kernel_rfl) (by kernel_rfl) (by kernel_rfl) (fun _ _ _ h => h) (by rfl) ?_ ?_
      rotate_left
      · intro W hW; go_simp; first | done | with_reducible rfl
      try simp only [Act.put, List.setIfInBounds_toArray, List.set_cons_zero, List.set_cons_succ]
      refine wpAnyH_done (by kernel_rfl) ?_ _
      have HO4 := Lib.hid (HO3.out.kn (drewl (h1.trans h2)))
      clear h1 h2 hQ1
      go_wp2
      go_roundw
      case rel => exact ⟨k + 1, by omega, by simp, c3, g3, li, lo, _, _, _, _, rfl, rfl, HO4.out, by omega, by omega⟩
      case measure => simp [intOf]; omega
    by_cases h4 : what = 4
    · subst h4
      have c0 := cells_all HCX.out 0
      have c1 := cells_all HCX.out 1
      have c2 := cells_all HCX.out 2
      have c3' := cells_all HCX.out 3
      have c4 := cells_all HCX.out 4
      have c5 := cells_all HCX.out 5
      go_wp2_with fail
      refine (ls_setMask B c g word hwd _ HOx.out.wk.ls).mono ?_; rintro e w3 ⟨rfl, c3, hp⟩
      obtain ⟨g3, hg3⟩ : ∃ g3, g3 = { g with mask := word % 16 } := ⟨_, rfl⟩
      rw [← hg3] at hp
      have HO3 := Lib.hid (show OS w w3 B c3 g3 (.slice ai li.length ci) (.slice ao lo.length co) li lo from HOx.out.line hp (by rw [hg3]) (by rw [hg3]) (by rw [hg3]; exact ⟨HOx.out.wg.al, Nat.mod_lt _ (by decide), HOx.out.wg.tk, HOx.out.wg.wt⟩))
      have hbp3 : g3.pushed.length ≤ 256 * (k + 1) := by rw [hg3]; show g.pushed.length ≤ _; omega
      have hbt3 : g3.told.length ≤ k + 1 := by rw [hg3]; show g.told.length ≤ _; omega
      have HG3 := Lib.hid hg3
      clear hp hg3 HOx HCX
      obtain ⟨q, hqe⟩ : ∃ q, q = g3.pushed.drop g3.taken := ⟨_, rfl⟩
      have hli3 := HO3.out.hi
      have hlo3 := HO3.out.ho
      have hcat : lo ++ q = li := by rw [hlo3, hqe, hli3]; exact List.take_append_drop _ _
      have hq0 := HO3.out.wk.ls.q
      rw [← hqe] at hq0
      have HQ := Lib.hid hq0
      have htk3 := HO3.out.wg.tk
      have hqn : q.length = g3.pushed.length - g3.taken := by rw [hqe]; exact List.length_drop
      have hlin : li.length = g3.pushed.length := by rw [hli3]
      have hlon : lo.length = g3.taken := by rw [hlo3, List.length_take]; omega
      have hql : q.length ≤ 1000000 := by omega
      have hws : IntKind.i64.wrap ((li.length : Int) - (lo.length : Nat)) = (q.length : Nat) := by rw [IntKind.wrap_i64]; omega
      have hl1 : lo.length ≤ 1000000 := by omega
      have HNC1 := Lib.hid (show ¬ (9223372036854775807 < lo.length + q.length) by omega)
      have HNC2 := Lib.hid (show (ByteArray.mk lo.toArray ++ ByteArray.mk q.toArray) = ByteArray.mk li.toArray by rw [ByteArray.mk_append_mk, hcat])
      have HX0 := Lib.hid hqe
      have HX1 := Lib.hid hli3
      have HX2 := Lib.hid hlo3
      clear hq0 hqe hli3 hlo3 hlin hlon hqn htk3 hcat
      go_wp2
      refine reg_open (none) (n := 19) rfl (by kernel_rfl) ?_
      refine reg_take 0 (some 96) (v := ?_) rfl rfl (by kernel_rfl) (by kernel_rfl) (by kernel_rfl) (fun _ _ _ h => h) (by rfl) ?_ ?_
      rotate_left
      · intro W hW; go_simp; first | done | with_reducible rfl
      try simp only [Act.put, List.setIfInBounds_toArray, List.set_cons_zero, List.set_cons_succ]
      refine reg_take 1 (some 97) (v := ?_) rfl rfl (by kernel_rfl) (by kernel_rfl) (by kernel_rfl) (fun _ _ _ h => h) (by rfl) ?_ ?_
      rotate_left
      · intro W hW; have k := conv_sl (HO3.out.so.keptNone (drewl hW)); go_simp; first | done | with_reducible rfl
      try simp only [Act.put, List.setIfInBounds_toArray, List.set_cons_zero, List.set_cons_succ]
      refine reg_take 2 (some 98) (v := ?_) rfl rfl (by kernel_rfl) (by kernel_rfl) (by kernel_rfl) (fun _ _ _ h => h) (by rfl) ?_ ?_
      rotate_left
      · intro W hW; go_simp; first | done | with_reducible rfl
      try simp only [Act.put, List.setIfInBounds_toArray, List.set_cons_zero, List.set_cons_succ]
      refine reg_take 6 (some 102) (v := ?_) rfl rfl (by kernel_rfl) (by kernel_rfl) (by kernel_rfl) (fun _ _ _ h => h) (by rfl) ?_ ?_
      rotate_left
      · intro W hW; go_simp; first | done | with_reducible rfl
      try simp only [Act.put, List.setIfInBounds_toArray, List.set_cons_zero, List.set_cons_succ]
      refine reg_take 7 (some 103) (v := ?_) rfl rfl (by kernel_rfl) (by kernel_rfl) (by kernel_rfl) (fun _ _ _ h => h) (by rfl) ?_ ?_
      rotate_left
      · intro W hW; have k := conv_sl (HO3.out.si.keptNone (drewl hW)); go_simp; first | done | with_reducible rfl
      try simp only [Act.put, List.setIfInBounds_toArray, List.set_cons_zero, List.set_cons_succ]
      refine wpAnyH_ready (rs := [3]) (by kernel_rfl) (by simp) ?_
      refine (AllReadyH.cons (o := { dst := some 99, op := Op.call { callee := Callee.value (Operand.func 27), args := #[Operand.tmp 98], argTypes := #[23] }, type := 27, pos := "law.go:192", after := #[{ on := 2, ground := Ground.data }], guard := none }) rfl (fun K hK => ?_) AllReadyH.nil)
      go_simp
      refine (queue_sl B c3 q _ HO3.out.wk.ls.drew.lk HQ.out hql).mono ?_; rintro e u1 ⟨a1, cap1, rfl, hQ1, h1⟩
      refine reg_next hK h1 ?_
      clear hK K
      try simp only [Act.put, List.setIfInBounds_toArray, List.set_cons_zero, List.set_cons_succ]
      refine reg_take 4 (some 100) (v := ?_) rfl rfl (by kernel_rfl) (by kernel_rfl) (by kernel_rfl) (fun _ _ _ h => h) (by rfl) ?_ ?_
      rotate_left
      · intro W hW; have k := conv_sl (hQ1.keptNone hW); go_simp; first | done | with_reducible rfl
      try simp only [Act.put, List.setIfInBounds_toArray, List.set_cons_zero, List.set_cons_succ]
      refine reg_take 5 (some 101) (v := ?_) rfl rfl (by kernel_rfl) (by kernel_rfl) (by kernel_rfl) (fun _ _ _ h => h) (by rfl) ?_ ?_
      rotate_left
      · intro W hW; have k1 := HNC1.out; have k2 := HNC2.out; go_simp; first | done | with_reducible rfl
      try simp only [Act.put, List.setIfInBounds_toArray, List.set_cons_zero, List.set_cons_succ]
      refine reg_take 8 (some 104) (v := ?_) rfl rfl (by kernel_rfl) (by kernel_rfl) (by kernel_rfl) (fun _ _ _ h => h) (by rfl) ?_ ?_
      rotate_left
      · intro W hW; go_simp; first | done | with_reducible rfl
      try simp only [Act.put, List.setIfInBounds_toArray, List.set_cons_zero, List.set_cons_succ]
      refine reg_take 9 (some 105) (v := ?_) rfl rfl (by kernel_rfl) (by kernel_rfl) (by kernel_rfl) (fun _ _ _ h => h) (by rfl) ?_ ?_
      rotate_left
      · intro W hW; go_simp; first | done | with_reducible rfl
      try simp only [Act.put, List.setIfInBounds_toArray, List.set_cons_zero, List.set_cons_succ]
      refine reg_take 10 (some 106) (v := ?_) rfl rfl (by kernel_rfl) (by kernel_rfl) (by kernel_rfl) (fun _ _ _ h => h) (by rfl) ?_ ?_
      rotate_left
      · intro W hW; go_simp; first | done | with_reducible rfl
      try simp only [Act.put, List.setIfInBounds_toArray, List.set_cons_zero, List.set_cons_succ]
      refine reg_take 12 (some 108) (v := ?_) rfl rfl (by kernel_rfl) (by kernel_rfl) (by kernel_rfl) (fun _ _ _ h => h) (by rfl) ?_ ?_
      rotate_left
      · intro W hW; go_simp; first | done | with_reducible rfl
      try simp only [Act.put, List.setIfInBounds_toArray, List.set_cons_zero, List.set_cons_succ]
      refine reg_take 13 (some 109) (v := ?_) rfl rfl (by kernel_rfl) (by kernel_rfl) (by kernel_rfl) (fun _ _ _ h => h) (by rfl) ?_ ?_
      rotate_left
      · intro W hW; go_simp; first | done | with_reducible rfl
      try simp only [Act.put, List.setIfInBounds_toArray, List.set_cons_zero, List.set_cons_succ]
      refine reg_take 14 (some 110) (v := ?_) rfl rfl (by kernel_rfl) (by kernel_rfl) (by kernel_rfl) (fun _ _ _ h => h) (by rfl) ?_ ?_
      rotate_left
      · intro W hW; go_simp; first | done | with_reducible rfl
      try simp only [Act.put, List.setIfInBounds_toArray, List.set_cons_zero, List.set_cons_succ]
      refine reg_take 15 (some 111) (v := ?_) rfl rfl (by kernel_rfl) (by kernel_rfl) (by kernel_rfl) (fun _ _ _ h => h) (by rfl) ?_ ?_
      rotate_left
      · intro W hW; go_simp; first | done | with_reducible rfl
      try simp only [Act.put, List.setIfInBounds_toArray, List.set_cons_zero, List.set_cons_succ]
      refine reg_take 16 (some 112) (v := ?_) rfl rfl (by kernel_rfl) (by kernel_rfl) (by kernel_rfl) (fun _ _ _ h => h) (by rfl) ?_ ?_
      rotate_left
      · intro W hW; go_simp; first | done | with_reducible rfl
      try simp only [Act.put, List.setIfInBounds_toArray, List.set_cons_zero, List.set_cons_succ]
      refine wpAnyH_ready (rs := [11]) (by kernel_rfl) (by simp) ?_
      refine (AllReadyH.cons (o := { dst := some 107, op := Op.call { callee := Callee.value (Operand.func 28), args := #[Operand.tmp 106], argTypes := #[23] }, type := 3, pos := "law.go:192", after := #[{ on := 10, ground := Ground.data }, { on := 9, ground := Ground.chain }, { on := 9, ground := Ground.guard }], guard := some (9, false) }) rfl (fun K hK => ?_) AllReadyH.nil)
      go_simp
      refine (waits_lk B c3 q _ (HO3.out.wk.ls.keptNone (drewl h1)).lk (HQ.out.keptNone (drewl h1)) hql).mono ?_; rintro e u2 ⟨rfl, h2⟩
      refine reg_next hK h2 ?_
      clear hK K
      try simp only [Act.put, List.setIfInBounds_toArray, List.set_cons_zero, List.set_cons_succ]
      refine reg_take 17 (some 113) (v := ?_) rfl rfl (by kernel_rfl) (by kernel_rfl) (by kernel_rfl) (fun _ _ _ h => h) (by rfl) ?_ ?_
      rotate_left
      · intro W hW; go_simp; first | done | with_reducible rfl
      try simp only [Act.put, List.setIfInBounds_toArray, List.set_cons_zero, List.set_cons_succ]
      refine reg_take 18 (some 114) (v := ?_) rfl rfl (by kernel_rfl) (by kernel_rfl) (by kernel_rfl) (fun _ _ _ h => h) (by rfl) ?_ ?_
      rotate_left
      · intro W hW; go_simp; first | done | with_reducible rfl
      try simp only [Act.put, List.setIfInBounds_toArray, List.set_cons_zero, List.set_cons_succ]
      refine wpAnyH_done (by kernel_rfl) ?_ _
      have HO4 := Lib.hid (HO3.out.kn (drewl (h1.trans h2)))
      clear h1 h2 hQ1
      go_wp2
      go_roundw
      case rel => exact ⟨k + 1, by omega, by simp, c3, g3, li, lo, _, _, _, _, rfl, rfl, HO4.out, by omega, by omega⟩
      case measure => simp [intOf]; omega
    have q0 : (what == 0) = false := by simp [h0]
    have q1 : (what == 1) = false := by simp [h1]
    have q2 : (what == 2) = false := by simp [h2]
    have q3 : (what == 3) = false := by simp [h3]
    have q4 : (what == 4) = false := by simp [h4]
    clear h0 h1 h2 h3 h4
    have c0 := cells_all HCX.out 0
    have c1 := cells_all HCX.out 1
    have c2 := cells_all HCX.out 2
    have c3' := cells_all HCX.out 3
    have c4 := cells_all HCX.out 4
    have c5 := cells_all HCX.out 5
    have CP := ls_raise B c g line up w2 HOx.out.wk.ls
    generalize (if line = 2 ∨ line = 3 then (0 : Int) else 2) = rz at CP
    go_wp2_with fail
    refine (CP).mono ?_; rintro e w3 ⟨rfl, c3, hp⟩
    obtain ⟨g3, hg3⟩ : ∃ g3, g3 = g.raise line up := ⟨_, rfl⟩
    rw [← hg3] at hp
    have HO3 := Lib.hid (show OS w w3 B c3 g3 (.slice ai li.length ci) (.slice ao lo.length co) li lo from HOx.out.line hp (by rw [hg3, Gh.raise_pushed]) (by rw [hg3, Gh.raise_taken]) (by rw [hg3]; exact HOx.out.wg.raise line up))
    have hbp3 : g3.pushed.length ≤ 256 * (k + 1) := by rw [hg3, Gh.raise_pushed]; omega
    have hbt3 : g3.told.length ≤ k + 1 := by rw [hg3]; rw [Gh.raise_told]; omega
    have HG3 := Lib.hid hg3
    clear hp hg3 HOx HCX
    obtain ⟨q, hqe⟩ : ∃ q, q = g3.pushed.drop g3.taken := ⟨_, rfl⟩
    have hli3 := HO3.out.hi
    have hlo3 := HO3.out.ho
    have hcat : lo ++ q = li := by rw [hlo3, hqe, hli3]; exact List.take_append_drop _ _
    have hq0 := HO3.out.wk.ls.q
    rw [← hqe] at hq0
    have HQ := Lib.hid hq0
    have htk3 := HO3.out.wg.tk
    have hqn : q.length = g3.pushed.length - g3.taken := by rw [hqe]; exact List.length_drop
    have hlin : li.length = g3.pushed.length := by rw [hli3]
    have hlon : lo.length = g3.taken := by rw [hlo3, List.length_take]; omega
    have hql : q.length ≤ 1000000 := by omega
    have hws : IntKind.i64.wrap ((li.length : Int) - (lo.length : Nat)) = (q.length : Nat) := by rw [IntKind.wrap_i64]; omega
    have hl1 : lo.length ≤ 1000000 := by omega
    have HNC1 := Lib.hid (show ¬ (9223372036854775807 < lo.length + q.length) by omega)
    have HNC2 := Lib.hid (show (ByteArray.mk lo.toArray ++ ByteArray.mk q.toArray) = ByteArray.mk li.toArray by rw [ByteArray.mk_append_mk, hcat])
    have HX0 := Lib.hid hqe
    have HX1 := Lib.hid hli3
    have HX2 := Lib.hid hlo3
    clear hq0 hqe hli3 hlo3 hlin hlon hqn htk3 hcat
    go_wp2
    refine reg_open (none) (n := 19) rfl (by kernel_rfl) ?_
    refine reg_take 0 (some 96) (v := ?_) rfl rfl (by kernel_rfl) (by kernel_rfl) (by kernel_rfl) (fun _ _ _ h => h) (by rfl) ?_ ?_
    rotate_left
    · intro W hW; go_simp; first | done | with_reducible rfl
    try simp only [Act.put, List.setIfInBounds_toArray, List.set_cons_zero, List.set_cons_succ]
    refine reg_take 1 (some 97) (v := ?_) rfl rfl (by kernel_rfl) (by kernel_rfl) (by kernel_rfl) (fun _ _ _ h => h) (by rfl) ?_ ?_
    rotate_left
    · intro W hW; have k := conv_sl (HO3.out.so.keptNone (drewl hW)); go_simp; first | done | with_reducible rfl
    try simp only [Act.put, List.setIfInBounds_toArray, List.set_cons_zero, List.set_cons_succ]
    refine reg_take 2 (some 98) (v := ?_) rfl rfl (by kernel_rfl) (by kernel_rfl) (by kernel_rfl) (fun _ _ _ h => h) (by rfl) ?_ ?_
    rotate_left
    · intro W hW; go_simp; first | done | with_reducible rfl
    try simp only [Act.put, List.setIfInBounds_toArray, List.set_cons_zero, List.set_cons_succ]
    refine reg_take 6 (some 102) (v := ?_) rfl rfl (by kernel_rfl) (by kernel_rfl) (by kernel_rfl) (fun _ _ _ h => h) (by rfl) ?_ ?_
    rotate_left
    · intro W hW; go_simp; first | done | with_reducible rfl
    try simp only [Act.put, List.setIfInBounds_toArray, List.set_cons_zero, List.set_cons_succ]
    refine reg_take 7 (some 103) (v := ?_) rfl rfl (by kernel_rfl) (by kernel_rfl) (by kernel_rfl) (fun _ _ _ h => h) (by rfl) ?_ ?_
    rotate_left
    · intro W hW; have k := conv_sl (HO3.out.si.keptNone (drewl hW)); go_simp; first | done | with_reducible rfl
    try simp only [Act.put, List.setIfInBounds_toArray, List.set_cons_zero, List.set_cons_succ]
    refine wpAnyH_ready (rs := [3]) (by kernel_rfl) (by simp) ?_
    refine (AllReadyH.cons (o := { dst := some 99, op := Op.call { callee := Callee.value (Operand.func 27), args := #[Operand.tmp 98], argTypes := #[23] }, type := 27, pos := "law.go:192", after := #[{ on := 2, ground := Ground.data }], guard := none }) rfl (fun K hK => ?_) AllReadyH.nil)
    go_simp
    refine (queue_sl B c3 q _ HO3.out.wk.ls.drew.lk HQ.out hql).mono ?_; rintro e u1 ⟨a1, cap1, rfl, hQ1, h1⟩
    refine reg_next hK h1 ?_
    clear hK K
    try simp only [Act.put, List.setIfInBounds_toArray, List.set_cons_zero, List.set_cons_succ]
    refine reg_take 4 (some 100) (v := ?_) rfl rfl (by kernel_rfl) (by kernel_rfl) (by kernel_rfl) (fun _ _ _ h => h) (by rfl) ?_ ?_
    rotate_left
    · intro W hW; have k := conv_sl (hQ1.keptNone hW); go_simp; first | done | with_reducible rfl
    try simp only [Act.put, List.setIfInBounds_toArray, List.set_cons_zero, List.set_cons_succ]
    refine reg_take 5 (some 101) (v := ?_) rfl rfl (by kernel_rfl) (by kernel_rfl) (by kernel_rfl) (fun _ _ _ h => h) (by rfl) ?_ ?_
    rotate_left
    · intro W hW; have k1 := HNC1.out; have k2 := HNC2.out; go_simp; first | done | with_reducible rfl
    try simp only [Act.put, List.setIfInBounds_toArray, List.set_cons_zero, List.set_cons_succ]
    refine reg_take 8 (some 104) (v := ?_) rfl rfl (by kernel_rfl) (by kernel_rfl) (by kernel_rfl) (fun _ _ _ h => h) (by rfl) ?_ ?_
    rotate_left
    · intro W hW; go_simp; first | done | with_reducible rfl
    try simp only [Act.put, List.setIfInBounds_toArray, List.set_cons_zero, List.set_cons_succ]
    refine reg_take 9 (some 105) (v := ?_) rfl rfl (by kernel_rfl) (by kernel_rfl) (by kernel_rfl) (fun _ _ _ h => h) (by rfl) ?_ ?_
    rotate_left
    · intro W hW; go_simp; first | done | with_reducible rfl
    try simp only [Act.put, List.setIfInBounds_toArray, List.set_cons_zero, List.set_cons_succ]
    refine reg_take 10 (some 106) (v := ?_) rfl rfl (by kernel_rfl) (by kernel_rfl) (by kernel_rfl) (fun _ _ _ h => h) (by rfl) ?_ ?_
    rotate_left
    · intro W hW; go_simp; first | done | with_reducible rfl
    try simp only [Act.put, List.setIfInBounds_toArray, List.set_cons_zero, List.set_cons_succ]
    refine reg_take 12 (some 108) (v := ?_) rfl rfl (by kernel_rfl) (by kernel_rfl) (by kernel_rfl) (fun _ _ _ h => h) (by rfl) ?_ ?_
    rotate_left
    · intro W hW; go_simp; first | done | with_reducible rfl
    try simp only [Act.put, List.setIfInBounds_toArray, List.set_cons_zero, List.set_cons_succ]
    refine reg_take 13 (some 109) (v := ?_) rfl rfl (by kernel_rfl) (by kernel_rfl) (by kernel_rfl) (fun _ _ _ h => h) (by rfl) ?_ ?_
    rotate_left
    · intro W hW; go_simp; first | done | with_reducible rfl
    try simp only [Act.put, List.setIfInBounds_toArray, List.set_cons_zero, List.set_cons_succ]
    refine reg_take 14 (some 110) (v := ?_) rfl rfl (by kernel_rfl) (by kernel_rfl) (by kernel_rfl) (fun _ _ _ h => h) (by rfl) ?_ ?_
    rotate_left
    · intro W hW; go_simp; first | done | with_reducible rfl
    try simp only [Act.put, List.setIfInBounds_toArray, List.set_cons_zero, List.set_cons_succ]
    refine reg_take 15 (some 111) (v := ?_) rfl rfl (by kernel_rfl) (by kernel_rfl) (by kernel_rfl) (fun _ _ _ h => h) (by rfl) ?_ ?_
    rotate_left
    · intro W hW; go_simp; first | done | with_reducible rfl
    try simp only [Act.put, List.setIfInBounds_toArray, List.set_cons_zero, List.set_cons_succ]
    refine reg_take 16 (some 112) (v := ?_) rfl rfl (by kernel_rfl) (by kernel_rfl) (by kernel_rfl) (fun _ _ _ h => h) (by rfl) ?_ ?_
    rotate_left
    · intro W hW; go_simp; first | done | with_reducible rfl
    try simp only [Act.put, List.setIfInBounds_toArray, List.set_cons_zero, List.set_cons_succ]
    refine wpAnyH_ready (rs := [11]) (by kernel_rfl) (by simp) ?_
    refine (AllReadyH.cons (o := { dst := some 107, op := Op.call { callee := Callee.value (Operand.func 28), args := #[Operand.tmp 106], argTypes := #[23] }, type := 3, pos := "law.go:192", after := #[{ on := 10, ground := Ground.data }, { on := 9, ground := Ground.chain }, { on := 9, ground := Ground.guard }], guard := some (9, false) }) rfl (fun K hK => ?_) AllReadyH.nil)
    go_simp
    refine (waits_lk B c3 q _ (HO3.out.wk.ls.keptNone (drewl h1)).lk (HQ.out.keptNone (drewl h1)) hql).mono ?_; rintro e u2 ⟨rfl, h2⟩
    refine reg_next hK h2 ?_
    clear hK K
    try simp only [Act.put, List.setIfInBounds_toArray, List.set_cons_zero, List.set_cons_succ]
    refine reg_take 17 (some 113) (v := ?_) rfl rfl (by kernel_rfl) (by kernel_rfl) (by kernel_rfl) (fun _ _ _ h => h) (by rfl) ?_ ?_
    rotate_left
    · intro W hW; go_simp; first | done | with_reducible rfl
    try simp only [Act.put, List.setIfInBounds_toArray, List.set_cons_zero, List.set_cons_succ]
    refine reg_take 18 (some 114) (v := ?_) rfl rfl (by kernel_rfl) (by kernel_rfl) (by kernel_rfl) (fun _ _ _ h => h) (by rfl) ?_ ?_
    rotate_left
    · intro W hW; go_simp; first | done | with_reducible rfl
    try simp only [Act.put, List.setIfInBounds_toArray, List.set_cons_zero, List.set_cons_succ]
    refine wpAnyH_done (by kernel_rfl) ?_ _
    have HO4 := Lib.hid (HO3.out.kn (drewl (h1.trans h2)))
    clear h1 h2 hQ1
    go_wp2
    go_roundw
    case rel => exact ⟨k + 1, by omega, by simp, c3, g3, li, lo, _, _, _, _, rfl, rfl, HO4.out, by omega, by omega⟩
    case measure => simp [intOf]; omega
end Go.Proofs.Ytmdgehpmeikgfaa
