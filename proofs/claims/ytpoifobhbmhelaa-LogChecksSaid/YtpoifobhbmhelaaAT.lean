/- LogChecks: the walk. -/
import Derived.Test.YtpoifobhbmhelaaAS
set_option linter.unusedVariables false
set_option linter.unusedSimpArgs false
namespace Go.Proofs.Ytpoifobhbmhelaa
open Go.RowKit
theorem box_b (w : World) (o : Obj) {o2 : Obj} {cs : Array Value} {t : TypeId} (h : o2 = .cells cs t) : ((w.alloc o).alloc o2).heap[w.heap.size + 1]? = some (.cells cs t (0, 0)) := by
  subst h
  have h := heap_alloc_new (w.alloc o) (.cells cs t)
  rwa [World.size_alloc] at h
set_option maxRecDepth 100000 in
set_option maxHeartbeats 4000000 in
theorem chk_many1 (f s m : Int) (a : Option Addr) (n c : Nat) (ts : List Rv) (wh : Bool) (e : Int) (f2 s2 m2 : Int) (a2 : Option Addr) (n2 c2 : Nat) (us : List Rv) (wh2 : Bool) (e2 : Int) (w : World) (hn : n = ts.length) (hn2 : n2 = us.length) (hs : RL w a ts) (hs2 : RL w a2 us) (hm : n ≤ 9223372036854775807) (hf : ¬ fewS ts ≤ 20000) : Calls Try.prog 9 #[lgV f s m a n c wh e, lgV f2 s2 m2 a2 n2 c2 wh2 e2] w fun e w' => e = .returned (.bool true) ∧ w.grownBy w' none := by
  have HA := Lib.hid ((World.grownBy_alloc w (boxL f s m a n c wh e) none).trans (World.grownBy_alloc _ (boxL f2 s2 m2 a2 n2 c2 wh2 e2) none))
  have HB := Lib.hid (keep_blk (World.grownBy_alloc _ (boxL f2 s2 m2 a2 n2 c2 wh2 e2) none) (heap_alloc_new w (boxL f s m a n c wh e)))
  have HBY := Lib.hid (box_b w (boxL f s m a n c wh e) (o2 := (boxL f2 s2 m2 a2 n2 c2 wh2 e2)) rfl)
  have HS := Lib.hid (hs.kept HA.out)
  have HSY := Lib.hid (hs2.kept HA.out)
  have HC := Lib.hid (few_no (f := f) (s := s) (m := m) (c := c) (wh := wh) (e := e) hn HS.out hm hf)
  clear hn hn2 hs hs2 hm hf
  go_enter Try.func9, Try.ntmps9
  go_wp2_with fail
  refine HC.out.mono ?_; rintro e1 w1 ⟨rfl, hg1⟩
  have HG1 := Lib.hid (HA.out.trans hg1)
  clear hg1
  go_wp2_with fail
  refine (works_any _).mono ?_; rintro e w2 ⟨rfl, hg2⟩
  have HG2 := Lib.hid (HG1.out.trans hg2)
  clear hg2
  go_wp2
  go_ret
  exact ⟨rfl, HG2.out⟩
set_option maxRecDepth 100000 in
set_option maxHeartbeats 4000000 in
theorem chk_many2 (f s m : Int) (a : Option Addr) (n c : Nat) (ts : List Rv) (wh : Bool) (e : Int) (f2 s2 m2 : Int) (a2 : Option Addr) (n2 c2 : Nat) (us : List Rv) (wh2 : Bool) (e2 : Int) (w : World) (hn : n = ts.length) (hn2 : n2 = us.length) (hs : RL w a ts) (hs2 : RL w a2 us) (hm : n2 ≤ 9223372036854775807) (hf : fewS ts ≤ 20000) (hf2 : ¬ fewS us ≤ 20000) : Calls Try.prog 9 #[lgV f s m a n c wh e, lgV f2 s2 m2 a2 n2 c2 wh2 e2] w fun e w' => e = .returned (.bool true) ∧ w.grownBy w' none := by
  have HA := Lib.hid ((World.grownBy_alloc w (boxL f s m a n c wh e) none).trans (World.grownBy_alloc _ (boxL f2 s2 m2 a2 n2 c2 wh2 e2) none))
  have HB := Lib.hid (keep_blk (World.grownBy_alloc _ (boxL f2 s2 m2 a2 n2 c2 wh2 e2) none) (heap_alloc_new w (boxL f s m a n c wh e)))
  have HBY := Lib.hid (box_b w (boxL f s m a n c wh e) (o2 := (boxL f2 s2 m2 a2 n2 c2 wh2 e2)) rfl)
  have HS := Lib.hid (hs.kept HA.out)
  have HSY := Lib.hid (hs2.kept HA.out)
  have HC := Lib.hid (few_yes (f := f) (s := s) (m := m) (c := c) (wh := wh) (e := e) hn HS.out hf)
  have HC2 := Lib.hid (fun (W : World) (h : RL W a2 us) => few_no (f := f2) (s := s2) (m := m2) (c := c2) (wh := wh2) (e := e2) hn2 h hm hf2)
  clear hn hn2 hs hs2 hm hf hf2
  go_enter Try.func9, Try.ntmps9
  go_wp2_with fail
  refine HC.out.mono ?_; rintro e1 w1 ⟨rfl, hg1⟩
  have HG1 := Lib.hid (HA.out.trans hg1)
  have HB1 := Lib.hid (keep_blk hg1 HB.out)
  have HBY1 := Lib.hid (keep_blk hg1 HBY.out)
  have HS1 := Lib.hid (HS.out.kept hg1)
  have HSY1 := Lib.hid (HSY.out.kept hg1)
  have j0 := cells_all HBY1.out 0
  have j1 := cells_all HBY1.out 1
  have j2 := cells_all HBY1.out 2
  have j3 := cells_all HBY1.out 3
  have j4 := cells_all HBY1.out 4
  have j5 := cells_all HBY1.out 5
  simp only [List.getElem?_toArray, List.getElem?_cons_zero, List.getElem?_cons_succ] at j0 j1 j2 j3 j4 j5
  clear hg1
  go_wp2_with fail
  refine (HC2.out _ HSY1.out).mono ?_; rintro e2 w2 ⟨rfl, hg2⟩
  have HG2 := Lib.hid (HG1.out.trans hg2)
  clear hg2 j0 j1 j2 j3 j4 j5
  go_wp2_with fail
  refine (works_any _).mono ?_; rintro e w3 ⟨rfl, hg3⟩
  have HG3 := Lib.hid (HG2.out.trans hg3)
  clear hg3
  go_wp2
  go_ret
  exact ⟨rfl, HG3.out⟩
set_option maxRecDepth 100000 in
set_option maxHeartbeats 4000000 in
theorem chk_few (f s m : Int) (a : Option Addr) (n c : Nat) (ts : List Rv) (wh : Bool) (e : Int) (f2 s2 m2 : Int) (a2 : Option Addr) (n2 c2 : Nat) (us : List Rv) (wh2 : Bool) (e2 : Int) (w : World) (hn : n = ts.length) (hn2 : n2 = us.length) (hs : RL w a ts) (hs2 : RL w a2 us) (hf : fewS ts ≤ 20000) (hf2 : fewS us ≤ 20000) : Calls Try.prog 9 #[lgV f s m a n c wh e, lgV f2 s2 m2 a2 n2 c2 wh2 e2] w fun e w' => e = .returned (.bool true) ∧ w.grownBy w' none := by
  have HA := Lib.hid ((World.grownBy_alloc w (boxL f s m a n c wh e) none).trans (World.grownBy_alloc _ (boxL f2 s2 m2 a2 n2 c2 wh2 e2) none))
  have HB := Lib.hid (keep_blk (World.grownBy_alloc _ (boxL f2 s2 m2 a2 n2 c2 wh2 e2) none) (heap_alloc_new w (boxL f s m a n c wh e)))
  have HBY := Lib.hid (box_b w (boxL f s m a n c wh e) (o2 := (boxL f2 s2 m2 a2 n2 c2 wh2 e2)) rfl)
  have HS := Lib.hid (hs.kept HA.out)
  have HSY := Lib.hid (hs2.kept HA.out)
  have HC := Lib.hid (few_yes (f := f) (s := s) (m := m) (c := c) (wh := wh) (e := e) hn HS.out hf)
  have HC2 := Lib.hid (fun (W : World) (h : RL W a2 us) => few_yes (f := f2) (s := s2) (m := m2) (c := c2) (wh := wh2) (e := e2) hn2 h hf2)
  have hl : ts.length ≤ 1000000 := by have := few_len hf; omega
  obtain ⟨V, hV⟩ : ∃ V, V = ckV ⟨f, s, m, rsOf ts, wh, e⟩ := ⟨_, rfl⟩
  obtain ⟨E, hE⟩ : ∃ E, E = decide (LgEq f s m ts wh e f2 s2 m2 us wh2 e2) := ⟨_, rfl⟩
  have h1 := fun (W : World) (h : RL W a ts) => check_any f s m a c ts wh e W h hl
  have h2 := fun (W : World) (h : RL W a ts) => rcheck_any f s m a c ts wh e W h hl
  have h3 := fun (W : World) (h : RL W a ts) (g : RL W a2 us) => same_any f s m a c ts wh e f2 s2 m2 a2 c2 us wh2 e2 W h g hl
  have h4 := fun (W : World) (h : RL W a ts) (g : RL W a2 us) => rsame_any f s m a c ts wh e f2 s2 m2 a2 c2 us wh2 e2 W h g hl
  have h5 := fun (W : World) (h : RL W a ts) => same_any f s m a c ts wh e f s m a c ts wh e W h h hl
  simp only [decide_eq_true (show LgEq f s m ts wh e f s m ts wh e from rfl)] at h5
  simp only [← hn, ← hn2, ← hV, ← hE] at h1 h2 h3 h4 h5
  have HC3 := Lib.hid h1
  have HC4 := Lib.hid h2
  have HC5 := Lib.hid h3
  have HC6 := Lib.hid h4
  have HC7 := Lib.hid h5
  clear hn hn2 hs hs2 hf hf2 hl hV hE h1 h2 h3 h4 h5
  go_enter Try.func9, Try.ntmps9
  go_wp2_with fail
  refine HC.out.mono ?_; rintro e1 w1 ⟨rfl, hg1⟩
  have HG1 := Lib.hid (HA.out.trans hg1)
  have HB1 := Lib.hid (keep_blk hg1 HB.out)
  have HBY1 := Lib.hid (keep_blk hg1 HBY.out)
  have HS1 := Lib.hid (HS.out.kept hg1)
  have HSY1 := Lib.hid (HSY.out.kept hg1)
  have j0 := cells_all HBY1.out 0
  have j1 := cells_all HBY1.out 1
  have j2 := cells_all HBY1.out 2
  have j3 := cells_all HBY1.out 3
  have j4 := cells_all HBY1.out 4
  have j5 := cells_all HBY1.out 5
  simp only [List.getElem?_toArray, List.getElem?_cons_zero, List.getElem?_cons_succ] at j0 j1 j2 j3 j4 j5
  clear hg1
  go_wp2_with fail
  refine (HC2.out _ HSY1.out).mono ?_; rintro e2 w2 ⟨rfl, hg2⟩
  have HG2 := Lib.hid (HG1.out.trans hg2)
  have HB2 := Lib.hid (keep_blk hg2 HB1.out)
  have HBY2 := Lib.hid (keep_blk hg2 HBY1.out)
  have HS2 := Lib.hid (HS1.out.kept hg2)
  have HSY2 := Lib.hid (HSY1.out.kept hg2)
  clear hg2 j0 j1 j2 j3 j4 j5 HC HC2
  go_wp2
  refine reg_open (none) (n := 24) rfl (by kernel_rfl) ?_
  refine reg_take 0 (some 14) (v := ?_) rfl rfl (by kernel_rfl) (by kernel_rfl) (by kernel_rfl) (fun _ _ _ h => h) (by rfl) ?_ ?_
  rotate_left
  · intro W hW; have kb := keep_blk (drewl hW) HB2.out; have k0 := cells_all kb 0; have k1 := cells_all kb 1; have k2 := cells_all kb 2; have k3 := cells_all kb 3; have k4 := cells_all kb 4; have k5 := cells_all kb 5; go_simp; first | done | with_reducible rfl
  try simp only [Act.put, List.setIfInBounds_toArray, List.set_cons_zero, List.set_cons_succ]
  refine reg_take 3 (some 17) (v := ?_) rfl rfl (by kernel_rfl) (by kernel_rfl) (by kernel_rfl) (fun _ _ _ h => h) (by rfl) ?_ ?_
  rotate_left
  · intro W hW; have kb := keep_blk (drewl hW) HB2.out; have k0 := cells_all kb 0; have k1 := cells_all kb 1; have k2 := cells_all kb 2; have k3 := cells_all kb 3; have k4 := cells_all kb 4; have k5 := cells_all kb 5; go_simp; first | done | with_reducible rfl
  try simp only [Act.put, List.setIfInBounds_toArray, List.set_cons_zero, List.set_cons_succ]
  refine wpAnyH_ready (rs := [1]) (by kernel_rfl) (by simp) ?_
  refine (AllReadyH.cons (o := { dst := some 15, op := Op.call { callee := Callee.value (Operand.func 23), args := #[Operand.tmp 14], argTypes := #[31] }, type := 32, pos := "law.go:43", after := #[{ on := 0, ground := Ground.data }], guard := none }) rfl (fun K hK => ?_) AllReadyH.nil)
  go_simp
  refine (HC3.out _ (HS2.out.kept (drewl (World.grownBy.refl _ _)))).mono ?_; rintro x y1 ⟨rfl, hg3⟩
  refine reg_next hK hg3 ?_
  clear hK K
  try simp only [Act.put, List.setIfInBounds_toArray, List.set_cons_zero, List.set_cons_succ]
  refine wpAnyH_ready (rs := [2]) (by kernel_rfl) (by simp) ?_
  refine (AllReadyH.cons (o := { dst := some 16, op := Op.call { callee := Callee.value (Operand.func 13), args := #[Operand.tmp 15], argTypes := #[32] }, type := 3, pos := "law.go:43", after := #[{ on := 1, ground := Ground.data }, { on := 1, ground := Ground.chain }], guard := none }) rfl (fun K hK => ?_) AllReadyH.nil)
  go_simp
  refine (num_any V _).mono ?_; rintro x y2 ⟨rfl, rfl⟩
  refine reg_same hK ?_
  clear hK K
  try simp only [Act.put, List.setIfInBounds_toArray, List.set_cons_zero, List.set_cons_succ]
  refine wpAnyH_ready (rs := [4]) (by kernel_rfl) (by simp) ?_
  refine (AllReadyH.cons (o := { dst := some 18, op := Op.call { callee := Callee.value (Operand.func 18), args := #[Operand.tmp 17], argTypes := #[31] }, type := 3, pos := "law.go:43", after := #[{ on := 3, ground := Ground.data }, { on := 2, ground := Ground.chain }], guard := none }) rfl (fun K hK => ?_) AllReadyH.nil)
  go_simp
  refine (HC4.out _ (HS2.out.kept (drewl hg3))).mono ?_; rintro x y3 ⟨rfl, hg4⟩
  refine reg_next hK hg4 ?_
  clear hK K
  try simp only [Act.put, List.setIfInBounds_toArray, List.set_cons_zero, List.set_cons_succ]
  refine reg_take 5 (some 19) (v := ?_) rfl rfl (by kernel_rfl) (by kernel_rfl) (by kernel_rfl) (fun _ _ _ h => h) (by rfl) ?_ ?_
  rotate_left
  · intro W hW; go_simp; first | done | with_reducible rfl
  try simp only [Act.put, List.setIfInBounds_toArray, List.set_cons_zero, List.set_cons_succ]
  refine reg_take 6 (some 20) (v := ?_) rfl rfl (by kernel_rfl) (by kernel_rfl) (by kernel_rfl) (fun _ _ _ h => h) (by rfl) ?_ ?_
  rotate_left
  · intro W hW; go_simp; first | done | with_reducible rfl
  try simp only [Act.put, List.setIfInBounds_toArray, List.set_cons_zero, List.set_cons_succ]
  refine reg_take 7 (some 21) (v := ?_) rfl rfl (by kernel_rfl) (by kernel_rfl) (by kernel_rfl) (fun _ _ _ h => h) (by rfl) ?_ ?_
  rotate_left
  · intro W hW; have kb := keep_blk (drewl (hg3.trans (hg4.trans hW))) HB2.out; have k0 := cells_all kb 0; have k1 := cells_all kb 1; have k2 := cells_all kb 2; have k3 := cells_all kb 3; have k4 := cells_all kb 4; have k5 := cells_all kb 5; go_simp; first | done | with_reducible rfl
  try simp only [Act.put, List.setIfInBounds_toArray, List.set_cons_zero, List.set_cons_succ]
  refine reg_take 8 (some 22) (v := ?_) rfl rfl (by kernel_rfl) (by kernel_rfl) (by kernel_rfl) (fun _ _ _ h => h) (by rfl) ?_ ?_
  rotate_left
  · intro W hW; have jb := keep_blk (drewl (hg3.trans (hg4.trans hW))) HBY2.out; have j0 := cells_all jb 0; have j1 := cells_all jb 1; have j2 := cells_all jb 2; have j3 := cells_all jb 3; have j4 := cells_all jb 4; have j5 := cells_all jb 5; go_simp; first | done | with_reducible rfl
  try simp only [Act.put, List.setIfInBounds_toArray, List.set_cons_zero, List.set_cons_succ]
  refine reg_take 10 (some 24) (v := ?_) rfl rfl (by kernel_rfl) (by kernel_rfl) (by kernel_rfl) (fun _ _ _ h => h) (by rfl) ?_ ?_
  rotate_left
  · intro W hW; have kb := keep_blk (drewl (hg3.trans (hg4.trans hW))) HB2.out; have k0 := cells_all kb 0; have k1 := cells_all kb 1; have k2 := cells_all kb 2; have k3 := cells_all kb 3; have k4 := cells_all kb 4; have k5 := cells_all kb 5; go_simp; first | done | with_reducible rfl
  try simp only [Act.put, List.setIfInBounds_toArray, List.set_cons_zero, List.set_cons_succ]
  refine reg_take 11 (some 25) (v := ?_) rfl rfl (by kernel_rfl) (by kernel_rfl) (by kernel_rfl) (fun _ _ _ h => h) (by rfl) ?_ ?_
  rotate_left
  · intro W hW; have jb := keep_blk (drewl (hg3.trans (hg4.trans hW))) HBY2.out; have j0 := cells_all jb 0; have j1 := cells_all jb 1; have j2 := cells_all jb 2; have j3 := cells_all jb 3; have j4 := cells_all jb 4; have j5 := cells_all jb 5; go_simp; first | done | with_reducible rfl
  try simp only [Act.put, List.setIfInBounds_toArray, List.set_cons_zero, List.set_cons_succ]
  refine wpAnyH_ready (rs := [9]) (by kernel_rfl) (by simp) ?_
  refine (AllReadyH.cons (o := { dst := some 23, op := Op.call { callee := Callee.value (Operand.func 24), args := #[Operand.tmp 21, Operand.tmp 22], argTypes := #[31, 31] }, type := 4, pos := "law.go:43", after := #[{ on := 7, ground := Ground.data }, { on := 8, ground := Ground.data }, { on := 6, ground := Ground.chain }, { on := 6, ground := Ground.guard }], guard := some (6, true) }) rfl (fun K hK => ?_) AllReadyH.nil)
  go_simp
  refine (HC5.out _ (HS2.out.kept (drewl (hg3.trans hg4))) (HSY2.out.kept (drewl (hg3.trans hg4)))).mono ?_; rintro x y4 ⟨rfl, hg5⟩
  refine reg_next hK hg5 ?_
  clear hK K
  try simp only [Act.put, List.setIfInBounds_toArray, List.set_cons_zero, List.set_cons_succ]
  refine wpAnyH_ready (rs := [12]) (by kernel_rfl) (by simp) ?_
  refine (AllReadyH.cons (o := { dst := some 26, op := Op.call { callee := Callee.value (Operand.func 17), args := #[Operand.tmp 24, Operand.tmp 25], argTypes := #[31, 31] }, type := 4, pos := "law.go:43", after := #[{ on := 10, ground := Ground.data }, { on := 11, ground := Ground.data }, { on := 9, ground := Ground.chain }, { on := 6, ground := Ground.guard }], guard := some (6, true) }) rfl (fun K hK => ?_) AllReadyH.nil)
  go_simp
  refine (HC6.out _ (HS2.out.kept (drewl (hg3.trans (hg4.trans hg5)))) (HSY2.out.kept (drewl (hg3.trans (hg4.trans hg5))))).mono ?_; rintro x y5 ⟨rfl, hg6⟩
  refine reg_next hK hg6 ?_
  clear hK K
  try simp only [Act.put, List.setIfInBounds_toArray, List.set_cons_zero, List.set_cons_succ]
  refine reg_take 13 (some 27) (v := ?_) rfl rfl (by kernel_rfl) (by kernel_rfl) (by kernel_rfl) (fun _ _ _ h => h) (by rfl) ?_ ?_
  rotate_left
  · intro W hW; go_simp; first | done | with_reducible rfl
  try simp only [Act.put, List.setIfInBounds_toArray, List.set_cons_zero, List.set_cons_succ]
  refine reg_take 14 (some 28) (v := ?_) rfl rfl (by kernel_rfl) (by kernel_rfl) (by kernel_rfl) (fun _ _ _ h => h) (by rfl) ?_ ?_
  rotate_left
  · intro W hW; go_simp; first | done | with_reducible rfl
  try simp only [Act.put, List.setIfInBounds_toArray, List.set_cons_zero, List.set_cons_succ]
  refine reg_take 15 (some 29) (v := ?_) rfl rfl (by kernel_rfl) (by kernel_rfl) (by kernel_rfl) (fun _ _ _ h => h) (by rfl) ?_ ?_
  rotate_left
  · intro W hW; go_simp; first | done | with_reducible rfl
  try simp only [Act.put, List.setIfInBounds_toArray, List.set_cons_zero, List.set_cons_succ]
  refine reg_take 16 (some 30) (v := ?_) rfl rfl (by kernel_rfl) (by kernel_rfl) (by kernel_rfl) (fun _ _ _ h => h) (by rfl) ?_ ?_
  rotate_left
  · intro W hW; have kb := keep_blk (drewl (hg3.trans (hg4.trans (hg5.trans (hg6.trans hW))))) HB2.out; have k0 := cells_all kb 0; have k1 := cells_all kb 1; have k2 := cells_all kb 2; have k3 := cells_all kb 3; have k4 := cells_all kb 4; have k5 := cells_all kb 5; go_simp; first | done | with_reducible rfl
  try simp only [Act.put, List.setIfInBounds_toArray, List.set_cons_zero, List.set_cons_succ]
  refine reg_take 17 (some 31) (v := ?_) rfl rfl (by kernel_rfl) (by kernel_rfl) (by kernel_rfl) (fun _ _ _ h => h) (by rfl) ?_ ?_
  rotate_left
  · intro W hW; have kb := keep_blk (drewl (hg3.trans (hg4.trans (hg5.trans (hg6.trans hW))))) HB2.out; have k0 := cells_all kb 0; have k1 := cells_all kb 1; have k2 := cells_all kb 2; have k3 := cells_all kb 3; have k4 := cells_all kb 4; have k5 := cells_all kb 5; go_simp; first | done | with_reducible rfl
  try simp only [Act.put, List.setIfInBounds_toArray, List.set_cons_zero, List.set_cons_succ]
  refine wpAnyH_ready (rs := [18]) (by kernel_rfl) (by simp) ?_
  refine (AllReadyH.cons (o := { dst := some 32, op := Op.call { callee := Callee.value (Operand.func 24), args := #[Operand.tmp 30, Operand.tmp 31], argTypes := #[31, 31] }, type := 4, pos := "law.go:43", after := #[{ on := 16, ground := Ground.data }, { on := 17, ground := Ground.data }, { on := 15, ground := Ground.chain }, { on := 15, ground := Ground.guard }], guard := some (15, true) }) rfl (fun K hK => ?_) AllReadyH.nil)
  go_simp
  refine (HC7.out _ (HS2.out.kept (drewl (hg3.trans (hg4.trans (hg5.trans hg6)))))).mono ?_; rintro x y6 ⟨rfl, hg7⟩
  refine reg_next hK hg7 ?_
  clear hK K
  try simp only [Act.put, List.setIfInBounds_toArray, List.set_cons_zero, List.set_cons_succ]
  refine reg_take 19 (some 33) (v := ?_) rfl rfl (by kernel_rfl) (by kernel_rfl) (by kernel_rfl) (fun _ _ _ h => h) (by rfl) ?_ ?_
  rotate_left
  · intro W hW; go_simp; first | done | with_reducible rfl
  try simp only [Act.put, List.setIfInBounds_toArray, List.set_cons_zero, List.set_cons_succ]
  refine reg_take 20 (some 34) (v := ?_) rfl rfl (by kernel_rfl) (by kernel_rfl) (by kernel_rfl) (fun _ _ _ h => h) (by rfl) ?_ ?_
  rotate_left
  · intro W hW; go_simp; first | done | with_reducible rfl
  try simp only [Act.put, List.setIfInBounds_toArray, List.set_cons_zero, List.set_cons_succ]
  refine wpAnyH_ready (rs := [21]) (by kernel_rfl) (by simp) ?_
  refine (AllReadyH.cons (o := { dst := some 35, op := Op.call { callee := Callee.value (Operand.func 10), args := #[], argTypes := #[] }, type := 4, pos := "law.go:43", after := #[{ on := 20, ground := Ground.chain }, { on := 20, ground := Ground.guard }], guard := some (20, true) }) rfl (fun K hK => ?_) AllReadyH.nil)
  go_simp
  refine (works_any _).mono ?_; rintro x y7 ⟨rfl, hg8⟩
  refine reg_next hK hg8 ?_
  clear hK K
  try simp only [Act.put, List.setIfInBounds_toArray, List.set_cons_zero, List.set_cons_succ]
  refine reg_take 22 (some 36) (v := ?_) rfl rfl (by kernel_rfl) (by kernel_rfl) (by kernel_rfl) (fun _ _ _ h => h) (by rfl) ?_ ?_
  rotate_left
  · intro W hW; go_simp; first | done | with_reducible rfl
  try simp only [Act.put, List.setIfInBounds_toArray, List.set_cons_zero, List.set_cons_succ]
  refine reg_take 23 (some 4) (v := ?_) rfl rfl (by kernel_rfl) (by kernel_rfl) (by kernel_rfl) (fun _ _ _ h => h) (by rfl) ?_ ?_
  rotate_left
  · intro W hW; go_simp; first | done | with_reducible rfl
  try simp only [Act.put, List.setIfInBounds_toArray, List.set_cons_zero, List.set_cons_succ]
  refine wpAnyH_done (by kernel_rfl) ?_ _
  have HG9 := Lib.hid (HG2.out.trans (drewl (hg3.trans (hg4.trans (hg5.trans (hg6.trans (hg7.trans hg8)))))))
  go_wp2
  go_ret
  exact ⟨rfl, HG9.out⟩
theorem logChecks_walk (f s m : Int) (a : Option Addr) (c : Nat) (ts : List Rv) (wh : Bool) (e : Int) (f2 s2 m2 : Int) (a2 : Option Addr) (c2 : Nat) (us : List Rv) (wh2 : Bool) (e2 : Int) (w : World) (hs : RL w a ts) (hm : ts.length ≤ 9223372036854775807) (hs2 : RL w a2 us) (hm2 : us.length ≤ 9223372036854775807) : Calls Try.prog 9 #[lgV f s m a ts.length c wh e, lgV f2 s2 m2 a2 us.length c2 wh2 e2] w fun e w' => e = .returned (.bool true) ∧ w.grownBy w' none := by
  by_cases hf : fewS ts ≤ 20000
  · by_cases hf2 : fewS us ≤ 20000
    · exact chk_few f s m a _ c ts wh e f2 s2 m2 a2 _ c2 us wh2 e2 w rfl rfl hs hs2 hf hf2
    · exact chk_many2 f s m a _ c ts wh e f2 s2 m2 a2 _ c2 us wh2 e2 w rfl rfl hs hs2 hm2 hf hf2
  · exact chk_many1 f s m a _ c ts wh e f2 s2 m2 a2 _ c2 us wh2 e2 w rfl rfl hs hs2 hm hf
end Go.Proofs.Ytpoifobhbmhelaa
