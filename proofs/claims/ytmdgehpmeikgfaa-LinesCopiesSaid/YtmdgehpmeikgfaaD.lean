import Derived.Test.YtmdgehpmeikgfaaC
namespace Go.Proofs.Ytmdgehpmeikgfaa
open Go.RowKit Go.Shelf
attribute [local go_sem] Oper.semAt_some
def setL (l : List Nat) : Nat := l.foldl (fun s x => s ||| 2 ^ x) 0
theorem setL_snoc (l : List Nat) (x : Nat) : setL (l ++ [x]) = setL l ||| 2 ^ x := by simp [setL, List.foldl_append]
theorem setL_lt (l : List L4) : setL (l.map (·.1)) < 16 := by
  have h : ∀ (l : List L4) (s : Nat), s < 2 ^ 4 → (l.map (·.1)).foldl (fun s x => s ||| 2 ^ x) s < 2 ^ 4 := by
    intro l
    induction l with
    | nil => exact fun s hs => hs
    | cons x l ih =>
      intro s hs
      rw [List.map_cons, List.foldl_cons]
      exact ih _ (Nat.or_lt_two_pow hs (Nat.pow_lt_pow_right (by omega) x.2))
  exact h l 0 (by omega)
theorem kw_store {S N G V B T : Nat} {now : Int} {c : Lc} {A A' : World} {v : Value} (hT : A.heap[T]? = some (.cells #[v] 22 (0, 0))) (hg : A.grownBy A' (some T)) : KW S N G V B now c A A' := fun x => by
  have ne : ∀ {k : Nat} {cs : Array Value} {t : TypeId}, A.heap[k]? = some (.cells cs t (0, 0)) → t ≠ 22 → A'.heap[k]? = some (.cells cs t (0, 0)) := by
    intro k cs t h ht
    refine (hg.block k (lt_of_block h) (fun e => ?_)).trans h
    cases e
    rw [hT] at h
    cases h
    exact ht rfl
  exact ⟨⟨ne x.1.s (by decide), ne x.1.n (by decide), ne x.1.g (by decide), ne x.1.v (by decide)⟩, ne x.2.blk (by decide)⟩
theorem drew_both {a b : World} {row : Option Nat} (h : a.grownBy b row) : a.drew.grownBy b.drew row := ⟨h.os, h.tape, h.output, h.size, h.block⟩
theorem below_drew (n : Nat) (V : World) : Below n V V.drew := ⟨rfl, rfl, rfl, Nat.le_refl _, fun _ _ => rfl⟩
set_option maxRecDepth 100000 in
set_option maxHeartbeats 8000000 in
theorem wants_body (B : Nat) (c : Lc) (qa : Option Addr) (qn qc : Nat) (hq : c.qv = .slice qa qn qc) (ha : 0 ≤ c.alarm) (ha2 : c.alarm < 4294967296) (now : Int) (w : World) (hL : Lk w B c) :
    CallsIn Fence.wide 3 Try.prog 20 #[.pointer (some ⟨B, 0, none⟩), .int .i64 now] w fun e w' => e = .returned (.int .u32 (setL (wseq (c.w0 now) (decide (0 < qn)) c.u2 c.u3 4) : Nat)) ∧ Below w.heap.size w w' := by
  have h1 : 1 ≤ 3 := by omega
  have hT0 := heap_alloc_new w (.cells #[.int .u32 0] 22)
  have hG0 := World.grownBy_alloc w (.cells #[.int .u32 0] 22) none
  have HT0 := Lib.hid hT0
  have HB0 := Lib.hid ((Below.refl _ w).grown hG0 (Nat.le_refl _) (fun k e => by cases e))
  have HL0 := Lib.hid (hL.keptNone hG0)
  clear hT0 hG0 hL
  refine callsIn_of_wp_marks Try.func20 rfl trivial ?_ rfl
  simp only [Try.ntmps20, List.size_toArray, List.length_cons, List.length_nil, Nat.reduceAdd, Nat.reduceSub, Array.replicate_succ, Array.replicate_zero, List.push_toArray, List.append_toArray, List.nil_append, List.cons_append]
  refine wpIn_wide.2 ?_
  go_wp2_with fail
  refine (wanting_lk B now _).mono ?_; rintro e w1 ⟨S, N, G, V0, rfl, hWn, hg1⟩
  have hT1 : w1.heap[w.heap.size]? = some (.cells #[.int .u32 (setL [] : Nat)] 22 (0, 0)) := (hg1.block _ (lt_of_block HT0.out) (by simp)).trans HT0.out
  have hL1 := HL0.out.keptNone hg1
  have hB1 := HB0.out.grown hg1 HB0.out.size (fun k e => by cases e)
  have hsz := lt_of_block hT1
  clear HT0 HL0 HB0 hg1
  go_wp2
  refine (wpIn_wide (n := 3)).1 ?_
  refine wpIn_rangeFunc_ownH rfl h1 (gf := 52) (lb := #[.pointer (some ⟨S, 0, none⟩), .pointer (some ⟨V0, 0, none⟩)]) rfl trivial (enters_of Try.func52 (by kernel_rfl) rfl)
    (walked_wants (3 - 1) (by omega) S N G V0 B now c qa qn qc hq ha ha2 w1 hWn hL1) kw_t (fun W l o o' _ h ho _ => kw_b W l o o' h ho) (Below.refl _ _) (fun _ => rfl)
    (fun pre W => W.heap[w.heap.size]? = some (.cells #[.int .u32 (setL (pre.map (·.1)) : Nat)] 22 (0, 0)) ∧ Below w.heap.size w W)
    (fun c pre W => False ∧ Below w.heap.size w W)
    (OwnFrom.and (Own.from (fun s A' B' row hs hg hr => by exact block_kept hs hg hr) _) (ownFrom_below (Nat.le_refl _) (by omega)))
    (fun c => OwnFrom.and (Own.from (fun s A' B' row hs hg hr => by exact hs) _) (ownFrom_below (Nat.le_refl _) (by omega)))
    ⟨hT1, hB1⟩
    (fun y a' W => a' = { tmps := #[.pointer (some ⟨B, 0, none⟩), .int .i64 now, undef, undef, .int .u32 0, .pointer (some ⟨w.heap.size, 0, none⟩), .int .i64 (y.1 : Int), .pointer (some ⟨B, 0, none⟩), .int .i64 now, .func (.func 52) #[] #[.pointer (some ⟨S, 0, none⟩), .pointer (some ⟨V0, 0, none⟩)], .int .i64 (y.1 : Int), undef, undef, undef, undef, undef], defers := [] })
    (fun y a' => fun s A' B' row hs hg hr => hs)
    ?assign ?body ?done ?stop
  case assign =>
    rintro l' pre y W K hI hK
    gi_wp2
    exact hK _ _ (KeepsFrom.refl _ _) (fun x => x) hI rfl
  case stop =>
    rintro D c' pre W hD hS ⟨hf, _⟩ hK
    exact hf.elim
  case body =>
    rintro l' pre y a' V hl ⟨r, hr⟩ ⟨hT, hBl⟩ rfl hlt
    have hlt16 := setL_lt pre
    obtain ⟨s, hsv⟩ : ∃ s, setL (pre.map (·.1)) = s := ⟨_, rfl⟩
    rw [hsv] at hT hlt16
    have HSV := Lib.hid hsv
    have HT := Lib.hid hT
    clear hT hr hsv
    obtain ⟨x, hx⟩ := y
    obtain rfl | rfl | rfl | rfl : x = 0 ∨ x = 1 ∨ x = 2 ∨ x = 3 := by omega
    · gi_wp2
      refine reg_open_in (some w.heap.size) (m := 5) (by rintro ⟨a, w, h⟩; exact h) (by kernel_rfl) rfl (by kernel_rfl) ?_
      refine reg_take 1 (some 12) (v := ?_) rfl rfl (by kernel_rfl) (by kernel_rfl) (by kernel_rfl) (fun _ _ _ h => h) (by rfl) ?_ ?_
      rotate_left
      · intro W hW; go_simp; first | done | with_reducible rfl
      try simp only [Act.put, List.setIfInBounds_toArray, List.set_cons_zero, List.set_cons_succ]
      refine reg_take 2 (some 13) (v := ?_) rfl rfl (by kernel_rfl) (by kernel_rfl) (by kernel_rfl) (fun _ _ _ h => h) (by rfl) ?_ ?_
      rotate_left
      · intro W hW; go_simp; first | done | with_reducible rfl
      try simp only [Act.put, List.setIfInBounds_toArray, List.set_cons_zero, List.set_cons_succ]
      refine wpAnyH_ready (rs := [0]) (by kernel_rfl) (by simp) ?_
      refine (AllReadyH.cons (o := { dst := some 11, op := Op.load 22 (Operand.tmp 5), type := 22, pos := "lines.go:165", after := #[], guard := none }) rfl (fun K hK => ?_) AllReadyH.nil)
      have k0 := cell_of_one (show V.drew.heap[w.heap.size]? = _ from HT.out)
      go_simp
      refine reg_same hK ?_
      clear hK K
      try simp only [Act.put, List.setIfInBounds_toArray, List.set_cons_zero, List.set_cons_succ]
      refine reg_take 3 (some 14) (v := ?_) rfl rfl (by kernel_rfl) (by kernel_rfl) (by kernel_rfl) (fun _ _ _ h => h) (by rfl) ?_ ?_
      rotate_left
      · intro W hW; go_simp; first | done | with_reducible rfl
      try simp only [Act.put, List.setIfInBounds_toArray, List.set_cons_zero, List.set_cons_succ]
      refine wpAnyH_ready (rs := [4]) (by kernel_rfl) (by simp) ?_
      refine (AllReadyH.cons (o := { dst := none, op := Op.store 22 (Operand.tmp 5) (Operand.tmp 14), type := 0, pos := "lines.go:165", after := #[{ on := 3, ground := Ground.data }, { on := 0, ground := Ground.phase }, { on := 1, ground := Ground.phase }, { on := 2, ground := Ground.phase }, { on := 3, ground := Ground.phase }], guard := none }) rfl (fun K hK => ?_) AllReadyH.nil)
      have k1 := cell_of_one (show V.drew.heap[w.heap.size]? = _ from HT.out)
      have k2 := free_of_one (show V.drew.heap[w.heap.size]? = _ from HT.out)
      have g1 := drew_both (grownBy_setCell' V w.heap.size (.int .u32 (bits .or .u32 (s : Nat) (IntKind.u32.wrap 1))))
      go_simp
      refine reg_next hK g1 ?_
      clear hK K
      try simp only [Act.put]
      refine wpAnyH_done (by kernel_rfl) ?_ _
      have hN : bits .or .u32 (s : Nat) (IntKind.u32.wrap 1) = ((s ||| 1 : Nat) : Int) := by rw [show IntKind.u32.wrap 1 = ((1 : Nat) : Int) from by decide]; exact u32_or_nat s 1 (by omega) (by omega)
      have HS := Lib.hid (one_setCell (u := .int .u32 (bits .or .u32 (s : Nat) (IntKind.u32.wrap 1))) HT.out)
      have HK := Lib.hid (kw_store (S := S) (N := N) (G := G) (V := V0) (B := B) (now := now) (c := c) HT.out (drewr (grownBy_setCell' V w.heap.size (.int .u32 (bits .or .u32 (s : Nat) (IntKind.u32.wrap 1))))))
      have HE := Lib.hid hN
      clear g1 hN
      gi_wp2
      have hfin := HS.out.trans (congrArg (fun z => some (Obj.cells #[Value.int .u32 z] 22 (0, 0))) HE.out)
      exact ⟨((KeepsOthers.setCell V _ _).trans (KeepsOthers.drew _)).from _, HK.out, by rw [List.map_append, List.map_singleton, setL_snoc, HSV.out]; exact hfin, (hBl.setCell (p := ⟨w.heap.size, 0, none⟩) (by simp) _).trans (below_drew _ _)⟩
    · gi_wp2
      refine reg_open_in (some w.heap.size) (m := 5) (by rintro ⟨a, w, h⟩; exact h) (by kernel_rfl) rfl (by kernel_rfl) ?_
      refine reg_take 1 (some 12) (v := ?_) rfl rfl (by kernel_rfl) (by kernel_rfl) (by kernel_rfl) (fun _ _ _ h => h) (by rfl) ?_ ?_
      rotate_left
      · intro W hW; go_simp; first | done | with_reducible rfl
      try simp only [Act.put, List.setIfInBounds_toArray, List.set_cons_zero, List.set_cons_succ]
      refine reg_take 2 (some 13) (v := ?_) rfl rfl (by kernel_rfl) (by kernel_rfl) (by kernel_rfl) (fun _ _ _ h => h) (by rfl) ?_ ?_
      rotate_left
      · intro W hW; go_simp; first | done | with_reducible rfl
      try simp only [Act.put, List.setIfInBounds_toArray, List.set_cons_zero, List.set_cons_succ]
      refine wpAnyH_ready (rs := [0]) (by kernel_rfl) (by simp) ?_
      refine (AllReadyH.cons (o := { dst := some 11, op := Op.load 22 (Operand.tmp 5), type := 22, pos := "lines.go:165", after := #[], guard := none }) rfl (fun K hK => ?_) AllReadyH.nil)
      have k0 := cell_of_one (show V.drew.heap[w.heap.size]? = _ from HT.out)
      go_simp
      refine reg_same hK ?_
      clear hK K
      try simp only [Act.put, List.setIfInBounds_toArray, List.set_cons_zero, List.set_cons_succ]
      refine reg_take 3 (some 14) (v := ?_) rfl rfl (by kernel_rfl) (by kernel_rfl) (by kernel_rfl) (fun _ _ _ h => h) (by rfl) ?_ ?_
      rotate_left
      · intro W hW; go_simp; first | done | with_reducible rfl
      try simp only [Act.put, List.setIfInBounds_toArray, List.set_cons_zero, List.set_cons_succ]
      refine wpAnyH_ready (rs := [4]) (by kernel_rfl) (by simp) ?_
      refine (AllReadyH.cons (o := { dst := none, op := Op.store 22 (Operand.tmp 5) (Operand.tmp 14), type := 0, pos := "lines.go:165", after := #[{ on := 3, ground := Ground.data }, { on := 0, ground := Ground.phase }, { on := 1, ground := Ground.phase }, { on := 2, ground := Ground.phase }, { on := 3, ground := Ground.phase }], guard := none }) rfl (fun K hK => ?_) AllReadyH.nil)
      have k1 := cell_of_one (show V.drew.heap[w.heap.size]? = _ from HT.out)
      have k2 := free_of_one (show V.drew.heap[w.heap.size]? = _ from HT.out)
      have g1 := drew_both (grownBy_setCell' V w.heap.size (.int .u32 (bits .or .u32 (s : Nat) (IntKind.u32.wrap 2))))
      go_simp
      refine reg_next hK g1 ?_
      clear hK K
      try simp only [Act.put]
      refine wpAnyH_done (by kernel_rfl) ?_ _
      have hN : bits .or .u32 (s : Nat) (IntKind.u32.wrap 2) = ((s ||| 2 : Nat) : Int) := by rw [show IntKind.u32.wrap 2 = ((2 : Nat) : Int) from by decide]; exact u32_or_nat s 2 (by omega) (by omega)
      have HS := Lib.hid (one_setCell (u := .int .u32 (bits .or .u32 (s : Nat) (IntKind.u32.wrap 2))) HT.out)
      have HK := Lib.hid (kw_store (S := S) (N := N) (G := G) (V := V0) (B := B) (now := now) (c := c) HT.out (drewr (grownBy_setCell' V w.heap.size (.int .u32 (bits .or .u32 (s : Nat) (IntKind.u32.wrap 2))))))
      have HE := Lib.hid hN
      clear g1 hN
      gi_wp2
      have hfin := HS.out.trans (congrArg (fun z => some (Obj.cells #[Value.int .u32 z] 22 (0, 0))) HE.out)
      exact ⟨((KeepsOthers.setCell V _ _).trans (KeepsOthers.drew _)).from _, HK.out, by rw [List.map_append, List.map_singleton, setL_snoc, HSV.out]; exact hfin, (hBl.setCell (p := ⟨w.heap.size, 0, none⟩) (by simp) _).trans (below_drew _ _)⟩
    · gi_wp2
      refine reg_open_in (some w.heap.size) (m := 5) (by rintro ⟨a, w, h⟩; exact h) (by kernel_rfl) rfl (by kernel_rfl) ?_
      refine reg_take 1 (some 12) (v := ?_) rfl rfl (by kernel_rfl) (by kernel_rfl) (by kernel_rfl) (fun _ _ _ h => h) (by rfl) ?_ ?_
      rotate_left
      · intro W hW; go_simp; first | done | with_reducible rfl
      try simp only [Act.put, List.setIfInBounds_toArray, List.set_cons_zero, List.set_cons_succ]
      refine reg_take 2 (some 13) (v := ?_) rfl rfl (by kernel_rfl) (by kernel_rfl) (by kernel_rfl) (fun _ _ _ h => h) (by rfl) ?_ ?_
      rotate_left
      · intro W hW; go_simp; first | done | with_reducible rfl
      try simp only [Act.put, List.setIfInBounds_toArray, List.set_cons_zero, List.set_cons_succ]
      refine wpAnyH_ready (rs := [0]) (by kernel_rfl) (by simp) ?_
      refine (AllReadyH.cons (o := { dst := some 11, op := Op.load 22 (Operand.tmp 5), type := 22, pos := "lines.go:165", after := #[], guard := none }) rfl (fun K hK => ?_) AllReadyH.nil)
      have k0 := cell_of_one (show V.drew.heap[w.heap.size]? = _ from HT.out)
      go_simp
      refine reg_same hK ?_
      clear hK K
      try simp only [Act.put, List.setIfInBounds_toArray, List.set_cons_zero, List.set_cons_succ]
      refine reg_take 3 (some 14) (v := ?_) rfl rfl (by kernel_rfl) (by kernel_rfl) (by kernel_rfl) (fun _ _ _ h => h) (by rfl) ?_ ?_
      rotate_left
      · intro W hW; go_simp; first | done | with_reducible rfl
      try simp only [Act.put, List.setIfInBounds_toArray, List.set_cons_zero, List.set_cons_succ]
      refine wpAnyH_ready (rs := [4]) (by kernel_rfl) (by simp) ?_
      refine (AllReadyH.cons (o := { dst := none, op := Op.store 22 (Operand.tmp 5) (Operand.tmp 14), type := 0, pos := "lines.go:165", after := #[{ on := 3, ground := Ground.data }, { on := 0, ground := Ground.phase }, { on := 1, ground := Ground.phase }, { on := 2, ground := Ground.phase }, { on := 3, ground := Ground.phase }], guard := none }) rfl (fun K hK => ?_) AllReadyH.nil)
      have k1 := cell_of_one (show V.drew.heap[w.heap.size]? = _ from HT.out)
      have k2 := free_of_one (show V.drew.heap[w.heap.size]? = _ from HT.out)
      have g1 := drew_both (grownBy_setCell' V w.heap.size (.int .u32 (bits .or .u32 (s : Nat) (IntKind.u32.wrap 4))))
      go_simp
      refine reg_next hK g1 ?_
      clear hK K
      try simp only [Act.put]
      refine wpAnyH_done (by kernel_rfl) ?_ _
      have hN : bits .or .u32 (s : Nat) (IntKind.u32.wrap 4) = ((s ||| 4 : Nat) : Int) := by rw [show IntKind.u32.wrap 4 = ((4 : Nat) : Int) from by decide]; exact u32_or_nat s 4 (by omega) (by omega)
      have HS := Lib.hid (one_setCell (u := .int .u32 (bits .or .u32 (s : Nat) (IntKind.u32.wrap 4))) HT.out)
      have HK := Lib.hid (kw_store (S := S) (N := N) (G := G) (V := V0) (B := B) (now := now) (c := c) HT.out (drewr (grownBy_setCell' V w.heap.size (.int .u32 (bits .or .u32 (s : Nat) (IntKind.u32.wrap 4))))))
      have HE := Lib.hid hN
      clear g1 hN
      gi_wp2
      have hfin := HS.out.trans (congrArg (fun z => some (Obj.cells #[Value.int .u32 z] 22 (0, 0))) HE.out)
      exact ⟨((KeepsOthers.setCell V _ _).trans (KeepsOthers.drew _)).from _, HK.out, by rw [List.map_append, List.map_singleton, setL_snoc, HSV.out]; exact hfin, (hBl.setCell (p := ⟨w.heap.size, 0, none⟩) (by simp) _).trans (below_drew _ _)⟩
    · gi_wp2
      refine reg_open_in (some w.heap.size) (m := 5) (by rintro ⟨a, w, h⟩; exact h) (by kernel_rfl) rfl (by kernel_rfl) ?_
      refine reg_take 1 (some 12) (v := ?_) rfl rfl (by kernel_rfl) (by kernel_rfl) (by kernel_rfl) (fun _ _ _ h => h) (by rfl) ?_ ?_
      rotate_left
      · intro W hW; go_simp; first | done | with_reducible rfl
      try simp only [Act.put, List.setIfInBounds_toArray, List.set_cons_zero, List.set_cons_succ]
      refine reg_take 2 (some 13) (v := ?_) rfl rfl (by kernel_rfl) (by kernel_rfl) (by kernel_rfl) (fun _ _ _ h => h) (by rfl) ?_ ?_
      rotate_left
      · intro W hW; go_simp; first | done | with_reducible rfl
      try simp only [Act.put, List.setIfInBounds_toArray, List.set_cons_zero, List.set_cons_succ]
      refine wpAnyH_ready (rs := [0]) (by kernel_rfl) (by simp) ?_
      refine (AllReadyH.cons (o := { dst := some 11, op := Op.load 22 (Operand.tmp 5), type := 22, pos := "lines.go:165", after := #[], guard := none }) rfl (fun K hK => ?_) AllReadyH.nil)
      have k0 := cell_of_one (show V.drew.heap[w.heap.size]? = _ from HT.out)
      go_simp
      refine reg_same hK ?_
      clear hK K
      try simp only [Act.put, List.setIfInBounds_toArray, List.set_cons_zero, List.set_cons_succ]
      refine reg_take 3 (some 14) (v := ?_) rfl rfl (by kernel_rfl) (by kernel_rfl) (by kernel_rfl) (fun _ _ _ h => h) (by rfl) ?_ ?_
      rotate_left
      · intro W hW; go_simp; first | done | with_reducible rfl
      try simp only [Act.put, List.setIfInBounds_toArray, List.set_cons_zero, List.set_cons_succ]
      refine wpAnyH_ready (rs := [4]) (by kernel_rfl) (by simp) ?_
      refine (AllReadyH.cons (o := { dst := none, op := Op.store 22 (Operand.tmp 5) (Operand.tmp 14), type := 0, pos := "lines.go:165", after := #[{ on := 3, ground := Ground.data }, { on := 0, ground := Ground.phase }, { on := 1, ground := Ground.phase }, { on := 2, ground := Ground.phase }, { on := 3, ground := Ground.phase }], guard := none }) rfl (fun K hK => ?_) AllReadyH.nil)
      have k1 := cell_of_one (show V.drew.heap[w.heap.size]? = _ from HT.out)
      have k2 := free_of_one (show V.drew.heap[w.heap.size]? = _ from HT.out)
      have g1 := drew_both (grownBy_setCell' V w.heap.size (.int .u32 (bits .or .u32 (s : Nat) (IntKind.u32.wrap 8))))
      go_simp
      refine reg_next hK g1 ?_
      clear hK K
      try simp only [Act.put]
      refine wpAnyH_done (by kernel_rfl) ?_ _
      have hN : bits .or .u32 (s : Nat) (IntKind.u32.wrap 8) = ((s ||| 8 : Nat) : Int) := by rw [show IntKind.u32.wrap 8 = ((8 : Nat) : Int) from by decide]; exact u32_or_nat s 8 (by omega) (by omega)
      have HS := Lib.hid (one_setCell (u := .int .u32 (bits .or .u32 (s : Nat) (IntKind.u32.wrap 8))) HT.out)
      have HK := Lib.hid (kw_store (S := S) (N := N) (G := G) (V := V0) (B := B) (now := now) (c := c) HT.out (drewr (grownBy_setCell' V w.heap.size (.int .u32 (bits .or .u32 (s : Nat) (IntKind.u32.wrap 8))))))
      have HE := Lib.hid hN
      clear g1 hN
      gi_wp2
      have hfin := HS.out.trans (congrArg (fun z => some (Obj.cells #[Value.int .u32 z] 22 (0, 0))) HE.out)
      exact ⟨((KeepsOthers.setCell V _ _).trans (KeepsOthers.drew _)).from _, HK.out, by rw [List.map_append, List.map_singleton, setL_snoc, HSV.out]; exact hfin, (hBl.setCell (p := ⟨w.heap.size, 0, none⟩) (by simp) _).trans (below_drew _ _)⟩
  case done =>
    rintro D ys W hD hS ⟨hT, hBl⟩ hK
    rw [hS] at hT
    have k0 := cell_of_one hT
    have k1 := cell_kept k0 (grownBy_putObj' W D (.deferred none)) (fun r e => by cases e; exact ⟨_, hK, rfl⟩)
    have hB5 := hBl.trans (belowK_b (w := w) (Nat.le_refl _) W D _ (.deferred none) (by omega) hK rfl rfl)
    go_wp2
    refine ⟨by simp, .inl ⟨_, _, rfl, run_takeDeferred hK, ?_⟩⟩
    exact ⟨_, by simp [results, Try.f20, go_sem], rfl, hB5⟩
end Go.Proofs.Ytmdgehpmeikgfaa
