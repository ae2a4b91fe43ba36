import Derived.Test.YtcahpmlajfbidaaT
namespace Go.Proofs.Ytcahpmlajfbidaa
open Go.RowKit
/-- A list of pages that can be read. -/
def SrcP (w : World) (a : Option Addr) (n : Nat) (l : Nat → Int) : Prop :=
  n = 0 ∨ ∃ b o, a = some ⟨b, o, none⟩ ∧ ∀ j, j < n → w.cell? ⟨b, o + j, none⟩ = some (.int .u32 (l j))
theorem grown_keeps {X : Nat → Prop} {a b c : World} {row : Option Nat} (h : a.grownBy b row) (k : Keeps X b c) (hX : ∀ x, X x → a.heap.size ≤ x) : a.grownBy c row :=
  ⟨k.os.trans h.os, k.tape.trans h.tape, k.output.trans h.output, Nat.le_trans h.size k.size, fun i hi hne => (k.block i (Nat.lt_of_lt_of_le hi h.size) (fun e => Nat.not_lt.2 (hX i e) hi)).trans (h.block i hi hne)⟩
abbrev zerosL : List Value := [.bool false, .int .u32 0, .int .u32 0, .bool false, .bool false, .int .u32 0, .int .u32 0, .bool false, .bool false, .int .u32 0, .int .u32 0, .bool false, .bool false, .int .u32 0, .int .u32 0, .bool false, .int .i64 0]
theorem wp_of_run {P : Program} {op : Oper} {a : Act} {w w' : World} {v : Value} {K : Act → World → Prop} {Q : Exit → Act → World → Prop} (h : (execOp a.eval op).run P w = .ok (.value v) w') (k : K (a.put op.dst v) w') : op.wp P a w K Q := by
  unfold Oper.wp
  rw [h]
  exact k
theorem exec_alloc30 {op : Oper} {ρ : Operand → Value} (ho : op.op = .alloc 30) (w : World) : (execOp ρ op).run Try.prog w = .ok (.value (.pointer (some ⟨w.heap.size, 0, none⟩))) (w.alloc (.cells zeros 30)) := by
  simp only [execOp, ho]
  go_simp
set_option maxHeartbeats 8000000 in
theorem tlbFills_walk (a : Option Addr) (n cap : Nat) (l : Nat → Int) (frame : Int) (write : Bool) (w : World) (hs : SrcP w a n l) (hm : n ≤ 9223372036854775807) :
    Calls Try.prog 4 #[.slice a n cap, .int .u32 frame, .bool write] w fun e w' => e = .returned (.bool true) ∧ w.grownBy w' none := by
  by_cases h3 : (60 : Int) < n
  · go_enter Try.func4, Try.ntmps4
    go_wp2_with (go_at_call 9; refine (works_any _).mono ?_; rintro e w1 ⟨rfl, hg1⟩)
    go_ret
    exact ⟨rfl, hg1⟩
  go_enter Try.func4, Try.ntmps4
  go_wp2_with fail
  refine (new_any _).mono ?_; rintro e w1 ⟨B, rfl, hB, hTb, hg1⟩
  have hB1 := hTb.lt
  have hsz := hg1.size
  have HN := Lib.hid (heap_alloc_new w1 (.cells zeros 30))
  have HT1 := Lib.hid (hTb.keptNone (World.grownBy_alloc w1 (.cells zeros 30) none))
  have HG1 := Lib.hid (hg1.trans (World.grownBy_alloc w1 (.cells zeros 30) none))
  clear hTb hg1
  go_wp2_with (with_reducible refine hold_st 30 _ _ rfl ?_)
  apply Lib.hid
  with_reducible refine wpList_store_all rfl 30 _ _ rfl _ ?cs1902 ?hx1902 ?hy1902 _ _ HN.out ?hf1902 _ ?hl1902 Try.size30 ?h11902 ?_
  case hy1902 => exact rfl
  case hx1902 => exact rfl
  case hf1902 => exact rfl
  case hl1902 => exact rfl
  case h11902 => simp [allOne, Value.oneCell']
  intro w2 hb2 hg2

  have HX2 := Lib.hid (show w2.heap[w1.heap.size]? = some (.cells Tl.no.cells 30 (0, 0)) from hb2)
  have HT2 := Lib.hid (show Tb w2 B .no from HT1.out.kept hg2 (by simp; omega))
  have HG2 := Lib.hid (grown_new HG1.out hg2 hsz)
  clear hb2 hg2 HN HT1 HG1
  go_wp2
  go_loopw [9] (fun i wr => ∃ (k : Nat) (T : Tl), k ≤ n ∧ T.good ∧ i = .int .i64 k ∧ Tb wr B T ∧ wr.heap[w1.heap.size]? = some (.cells T.cells 30 (0, 0)) ∧ w.grownBy wr none) (fun i _ => n - (intOf i).toNat)
  case atStart => exact ⟨0, .no, Nat.zero_le _, .inl rfl, rfl, HT2.out, HX2.out, HG2.out⟩
  case round =>
    obtain ⟨k, T, hk, hgood, rfl, hTr, hXr, hgr⟩ := hrel
    have HTr := Lib.hid hTr
    have HXr := Lib.hid hXr
    have HG := Lib.hid hgr
    have hXlt : w1.heap.size < wr.heap.size := lt_of_block hXr
    clear hTr hXr hgr HT2 HX2 HG2
    by_cases hlt : k < n
    · obtain ⟨b, o, rfl, hcs⟩ := hs.resolve_left (by omega)
      have hb0 : b < w.heap.size := World.block_lt_of_cell? w _ (hcs k hlt)
      have hbw : b < wr.heap.size := by have := HG.out.size; omega
      have HS := Lib.hid (fun j (hj : j < n) => (World.cell?_of_block (HG.out.block b hb0 (by simp))).trans (hcs j hj))
      clear hcs hs
      have hBr := HTr.out.lt
      go_wp2
      refine regx_open (fun k => k = B ∨ wr.heap.size ≤ k) (n := 19) rfl (by kernel_rfl) ?_
      refine regx_take 0 (some 25) (v := ?_) rfl rfl (by kernel_rfl) (by kernel_rfl) (by kernel_rfl) (fun _ _ _ h => h) (by rfl) ?_ ?_
      rotate_left
      · intro W hW; go_simp; first | done | with_reducible rfl
      try simp only [Act.put, List.setIfInBounds_toArray, List.set_cons_zero, List.set_cons_succ]
      refine regx_take 1 (some 26) (v := ?_) rfl rfl (by kernel_rfl) (by kernel_rfl) (by kernel_rfl) (fun _ _ _ h => h) (by rfl) ?_ ?_
      rotate_left
      · intro W hW; refine exec_ld30 (x := .tmp 8) ?_ ?_ ((hW.block _ (lt_of_block HXr.out) (by show ¬ (_ = B ∨ wr.heap.size ≤ _); omega)).trans HXr.out) <;> rfl
      try simp only [Act.put, List.setIfInBounds_toArray, List.set_cons_zero, List.set_cons_succ]
      refine regx_take 2 (some 27) (v := ?_) rfl rfl (by kernel_rfl) (by kernel_rfl) (by kernel_rfl) (fun _ _ _ h => h) (by rfl) ?_ ?_
      rotate_left
      · intro W hW; go_simp; first | done | with_reducible rfl
      try simp only [Act.put, List.setIfInBounds_toArray, List.set_cons_zero, List.set_cons_succ]
      refine regx_take 3 (some 28) (v := ?_) rfl rfl (by kernel_rfl) (by kernel_rfl) (by kernel_rfl) (fun _ _ _ h => h) (by rfl) ?_ ?_
      rotate_left
      · intro W hW; go_simp; first | done | with_reducible rfl
      try simp only [Act.put, List.setIfInBounds_toArray, List.set_cons_zero, List.set_cons_succ]
      refine regx_take 4 (some 29) (v := ?_) rfl rfl (by kernel_rfl) (by kernel_rfl) (by kernel_rfl) (fun _ _ _ h => h) (by rfl) ?_ ?_
      rotate_left
      · intro W hW; go_simp; first | done | with_reducible rfl
      try simp only [Act.put, List.setIfInBounds_toArray, List.set_cons_zero, List.set_cons_succ]
      refine regx_take 5 (some 30) (v := ?_) rfl rfl (by kernel_rfl) (by kernel_rfl) (by kernel_rfl) (fun _ _ _ h => h) (by rfl) ?_ ?_
      rotate_left
      · intro W hW; have c := (World.cell?_of_block (hW.block b hbw (by show ¬ (_ = B ∨ wr.heap.size ≤ _); omega))).trans (HS.out k hlt); go_simp; first | done | with_reducible rfl
      try simp only [Act.put, List.setIfInBounds_toArray, List.set_cons_zero, List.set_cons_succ]
      refine regx_take 6 (some 31) (v := ?_) rfl rfl (by kernel_rfl) (by kernel_rfl) (by kernel_rfl) (fun _ _ _ h => h) (by rfl) ?_ ?_
      rotate_left
      · intro W hW; go_simp; first | done | with_reducible rfl
      try simp only [Act.put, List.setIfInBounds_toArray, List.set_cons_zero, List.set_cons_succ]
      refine regx_take 7 (some 32) (v := ?_) rfl rfl (by kernel_rfl) (by kernel_rfl) (by kernel_rfl) (fun _ _ _ h => h) (by rfl) ?_ ?_
      rotate_left
      · intro W hW; go_simp; first | done | with_reducible rfl
      try simp only [Act.put, List.setIfInBounds_toArray, List.set_cons_zero, List.set_cons_succ]
      refine regx_take 8 (some 33) (v := ?_) rfl rfl (by kernel_rfl) (by kernel_rfl) (by kernel_rfl) (fun _ _ _ h => h) (by rfl) ?_ ?_
      rotate_left
      · intro W hW; go_simp; first | done | with_reducible rfl
      try simp only [Act.put, List.setIfInBounds_toArray, List.set_cons_zero, List.set_cons_succ]
      refine regx_take 9 (some 34) (v := ?_) rfl rfl (by kernel_rfl) (by kernel_rfl) (by kernel_rfl) (fun _ _ _ h => h) (by rfl) ?_ ?_
      rotate_left
      · intro W hW; go_simp; first | done | with_reducible rfl
      try simp only [Act.put, List.setIfInBounds_toArray, List.set_cons_zero, List.set_cons_succ]
      refine regx_take 10 (some 35) (v := ?_) rfl rfl (by kernel_rfl) (by kernel_rfl) (by kernel_rfl) (fun _ _ _ h => h) (by rfl) ?_ ?_
      rotate_left
      · intro W hW; go_simp; first | done | with_reducible rfl
      try simp only [Act.put, List.setIfInBounds_toArray, List.set_cons_zero, List.set_cons_succ]
      refine regx_take 11 (some 36) (v := ?_) rfl rfl (by kernel_rfl) (by kernel_rfl) (by kernel_rfl) (fun _ _ _ h => h) (by rfl) ?_ ?_
      rotate_left
      · intro W hW; go_simp; first | done | with_reducible rfl
      try simp only [Act.put, List.setIfInBounds_toArray, List.set_cons_zero, List.set_cons_succ]
      refine wpAnyH_ready (rs := [12, 16]) (by kernel_rfl) (by simp) ?_
      refine (AllReadyH.cons (o := { dst := some 37, op := Op.call { callee := Callee.value (Operand.func 13), args := #[Operand.tmp 25, Operand.tmp 26, Operand.tmp 36], argTypes := #[24, 30, 40] }, type := 37, pos := "law.go:95", after := #[{ on := 0, ground := Ground.data }, { on := 1, ground := Ground.data }, { on := 11, ground := Ground.data }], guard := none }) rfl (fun K hK => ?_) (AllReadyH.cons (o := { dst := some 10, op := Op.alloc 30, type := 0, pos := "law.go:95", after := #[], guard := none }) rfl (fun K hK => ?_) AllReadyH.nil))
      · go_simp
        refine (act_any B T _ _ _ _ _ _ (by first | exact HTr.out.drew | exact (HTr.out.keptNone (World.grownBy_alloc wr (.cells zeros 30) none)).drew) hgood).mono ?_; rintro e u1 ⟨rfl, hT1, h1'⟩; have h1 : Keeps (fun k => k = B ∨ wr.heap.size ≤ k) _ u1 := Keeps.of h1' (fun r e => by cases e; exact .inl rfl); have hBu := hT1.lt
        refine regx_next hK h1 ?_
        clear hK K
        try simp only [Act.put, List.setIfInBounds_toArray, List.set_cons_zero, List.set_cons_succ]
        refine regx_take 13 (some 24) (v := ?_) rfl rfl (by kernel_rfl) (by kernel_rfl) (by kernel_rfl) (fun _ _ _ h => h) (by rfl) ?_ ?_
        rotate_left
        · intro W hW; go_simp; first | done | with_reducible rfl
        try simp only [Act.put, List.setIfInBounds_toArray, List.set_cons_zero, List.set_cons_succ]
        refine regx_take 14 (some 38) (v := ?_) rfl rfl (by kernel_rfl) (by kernel_rfl) (by kernel_rfl) (fun _ _ _ h => h) (by rfl) ?_ ?_
        rotate_left
        · intro W hW; go_simp; first | done | with_reducible rfl
        try simp only [Act.put, List.setIfInBounds_toArray, List.set_cons_zero, List.set_cons_succ]
        refine regx_take 15 (some 39) (v := ?_) rfl rfl (by kernel_rfl) (by kernel_rfl) (by kernel_rfl) (fun _ _ _ h => h) (by rfl) ?_ ?_
        rotate_left
        · intro W hW; go_simp; first | done | with_reducible rfl
        try simp only [Act.put, List.setIfInBounds_toArray, List.set_cons_zero, List.set_cons_succ]
        refine wpAnyH_ready (rs := [16]) (by kernel_rfl) (by simp) ?_
        refine (AllReadyH.cons (o := { dst := some 10, op := Op.alloc 30, type := 0, pos := "law.go:95", after := #[], guard := none }) rfl (fun K hK => ?_) AllReadyH.nil)
        refine wp_of_run (exec_alloc30 rfl _) ?_
        have hA : Keeps (fun k => k = B ∨ wr.heap.size ≤ k) u1 (u1.alloc (.cells zeros 30)) := Keeps.of (World.grownBy_alloc _ _ none) (fun r e => by cases e)
        refine regx_next hK hA ?_
        clear hK K
        try simp only [Act.put, List.setIfInBounds_toArray, List.set_cons_zero, List.set_cons_succ]
        refine wpAnyH_ready (rs := [17]) (by kernel_rfl) (by simp) ?_
        refine (AllReadyH.cons (o := { dst := none, op := Op.store 30 (Operand.tmp 10) (Operand.tmp 38), type := 0, pos := "law.go:95", after := #[{ on := 16, ground := Ground.data }, { on := 14, ground := Ground.data }, { on := 12, ground := Ground.chain }, { on := 0, ground := Ground.phase }, { on := 1, ground := Ground.phase }, { on := 2, ground := Ground.phase }, { on := 3, ground := Ground.phase }, { on := 4, ground := Ground.phase }, { on := 5, ground := Ground.phase }, { on := 6, ground := Ground.phase }, { on := 7, ground := Ground.phase }, { on := 8, ground := Ground.phase }, { on := 9, ground := Ground.phase }, { on := 10, ground := Ground.phase }, { on := 11, ground := Ground.phase }, { on := 12, ground := Ground.phase }, { on := 13, ground := Ground.phase }, { on := 14, ground := Ground.phase }, { on := 15, ground := Ground.textOnly Departure.lateStores }, { on := 16, ground := Ground.phase }], guard := none }) rfl (fun K hK => ?_) AllReadyH.nil)
        refine wp_store_all 30 _ _ rfl ?b9u7 ?cs9u7 ?hx9u7 ?hy9u7 zerosL 30 ?hz9u7 ?hf9u7 17 ?hn9u7 Try.size30 ?h19u7 ?_
        case hy9u7 => exact rfl
        case hx9u7 => exact rfl
        case hz9u7 => first | exact heap_alloc_new u1 (.cells zeros 30) | exact (h1'.block _ (by simp) (by simp; omega)).trans (heap_alloc_new wr (.cells zeros 30))
        case hf9u7 => exact rfl
        case hn9u7 => exact rfl
        case h19u7 => simp [allOne, Value.oneCell']
        intro u4 hb4 h4'
        have h4 : Keeps (fun k => k = B ∨ wr.heap.size ≤ k) _ u4 := Keeps.of h4' (fun r e => by cases e; exact .inr (by first | exact Nat.le_refl _ | exact h1'.size))
        refine regx_next hK h4 ?_
        clear hK K
        try simp only [Act.put]
        refine regx_take 18 (some 11) (v := ?_) rfl rfl (by kernel_rfl) (by kernel_rfl) (by kernel_rfl) (fun _ _ _ h => h) (by rfl) ?_ ?_
        rotate_left
        · intro W hW; go_simp; first | done | with_reducible rfl
        try simp only [Act.put, List.setIfInBounds_toArray, List.set_cons_zero, List.set_cons_succ]
        refine wpAnyH_done (by kernel_rfl) ?_ _
        have HYu := Lib.hid hb4
        have HTu : Hid (Tb u4 B (T.act 0 (l k) ((IntKind.u32.wrap (frame + IntKind.u32.wrap (k : Int)))) write)) := Lib.hid (by first | exact hT1.kept h4' (by simp; omega) | exact (hT1.keptNone (World.grownBy_alloc _ _ none)).kept h4' (by simp; omega))
        have HXu := Lib.hid ((((h1.trans (hA.trans h4))).block _ (lt_of_block HXr.out) (by show ¬ (_ = B ∨ wr.heap.size ≤ _); omega)).trans HXr.out)
        have HGu := Lib.hid (grown_keeps (drewr HG.out) ((h1.trans (hA.trans h4))) (by rintro x (rfl | hx) <;> omega))
        have hXu : w1.heap.size < u4.heap.size := lt_of_block HXu.out
        have hgd : (T.act 0 (l k) ((IntKind.u32.wrap (frame + IntKind.u32.wrap (k : Int)))) write).good := Tl.good_act hgood _ _ _ _
        clear h4 h4' hT1 h1 h1' HTr HXr HG
        try clear hA
        generalize T.act 0 (l k) ((IntKind.u32.wrap (frame + IntKind.u32.wrap (k : Int)))) write = T2 at *
        go_wp2_with (with_reducible refine hold_ld 30 _ rfl ?_)
        apply Lib.hid
        refine wpList_val (by rfl) (exec_ld30 (x := .tmp 10) (T := T2) rfl rfl HYu.out) ?_
        go_wp2_with (with_reducible refine hold_st 30 _ _ rfl ?_)
        apply Lib.hid
        with_reducible refine wpList_store_all rfl 30 _ _ rfl _ ?csu8 ?hxu8 ?hyu8 _ _ HXu.out ?hfu8 _ ?hlu8 Try.size30 ?h1u8 ?_
        case hyu8 => exact rfl
        case hxu8 => exact rfl
        case hfu8 => exact rfl
        case hlu8 => exact rfl
        case h1u8 => simp [allOne, Value.oneCell']
        intro w5 hb5 hg5
        have HX5 := Lib.hid (show w5.heap[w1.heap.size]? = some (.cells T2.cells 30 (0, 0)) from hb5)
        have HT5 := Lib.hid (HTu.out.kept hg5 (by simp; omega))
        have HG5 := Lib.hid (grown_new HGu.out hg5 hsz)
        clear hb5 hg5 HYu HTu HXu HGu
        go_wp2_with (with_reducible refine hold_ld 30 _ rfl ?_)
        apply Lib.hid
        refine wpList_val (by rfl) (exec_ld30 (x := .tmp 8) (T := T2) rfl rfl HX5.out) ?_
        go_wp2_with fail
        refine (is_any B _ _ HT5.out).mono ?_; rintro e w6 ⟨rfl, hg6⟩
        have HX6 := Lib.hid ((hg6.block _ (lt_of_block HX5.out) (by simp)).trans HX5.out)
        have HT6 := Lib.hid (HT5.out.keptNone hg6)
        have HG6 := Lib.hid (HG5.out.trans hg6)
        clear hg6 HX5 HT5 HG5
        go_wp2
        go_roundw
        case rel => exact ⟨k + 1, T2, by omega, hgd, by simp, HT6.out, HX6.out, HG6.out⟩
        case measure => simp [intOf]; omega
      · refine wp_of_run (exec_alloc30 rfl _) ?_
        have hA : Keeps (fun k => k = B ∨ wr.heap.size ≤ k) wr.drew (wr.drew.alloc (.cells zeros 30)) := Keeps.of (World.grownBy_alloc _ _ none) (fun r e => by cases e)
        refine regx_next hK hA ?_
        clear hK K
        try simp only [Act.put, List.setIfInBounds_toArray, List.set_cons_zero, List.set_cons_succ]
        refine wpAnyH_ready (rs := [12]) (by kernel_rfl) (by simp) ?_
        refine (AllReadyH.cons (o := { dst := some 37, op := Op.call { callee := Callee.value (Operand.func 13), args := #[Operand.tmp 25, Operand.tmp 26, Operand.tmp 36], argTypes := #[24, 30, 40] }, type := 37, pos := "law.go:95", after := #[{ on := 0, ground := Ground.data }, { on := 1, ground := Ground.data }, { on := 11, ground := Ground.data }], guard := none }) rfl (fun K hK => ?_) AllReadyH.nil)
        go_simp
        refine (act_any B T _ _ _ _ _ _ (by first | exact HTr.out.drew | exact (HTr.out.keptNone (World.grownBy_alloc wr (.cells zeros 30) none)).drew) hgood).mono ?_; rintro e u1 ⟨rfl, hT1, h1'⟩; have h1 : Keeps (fun k => k = B ∨ wr.heap.size ≤ k) _ u1 := Keeps.of h1' (fun r e => by cases e; exact .inl rfl); have hBu := hT1.lt
        refine regx_next hK h1 ?_
        clear hK K
        try simp only [Act.put, List.setIfInBounds_toArray, List.set_cons_zero, List.set_cons_succ]
        refine regx_take 13 (some 24) (v := ?_) rfl rfl (by kernel_rfl) (by kernel_rfl) (by kernel_rfl) (fun _ _ _ h => h) (by rfl) ?_ ?_
        rotate_left
        · intro W hW; go_simp; first | done | with_reducible rfl
        try simp only [Act.put, List.setIfInBounds_toArray, List.set_cons_zero, List.set_cons_succ]
        refine regx_take 14 (some 38) (v := ?_) rfl rfl (by kernel_rfl) (by kernel_rfl) (by kernel_rfl) (fun _ _ _ h => h) (by rfl) ?_ ?_
        rotate_left
        · intro W hW; go_simp; first | done | with_reducible rfl
        try simp only [Act.put, List.setIfInBounds_toArray, List.set_cons_zero, List.set_cons_succ]
        refine regx_take 15 (some 39) (v := ?_) rfl rfl (by kernel_rfl) (by kernel_rfl) (by kernel_rfl) (fun _ _ _ h => h) (by rfl) ?_ ?_
        rotate_left
        · intro W hW; go_simp; first | done | with_reducible rfl
        try simp only [Act.put, List.setIfInBounds_toArray, List.set_cons_zero, List.set_cons_succ]
        refine wpAnyH_ready (rs := [17]) (by kernel_rfl) (by simp) ?_
        refine (AllReadyH.cons (o := { dst := none, op := Op.store 30 (Operand.tmp 10) (Operand.tmp 38), type := 0, pos := "law.go:95", after := #[{ on := 16, ground := Ground.data }, { on := 14, ground := Ground.data }, { on := 12, ground := Ground.chain }, { on := 0, ground := Ground.phase }, { on := 1, ground := Ground.phase }, { on := 2, ground := Ground.phase }, { on := 3, ground := Ground.phase }, { on := 4, ground := Ground.phase }, { on := 5, ground := Ground.phase }, { on := 6, ground := Ground.phase }, { on := 7, ground := Ground.phase }, { on := 8, ground := Ground.phase }, { on := 9, ground := Ground.phase }, { on := 10, ground := Ground.phase }, { on := 11, ground := Ground.phase }, { on := 12, ground := Ground.phase }, { on := 13, ground := Ground.phase }, { on := 14, ground := Ground.phase }, { on := 15, ground := Ground.textOnly Departure.lateStores }, { on := 16, ground := Ground.phase }], guard := none }) rfl (fun K hK => ?_) AllReadyH.nil)
        refine wp_store_all 30 _ _ rfl ?b9u13 ?cs9u13 ?hx9u13 ?hy9u13 zerosL 30 ?hz9u13 ?hf9u13 17 ?hn9u13 Try.size30 ?h19u13 ?_
        case hy9u13 => exact rfl
        case hx9u13 => exact rfl
        case hz9u13 => first | exact heap_alloc_new u1 (.cells zeros 30) | exact (h1'.block _ (by simp) (by simp; omega)).trans (heap_alloc_new wr (.cells zeros 30))
        case hf9u13 => exact rfl
        case hn9u13 => exact rfl
        case h19u13 => simp [allOne, Value.oneCell']
        intro u4 hb4 h4'
        have h4 : Keeps (fun k => k = B ∨ wr.heap.size ≤ k) _ u4 := Keeps.of h4' (fun r e => by cases e; exact .inr (by first | exact Nat.le_refl _ | exact h1'.size))
        refine regx_next hK h4 ?_
        clear hK K
        try simp only [Act.put]
        refine regx_take 18 (some 11) (v := ?_) rfl rfl (by kernel_rfl) (by kernel_rfl) (by kernel_rfl) (fun _ _ _ h => h) (by rfl) ?_ ?_
        rotate_left
        · intro W hW; go_simp; first | done | with_reducible rfl
        try simp only [Act.put, List.setIfInBounds_toArray, List.set_cons_zero, List.set_cons_succ]
        refine wpAnyH_done (by kernel_rfl) ?_ _
        have HYu := Lib.hid hb4
        have HTu : Hid (Tb u4 B (T.act 0 (l k) ((IntKind.u32.wrap (frame + IntKind.u32.wrap (k : Int)))) write)) := Lib.hid (by first | exact hT1.kept h4' (by simp; omega) | exact (hT1.keptNone (World.grownBy_alloc _ _ none)).kept h4' (by simp; omega))
        have HXu := Lib.hid ((((hA.trans (h1.trans h4))).block _ (lt_of_block HXr.out) (by show ¬ (_ = B ∨ wr.heap.size ≤ _); omega)).trans HXr.out)
        have HGu := Lib.hid (grown_keeps (drewr HG.out) ((hA.trans (h1.trans h4))) (by rintro x (rfl | hx) <;> omega))
        have hXu : w1.heap.size < u4.heap.size := lt_of_block HXu.out
        have hgd : (T.act 0 (l k) ((IntKind.u32.wrap (frame + IntKind.u32.wrap (k : Int)))) write).good := Tl.good_act hgood _ _ _ _
        clear h4 h4' hT1 h1 h1' HTr HXr HG
        try clear hA
        generalize T.act 0 (l k) ((IntKind.u32.wrap (frame + IntKind.u32.wrap (k : Int)))) write = T2 at *
        go_wp2_with (with_reducible refine hold_ld 30 _ rfl ?_)
        apply Lib.hid
        refine wpList_val (by rfl) (exec_ld30 (x := .tmp 10) (T := T2) rfl rfl HYu.out) ?_
        go_wp2_with (with_reducible refine hold_st 30 _ _ rfl ?_)
        apply Lib.hid
        with_reducible refine wpList_store_all rfl 30 _ _ rfl _ ?csu14 ?hxu14 ?hyu14 _ _ HXu.out ?hfu14 _ ?hlu14 Try.size30 ?h1u14 ?_
        case hyu14 => exact rfl
        case hxu14 => exact rfl
        case hfu14 => exact rfl
        case hlu14 => exact rfl
        case h1u14 => simp [allOne, Value.oneCell']
        intro w5 hb5 hg5
        have HX5 := Lib.hid (show w5.heap[w1.heap.size]? = some (.cells T2.cells 30 (0, 0)) from hb5)
        have HT5 := Lib.hid (HTu.out.kept hg5 (by simp; omega))
        have HG5 := Lib.hid (grown_new HGu.out hg5 hsz)
        clear hb5 hg5 HYu HTu HXu HGu
        go_wp2_with (with_reducible refine hold_ld 30 _ rfl ?_)
        apply Lib.hid
        refine wpList_val (by rfl) (exec_ld30 (x := .tmp 8) (T := T2) rfl rfl HX5.out) ?_
        go_wp2_with fail
        refine (is_any B _ _ HT5.out).mono ?_; rintro e w6 ⟨rfl, hg6⟩
        have HX6 := Lib.hid ((hg6.block _ (lt_of_block HX5.out) (by simp)).trans HX5.out)
        have HT6 := Lib.hid (HT5.out.keptNone hg6)
        have HG6 := Lib.hid (HG5.out.trans hg6)
        clear hg6 HX5 HT5 HG5
        go_wp2
        go_roundw
        case rel => exact ⟨k + 1, T2, by omega, hgd, by simp, HT6.out, HX6.out, HG6.out⟩
        case measure => simp [intOf]; omega
    · obtain rfl : k = n := by omega
      go_wp2_with fail
      refine (works_any _).mono ?_; rintro e w4 ⟨rfl, hg4⟩
      have HG4 := Lib.hid (HG.out.trans hg4)
      clear hg4
      go_wp2
      go_ret
      exact ⟨rfl, HG4.out⟩
end Go.Proofs.Ytcahpmlajfbidaa
