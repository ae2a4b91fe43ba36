import Derived.Test.YtcahpmlajfbidaaU
namespace Go.Proofs.Ytcahpmlajfbidaa
open Go.RowKit
theorem wrap_nat {k : Nat} (h : k < 4294967296) : IntKind.u32.wrap (k : Int) = (k : Int) := by
  simp [IntKind.wrap, IntKind.bits, IntKind.signed]
  omega
set_option maxHeartbeats 8000000 in
theorem tlbDrops_walk (a : Option Addr) (n cap : Nat) (l : Nat → Int) (gone more : Int) (w : World) (hs : SrcP w a n l) (hm : n ≤ 9223372036854775807) :
    Calls Try.prog 6 #[.slice a n cap, .int .u32 gone, .int .u32 more] w fun e w' => e = .returned (.bool true) ∧ w.grownBy w' none := by
  by_cases h3 : (20 : Int) < n
  · go_enter Try.func6, Try.ntmps6
    go_wp2_with (go_at_call 9; refine (works_any _).mono ?_; rintro e w1 ⟨rfl, hg1⟩)
    go_ret
    exact ⟨rfl, hg1⟩
  go_enter Try.func6, Try.ntmps6
  go_wp2_with fail
  refine (new_any _).mono ?_; rintro e w1 ⟨B, rfl, hB, hTb, hg1⟩
  have hB1 := hTb.lt
  have hsz := hg1.size
  have HN := Lib.hid (heap_alloc_new w1 (.cells zeros 30))
  have HT1 := Lib.hid (hTb.keptNone (World.grownBy_alloc w1 (.cells zeros 30) none))
  have HG1 := Lib.hid (hg1.trans (World.grownBy_alloc w1 (.cells zeros 30) none))
  clear hTb hg1
  go_wp2_with (with_reducible refine hold_st 30 _ _ rfl ?_)
  apply Lib.hid
  with_reducible refine wpList_store_all rfl 30 _ _ rfl _ ?cs2101 ?hx2101 ?hy2101 _ _ HN.out ?hf2101 _ ?hl2101 Try.size30 ?h12101 ?_
  case hy2101 => exact rfl
  case hx2101 => exact rfl
  case hf2101 => exact rfl
  case hl2101 => exact rfl
  case h12101 => simp [allOne, Value.oneCell']
  intro w2 hb2 hg2
  have HX2 := Lib.hid (show w2.heap[w1.heap.size]? = some (.cells Tl.no.cells 30 (0, 0)) from hb2)
  have HT2 := Lib.hid (show Tb w2 B .no from HT1.out.kept hg2 (by simp; omega))
  have HG2 := Lib.hid (grown_new HG1.out hg2 hsz)
  clear hb2 hg2 HN HT1 HG1
  go_wp2
  go_loopw [9] (fun i wr => ∃ (k : Nat) (T : Tl), k ≤ n ∧ T.good ∧ i = .int .i64 k ∧ Tb wr B T ∧ wr.heap[w1.heap.size]? = some (.cells T.cells 30 (0, 0)) ∧ w.grownBy wr none) (fun i _ => n - (intOf i).toNat)
  case atStart => exact ⟨0, .no, Nat.zero_le _, .inl rfl, rfl, HT2.out, HX2.out, HG2.out⟩
  case round =>
    obtain ⟨k, T, hk, hgood, rfl, hTr, hXr, hgr⟩ := hrel
    have HTr := Lib.hid hTr
    have HXr := Lib.hid hXr
    have HG := Lib.hid hgr
    have hXlt : w1.heap.size < wr.heap.size := lt_of_block hXr
    clear hTr hXr hgr HT2 HX2 HG2
    by_cases hlt : k < n
    · obtain ⟨b, o, rfl, hcs⟩ := hs.resolve_left (by omega)
      have hb0 : b < w.heap.size := World.block_lt_of_cell? w _ (hcs k hlt)
      have hbw : b < wr.heap.size := by have := HG.out.size; omega
      have HS := Lib.hid (fun j (hj : j < n) => (World.cell?_of_block (HG.out.block b hb0 (by simp))).trans (hcs j hj))
      clear hcs hs
      have hBr := HTr.out.lt
      go_wp2
      refine reg_open (some w1.heap.size) (n := 15) rfl (by kernel_rfl) ?_
      refine reg_take 1 (some 29) (v := ?_) rfl rfl (by kernel_rfl) (by kernel_rfl) (by kernel_rfl) (fun _ _ _ h => h) (by rfl) ?_ ?_
      rotate_left
      · intro W hW; go_simp; first | done | with_reducible rfl
      try simp only [Act.put, List.setIfInBounds_toArray, List.set_cons_zero, List.set_cons_succ]
      refine reg_take 2 (some 30) (v := ?_) rfl rfl (by kernel_rfl) (by kernel_rfl) (by kernel_rfl) (fun _ _ _ h => h) (by rfl) ?_ ?_
      rotate_left
      · intro W hW; go_simp; first | done | with_reducible rfl
      try simp only [Act.put, List.setIfInBounds_toArray, List.set_cons_zero, List.set_cons_succ]
      refine reg_take 3 (some 31) (v := ?_) rfl rfl (by kernel_rfl) (by kernel_rfl) (by kernel_rfl) (fun _ _ _ h => h) (by rfl) ?_ ?_
      rotate_left
      · intro W hW; go_simp; first | done | with_reducible rfl
      try simp only [Act.put, List.setIfInBounds_toArray, List.set_cons_zero, List.set_cons_succ]
      refine reg_take 4 (some 32) (v := ?_) rfl rfl (by kernel_rfl) (by kernel_rfl) (by kernel_rfl) (fun _ _ _ h => h) (by rfl) ?_ ?_
      rotate_left
      · intro W hW; have c := (World.cell?_of_block (hW.block b hbw (by simp; omega))).trans (HS.out k hlt); go_simp; first | done | with_reducible rfl
      try simp only [Act.put, List.setIfInBounds_toArray, List.set_cons_zero, List.set_cons_succ]
      refine reg_take 5 (some 33) (v := ?_) rfl rfl (by kernel_rfl) (by kernel_rfl) (by kernel_rfl) (fun _ _ _ h => h) (by rfl) ?_ ?_
      rotate_left
      · intro W hW; go_simp; first | done | with_reducible rfl
      try simp only [Act.put, List.setIfInBounds_toArray, List.set_cons_zero, List.set_cons_succ]
      refine reg_take 6 (some 34) (v := ?_) rfl rfl (by kernel_rfl) (by kernel_rfl) (by kernel_rfl) (fun _ _ _ h => h) (by rfl) ?_ ?_
      rotate_left
      · intro W hW; go_simp; first | done | with_reducible rfl
      try simp only [Act.put, List.setIfInBounds_toArray, List.set_cons_zero, List.set_cons_succ]
      refine reg_take 7 (some 35) (v := ?_) rfl rfl (by kernel_rfl) (by kernel_rfl) (by kernel_rfl) (fun _ _ _ h => h) (by rfl) ?_ ?_
      rotate_left
      · intro W hW; go_simp; first | done | with_reducible rfl
      try simp only [Act.put, List.setIfInBounds_toArray, List.set_cons_zero, List.set_cons_succ]
      refine reg_take 8 (some 36) (v := ?_) rfl rfl (by kernel_rfl) (by kernel_rfl) (by kernel_rfl) (fun _ _ _ h => h) (by rfl) ?_ ?_
      rotate_left
      · intro W hW; go_simp; first | done | with_reducible rfl
      try simp only [Act.put, List.setIfInBounds_toArray, List.set_cons_zero, List.set_cons_succ]
      refine reg_take 9 (some 37) (v := ?_) rfl rfl (by kernel_rfl) (by kernel_rfl) (by kernel_rfl) (fun _ _ _ h => h) (by rfl) ?_ ?_
      rotate_left
      · intro W hW; go_simp; first | done | with_reducible rfl
      try simp only [Act.put, List.setIfInBounds_toArray, List.set_cons_zero, List.set_cons_succ]
      refine wpAnyH_ready (rs := [0]) (by kernel_rfl) (by simp) ?_
      refine (AllReadyH.cons (o := { dst := some 28, op := Op.load 30 (Operand.tmp 8), type := 30, pos := "near.go:17", after := #[], guard := none }) rfl (fun K hK => ?_) AllReadyH.nil)
      refine wp_of_exec (exec_ld30 (x := .tmp 8) (b := w1.heap.size) (T := T) ?_ ?_ ?_) ?_
      · rfl
      · rfl
      · exact HXr.out
      refine reg_same hK ?_
      clear hK K
      try simp only [Act.put, List.setIfInBounds_toArray, List.set_cons_zero, List.set_cons_succ]
      refine wpAnyH_ready (rs := [10]) (by kernel_rfl) (by simp) ?_
      refine (AllReadyH.cons (o := { dst := some 38, op := Op.call { callee := Callee.value (Operand.func 16), args := #[Operand.tmp 28, Operand.tmp 32, Operand.tmp 34, Operand.tmp 37], argTypes := #[30, 25, 25, 4] }, type := 46, pos := "near.go:17", after := #[{ on := 0, ground := Ground.data }, { on := 4, ground := Ground.data }, { on := 6, ground := Ground.data }, { on := 9, ground := Ground.data }], guard := none }) rfl (fun K hK => ?_) AllReadyH.nil)
      go_simp
      refine (ref_fill T _ _ _ _ hgood).mono ?_; rintro e u1 ⟨rfl, h1'⟩; have h1 := grown_none h1' (some w1.heap.size)
      refine reg_next hK h1 ?_
      clear hK K
      try simp only [Act.put, List.setIfInBounds_toArray, List.set_cons_zero, List.set_cons_succ]
      refine reg_take 11 (some 27) (v := ?_) rfl rfl (by kernel_rfl) (by kernel_rfl) (by kernel_rfl) (fun _ _ _ h => h) (by rfl) ?_ ?_
      rotate_left
      · intro W hW; go_simp; first | done | with_reducible rfl
      try simp only [Act.put, List.setIfInBounds_toArray, List.set_cons_zero, List.set_cons_succ]
      refine reg_take 12 (some 39) (v := ?_) rfl rfl (by kernel_rfl) (by kernel_rfl) (by kernel_rfl) (fun _ _ _ h => h) (by rfl) ?_ ?_
      rotate_left
      · intro W hW; go_simp; first | done | with_reducible rfl
      try simp only [Act.put, List.setIfInBounds_toArray, List.set_cons_zero, List.set_cons_succ]
      refine reg_take 13 (some 40) (v := ?_) rfl rfl (by kernel_rfl) (by kernel_rfl) (by kernel_rfl) (fun _ _ _ h => h) (by rfl) ?_ ?_
      rotate_left
      · intro W hW; go_simp; first | done | with_reducible rfl
      try simp only [Act.put, List.setIfInBounds_toArray, List.set_cons_zero, List.set_cons_succ]
      refine wpAnyH_ready (rs := [14]) (by kernel_rfl) (by simp) ?_
      refine (AllReadyH.cons (o := { dst := none, op := Op.store 30 (Operand.tmp 8) (Operand.tmp 39), type := 0, pos := "near.go:17", after := #[{ on := 12, ground := Ground.data }, { on := 10, ground := Ground.chain }, { on := 0, ground := Ground.phase }, { on := 1, ground := Ground.phase }, { on := 2, ground := Ground.phase }, { on := 3, ground := Ground.phase }, { on := 4, ground := Ground.phase }, { on := 5, ground := Ground.phase }, { on := 6, ground := Ground.phase }, { on := 7, ground := Ground.phase }, { on := 8, ground := Ground.phase }, { on := 9, ground := Ground.phase }, { on := 10, ground := Ground.phase }, { on := 11, ground := Ground.phase }, { on := 12, ground := Ground.phase }, { on := 13, ground := Ground.textOnly Departure.lateStores }], guard := none }) rfl (fun K hK => ?_) AllReadyH.nil)
      have hz := (h1'.block _ (lt_of_block HXr.out) (by simp)).trans HXr.out
      refine wp_store_all 30 _ _ rfl w1.heap.size ?cs9 ?hx9 ?hy9 _ _ hz ?hf9 17 ?hn9 Try.size30 ?h19 ?_
      case hy9 => exact rfl
      case hx9 => exact rfl
      case hf9 => exact rfl
      case hn9 => exact rfl
      case h19 => simp [allOne, Value.oneCell']
      intro u4 hb4 h4'
      refine reg_next hK h4' ?_
      clear hK K
      try simp only [Act.put]
      refine wpAnyH_done (by kernel_rfl) ?_ _
      have e1 : IntKind.u32.wrap (k : Int) = (k : Int) := wrap_nat (by omega)
      have e2 : (((k : Int)).tmod 2 == 0) = ((k : Int) % 2 == 0) := by rw [Int.tmod_eq_emod_of_nonneg (by omega)]
      have hTe : T.fill (l k) ((IntKind.u32.wrap (k : Int))) (((k : Int)).tmod 2 == 0) = T.fill (l k) (k : Int) ((k : Int) % 2 == 0) := by rw [e1, e2]
      have HX4 := Lib.hid (show u4.heap[w1.heap.size]? = some (.cells (T.fill (l k) (k : Int) ((k : Int) % 2 == 0)).cells 30 (0, 0)) from hTe ▸ hb4)
      have HT4 := Lib.hid ((HTr.out.drew.keptNone h1').kept h4' (by simp; omega))
      have HG4 := Lib.hid (grown_new ((drewr HG.out).trans h1') h4' hsz)
      have c4 := (World.cell?_of_block (((h1.trans h4')).block b hbw (by simp; omega))).trans (HS.out k hlt)
      have HGd := Lib.hid (Tl.good_fill hgood (l k) (k : Int) ((k : Int) % 2 == 0))
      clear e1 e2 hTe hb4 h4' h1 h1' HXr HTr HG HS
      go_wp2_with fail
      refine (fill_tb B T false (l k) (k : Int) ((k : Int) % 2 == 0) _ HT4.out hgood).mono ?_; rintro e u5 ⟨rfl, hT5, hg5⟩
      have HX5 := Lib.hid ((hg5.block _ (lt_of_block HX4.out) (by simp; omega)).trans HX4.out)
      have HG5 := Lib.hid (grown_new HG4.out hg5 hB)
      have HT5 := Lib.hid hT5
      clear hT5 hg5 HX4 HT4 HG4 c4
      go_wp2
      go_roundw
      case rel => exact ⟨k + 1, T.fill (l k) (k : Int) ((k : Int) % 2 == 0), by omega, HGd.out, by simp, HT5.out, HX5.out, HG5.out⟩
      case measure => simp [intOf]; omega
    · obtain rfl : k = n := by omega
      go_wp2_with (with_reducible refine hold_ld 30 _ rfl ?_)
      apply Lib.hid
      refine wpList_val (by rfl) (exec_ld30 (x := .tmp 8) (T := T) rfl rfl HXr.out) ?_
      go_wp2_with fail
      refine (act_any B T _ _ _ _ _ _ HTr.out hgood).mono ?_; rintro e u1 ⟨rfl, hT1, hg1⟩
      have hgood2 := Tl.good_act hgood 1 gone 0 false
      generalize T.act 1 gone 0 false = T2 at *
      have hBu := hT1.lt
      have hwu : w.heap.size ≤ u1.heap.size := (grown_new HG.out hg1 hB).size
      have HN1 := Lib.hid (heap_alloc_new u1 (.cells zeros 30))
      have HT1 := Lib.hid (hT1.keptNone (World.grownBy_alloc u1 (.cells zeros 30) none))
      have HG1 := Lib.hid ((grown_new HG.out hg1 hB).trans (World.grownBy_alloc u1 (.cells zeros 30) none))
      clear hT1 hg1 HTr HXr HG hgood
      go_wp2_with (with_reducible refine hold_st 30 _ _ rfl ?_)
      apply Lib.hid
      with_reducible refine wpList_store_all rfl 30 _ _ rfl _ ?cs2102 ?hx2102 ?hy2102 _ _ HN1.out ?hf2102 _ ?hl2102 Try.size30 ?h12102 ?_
      case hy2102 => exact rfl
      case hx2102 => exact rfl
      case hf2102 => exact rfl
      case hl2102 => exact rfl
      case h12102 => simp [allOne, Value.oneCell']
      intro u2 hb2 hg2
      have HX2 := Lib.hid (show u2.heap[u1.heap.size]? = some (.cells T2.cells 30 (0, 0)) from hb2)
      have HT2 := Lib.hid (HT1.out.kept hg2 (by simp; omega))
      have HG2 := Lib.hid (grown_new HG1.out hg2 hwu)
      clear hb2 hg2 HN1 HT1 HG1
      go_wp2_with (with_reducible refine hold_ld 30 _ rfl ?_)
      apply Lib.hid
      refine wpList_val (by rfl) (exec_ld30 (x := .tmp 10) (T := T2) rfl rfl HX2.out) ?_
      go_wp2_with fail
      refine (is_any B _ _ HT2.out).mono ?_; rintro e u3 ⟨rfl, hg3⟩
      have HX3 := Lib.hid ((hg3.block _ (lt_of_block HX2.out) (by simp)).trans HX2.out)
      have HT3 := Lib.hid (HT2.out.keptNone hg3)
      have HG3 := Lib.hid (HG2.out.trans hg3)
      clear hg3 HX2 HT2 HG2
      go_wp2_with (with_reducible refine hold_ld 30 _ rfl ?_)
      apply Lib.hid
      refine wpList_val (by rfl) (exec_ld30 (x := .tmp 10) (T := T2) rfl rfl HX3.out) ?_
      go_wp2_with fail
      refine (act_any B T2 _ _ _ _ _ _ HT3.out hgood2).mono ?_; rintro e u4 ⟨rfl, hT4, hg4⟩
      generalize T2.act 0 more 9 false = T3 at *
      have hBu4 := hT4.lt
      have hwu4 : w.heap.size ≤ u4.heap.size := (grown_new HG3.out hg4 hB).size
      have HN4 := Lib.hid (heap_alloc_new u4 (.cells zeros 30))
      have HT4 := Lib.hid (hT4.keptNone (World.grownBy_alloc u4 (.cells zeros 30) none))
      have HG4 := Lib.hid ((grown_new HG3.out hg4 hB).trans (World.grownBy_alloc u4 (.cells zeros 30) none))
      clear hT4 hg4 HT3 HX3 HG3
      go_wp2_with (with_reducible refine hold_st 30 _ _ rfl ?_)
      apply Lib.hid
      with_reducible refine wpList_store_all rfl 30 _ _ rfl _ ?cs2103 ?hx2103 ?hy2103 _ _ HN4.out ?hf2103 _ ?hl2103 Try.size30 ?h12103 ?_
      case hy2103 => exact rfl
      case hx2103 => exact rfl
      case hf2103 => exact rfl
      case hl2103 => exact rfl
      case h12103 => simp [allOne, Value.oneCell']
      intro u5 hb5 hg5
      have HX5 := Lib.hid (show u5.heap[u4.heap.size]? = some (.cells T3.cells 30 (0, 0)) from hb5)
      have HT5 := Lib.hid (HT4.out.kept hg5 (by simp; omega))
      have HG5 := Lib.hid (grown_new HG4.out hg5 hwu4)
      clear hb5 hg5 HN4 HT4 HG4
      go_wp2_with (with_reducible refine hold_ld 30 _ rfl ?_)
      apply Lib.hid
      refine wpList_val (by rfl) (exec_ld30 (x := .tmp 13) (T := T3) rfl rfl HX5.out) ?_
      go_wp2_with fail
      refine (is_any B _ _ HT5.out).mono ?_; rintro e u6 ⟨rfl, hg6⟩
      have HG6 := Lib.hid (HG5.out.trans hg6)
      clear hg6 HX5 HT5 HG5
      go_wp2_with fail
      refine (works_any _).mono ?_; rintro e u7 ⟨rfl, hg7⟩
      have HG7 := Lib.hid (HG6.out.trans hg7)
      clear hg7 HG6
      go_wp2
      go_ret
      exact ⟨rfl, HG7.out⟩
end Go.Proofs.Ytcahpmlajfbidaa
