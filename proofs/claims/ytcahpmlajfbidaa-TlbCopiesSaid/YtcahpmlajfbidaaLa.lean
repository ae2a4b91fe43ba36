import Derived.Test.YtcahpmlajfbidaaUq
namespace Go.Proofs.Ytcahpmlajfbidaa
open Go.RowKit
theorem uniq_get {T : Tl} (h : T.uniq) {i q : Nat} (hq : q < i) (hi : i < 4) : (T.get (q : Int)).no2 (T.get (i : Int)) := by
  obtain ⟨hab, hac, had, hbc, hbd, hcd⟩ := h
  obtain ⟨rfl, rfl⟩ | ⟨rfl, rfl⟩ | ⟨rfl, rfl⟩ | ⟨rfl, rfl⟩ | ⟨rfl, rfl⟩ | ⟨rfl, rfl⟩ : (q = 0 ∧ i = 1) ∨ (q = 0 ∧ i = 2) ∨ (q = 0 ∧ i = 3) ∨ (q = 1 ∧ i = 2) ∨ (q = 1 ∧ i = 3) ∨ (q = 2 ∧ i = 3) := by omega
  · exact hab
  · exact hac
  · exact had
  · exact hbc
  · exact hbd
  · exact hcd
theorem exec_alloc27 {op : Oper} {ρ : Operand → Value} (ho : op.op = .alloc 27) (w : World) : (execOp ρ op).run Try.prog w = .ok (.value (.pointer (some ⟨w.heap.size, 0, none⟩))) (w.alloc (.cells zero4 27)) := by
  simp only [execOp, ho]
  go_simp
abbrev zero4L : List Value := [.bool false, .int .u32 0, .int .u32 0, .bool false]
theorem exec_slot {op : Oper} {ρ : Operand → Value} {W : World} {x : Operand} {g : Nat} {T : Tl} (ho : op.op = .load 27 x) {i : Nat} (hx : ρ x = .pointer (some ⟨g, i * 4, none⟩)) (hb : W.heap[g]? = some (.cells T.cells 62 (0, 0))) (hi : i < 4) :
    (execOp ρ op).run Try.prog W = .ok (.value (T.get (i : Int)).val) W := by
  obtain rfl | rfl | rfl | rfl : i = 0 ∨ i = 1 ∨ i = 2 ∨ i = 3 := by omega
  · exact exec_ld 27 ho g 0 hx _ 62 (0, 0) hb _ 4 rfl Try.underlying27 rfl Try.size27
  · exact exec_ld 27 ho g 4 hx _ 62 (0, 0) hb _ 4 rfl Try.underlying27 rfl Try.size27
  · exact exec_ld 27 ho g 8 hx _ 62 (0, 0) hb _ 4 rfl Try.underlying27 rfl Try.size27
  · exact exec_ld 27 ho g 12 hx _ 62 (0, 0) hb _ 4 rfl Try.underlying27 rfl Try.size27
set_option linter.unusedVariables false
set_option maxRecDepth 100000 in
set_option maxHeartbeats 16000000 in
theorem tlbLasts_walk (a a3 : Option Addr) (n cap n3 cap3 : Nat) (l : Nat → Ac) (l3 : Nat → Int) (page frame : Int) (w : World) (hs : SrcX w a n l) (hm : n ≤ 9223372036854775807) (hs3 : SrcP w a3 n3 l3) (hm3 : n3 ≤ 9223372036854775807) :
    Calls Try.prog 7 #[.slice a n cap, .int .u32 page, .int .u32 frame, .slice a3 n3 cap3] w fun e w' => e = .returned (.bool true) ∧ w.grownBy w' none := by
  by_cases h3 : (60 : Int) < n
  · go_enter Try.func7, Try.ntmps7
    go_wp2_with (go_at_call 9; refine (works_any _).mono ?_; rintro e w1 ⟨rfl, hg1⟩)
    go_ret
    exact ⟨rfl, hg1⟩
  by_cases h4 : (60 : Int) < n3
  · go_enter Try.func7, Try.ntmps7
    go_wp2_with (go_at_call 9; refine (works_any _).mono ?_; rintro e w1 ⟨rfl, hg1⟩)
    go_ret
    exact ⟨rfl, hg1⟩
  go_enter Try.func7, Try.ntmps7
  go_wp2_with fail
  refine (new_any _).mono ?_; rintro e w1 ⟨B, rfl, hB, hTb, hg1⟩
  have HT1 := Lib.hid hTb
  have HG1 := Lib.hid hg1
  clear hTb hg1
  go_wp2
  go_loopw [10] (fun i wr => ∃ (k : Nat) (T : Tl), k ≤ n ∧ T.good ∧ T.uniq ∧ i = .int .i64 k ∧ Tb wr B T ∧ w.grownBy wr none) (fun i _ => n - (intOf i).toNat)
  case atStart => exact ⟨0, .no, Nat.zero_le _, .inl rfl, uniq_no, rfl, HT1.out, HG1.out⟩
  case round =>
    obtain ⟨k, T, hk, hgood, hu, rfl, hTr, hgr⟩ := hrel
    have HTr := Lib.hid hTr
    have HG := Lib.hid hgr
    clear hTr hgr HT1 HG1
    by_cases hlt : k < n
    · obtain ⟨b, o, rfl, hcs⟩ := hs.resolve_left (by omega)
      have hb0 : b < w.heap.size := World.block_lt_of_cell? w _ (hcs k hlt 0 _ rfl)
      have hbw : b < wr.heap.size := by have := HG.out.size; omega
      have HS := Lib.hid (fun j (hj : j < n) => rangeAt_of (hcs j hj) (HG.out.block b hb0 (by simp)))
      have c0 : wr.cell? ⟨b, o + k * 5, none⟩ = some (.int .i64 (l k).what) := HS.out k hlt 0 (.int .i64 (l k).what) rfl
      clear hcs hs
      by_cases hw0 : (l k).what = 0
      · rw [hw0] at c0
        go_wp2
        refine reg_open (some B) (n := 18) rfl (by kernel_rfl) ?_
        refine reg_take 0 (some 46) (v := ?_) rfl rfl (by kernel_rfl) (by kernel_rfl) (by kernel_rfl) (fun _ _ _ h => h) (by rfl) ?_ ?_
        rotate_left
        · intro W hW; go_simp; first | done | with_reducible rfl
        try simp only [Act.put, List.setIfInBounds_toArray, List.set_cons_zero, List.set_cons_succ]
        refine reg_take 1 (some 47) (v := ?_) rfl rfl (by kernel_rfl) (by kernel_rfl) (by kernel_rfl) (fun _ _ _ h => h) (by rfl) ?_ ?_
        rotate_left
        · intro W hW; go_simp; first | done | with_reducible rfl
        try simp only [Act.put, List.setIfInBounds_toArray, List.set_cons_zero, List.set_cons_succ]
        refine reg_take 2 (some 48) (v := ?_) rfl rfl (by kernel_rfl) (by kernel_rfl) (by kernel_rfl) (fun _ _ _ h => h) (by rfl) ?_ ?_
        rotate_left
        · intro W hW; go_simp; first | done | with_reducible rfl
        try simp only [Act.put, List.setIfInBounds_toArray, List.set_cons_zero, List.set_cons_succ]
        refine reg_take 3 (some 49) (v := ?_) rfl rfl (by kernel_rfl) (by kernel_rfl) (by kernel_rfl) (fun _ _ _ h => h) (by rfl) ?_ ?_
        rotate_left
        · intro W hW; go_simp; first | done | with_reducible rfl
        try simp only [Act.put, List.setIfInBounds_toArray, List.set_cons_zero, List.set_cons_succ]
        refine reg_take 4 (some 50) (v := ?_) rfl rfl (by kernel_rfl) (by kernel_rfl) (by kernel_rfl) (fun _ _ _ h => h) (by rfl) ?_ ?_
        rotate_left
        · intro W hW; go_simp; first | done | with_reducible rfl
        try simp only [Act.put, List.setIfInBounds_toArray, List.set_cons_zero, List.set_cons_succ]
        refine reg_take 5 (some 51) (v := ?_) rfl rfl (by kernel_rfl) (by kernel_rfl) (by kernel_rfl) (fun _ _ _ h => h) (by rfl) ?_ ?_
        rotate_left
        · intro W hW; have c := (rangeAt_of (HS.out k hlt) (hW.block b hbw (by simp; omega))) 1 (.int .u32 (l k).page) rfl; go_simp; first | done | with_reducible rfl
        try simp only [Act.put, List.setIfInBounds_toArray, List.set_cons_zero, List.set_cons_succ]
        refine reg_take 6 (some 52) (v := ?_) rfl rfl (by kernel_rfl) (by kernel_rfl) (by kernel_rfl) (fun _ _ _ h => h) (by rfl) ?_ ?_
        rotate_left
        · intro W hW; go_simp; first | done | with_reducible rfl
        try simp only [Act.put, List.setIfInBounds_toArray, List.set_cons_zero, List.set_cons_succ]
        refine reg_take 7 (some 53) (v := ?_) rfl rfl (by kernel_rfl) (by kernel_rfl) (by kernel_rfl) (fun _ _ _ h => h) (by rfl) ?_ ?_
        rotate_left
        · intro W hW; go_simp; first | done | with_reducible rfl
        try simp only [Act.put, List.setIfInBounds_toArray, List.set_cons_zero, List.set_cons_succ]
        refine reg_take 8 (some 54) (v := ?_) rfl rfl (by kernel_rfl) (by kernel_rfl) (by kernel_rfl) (fun _ _ _ h => h) (by rfl) ?_ ?_
        rotate_left
        · intro W hW; go_simp; first | done | with_reducible rfl
        try simp only [Act.put, List.setIfInBounds_toArray, List.set_cons_zero, List.set_cons_succ]
        refine reg_take 9 (some 55) (v := ?_) rfl rfl (by kernel_rfl) (by kernel_rfl) (by kernel_rfl) (fun _ _ _ h => h) (by rfl) ?_ ?_
        rotate_left
        · intro W hW; go_simp; first | done | with_reducible rfl
        try simp only [Act.put, List.setIfInBounds_toArray, List.set_cons_zero, List.set_cons_succ]
        refine reg_take 10 (some 56) (v := ?_) rfl rfl (by kernel_rfl) (by kernel_rfl) (by kernel_rfl) (fun _ _ _ h => h) (by rfl) ?_ ?_
        rotate_left
        · intro W hW; have c := (rangeAt_of (HS.out k hlt) (hW.block b hbw (by simp; omega))) 2 (.int .u32 (l k).frame) rfl; go_simp; first | done | with_reducible rfl
        try simp only [Act.put, List.setIfInBounds_toArray, List.set_cons_zero, List.set_cons_succ]
        refine reg_take 11 (some 57) (v := ?_) rfl rfl (by kernel_rfl) (by kernel_rfl) (by kernel_rfl) (fun _ _ _ h => h) (by rfl) ?_ ?_
        rotate_left
        · intro W hW; go_simp; first | done | with_reducible rfl
        try simp only [Act.put, List.setIfInBounds_toArray, List.set_cons_zero, List.set_cons_succ]
        refine reg_take 12 (some 58) (v := ?_) rfl rfl (by kernel_rfl) (by kernel_rfl) (by kernel_rfl) (fun _ _ _ h => h) (by rfl) ?_ ?_
        rotate_left
        · intro W hW; go_simp; first | done | with_reducible rfl
        try simp only [Act.put, List.setIfInBounds_toArray, List.set_cons_zero, List.set_cons_succ]
        refine reg_take 13 (some 59) (v := ?_) rfl rfl (by kernel_rfl) (by kernel_rfl) (by kernel_rfl) (fun _ _ _ h => h) (by rfl) ?_ ?_
        rotate_left
        · intro W hW; go_simp; first | done | with_reducible rfl
        try simp only [Act.put, List.setIfInBounds_toArray, List.set_cons_zero, List.set_cons_succ]
        refine reg_take 14 (some 60) (v := ?_) rfl rfl (by kernel_rfl) (by kernel_rfl) (by kernel_rfl) (fun _ _ _ h => h) (by rfl) ?_ ?_
        rotate_left
        · intro W hW; go_simp; first | done | with_reducible rfl
        try simp only [Act.put, List.setIfInBounds_toArray, List.set_cons_zero, List.set_cons_succ]
        refine reg_take 15 (some 61) (v := ?_) rfl rfl (by kernel_rfl) (by kernel_rfl) (by kernel_rfl) (fun _ _ _ h => h) (by rfl) ?_ ?_
        rotate_left
        · intro W hW; have c := (rangeAt_of (HS.out k hlt) (hW.block b hbw (by simp; omega))) 3 (.bool (l k).wr) rfl; go_simp; first | done | with_reducible rfl
        try simp only [Act.put, List.setIfInBounds_toArray, List.set_cons_zero, List.set_cons_succ]
        refine reg_take 16 (some 62) (v := ?_) rfl rfl (by kernel_rfl) (by kernel_rfl) (by kernel_rfl) (fun _ _ _ h => h) (by rfl) ?_ ?_
        rotate_left
        · intro W hW; go_simp; first | done | with_reducible rfl
        try simp only [Act.put, List.setIfInBounds_toArray, List.set_cons_zero, List.set_cons_succ]
        refine wpAnyH_ready (rs := [17]) (by kernel_rfl) (by simp) ?_
        refine (AllReadyH.cons (o := { dst := some 63, op := Op.call { callee := Callee.value (Operand.func 17), args := #[Operand.tmp 46, Operand.tmp 62], argTypes := #[24, 27] }, type := 3, pos := "law.go:161", after := #[{ on := 0, ground := Ground.data }, { on := 16, ground := Ground.data }], guard := none }) rfl (fun K hK => ?_) AllReadyH.nil)
        go_simp
        refine (fill_tb B T false _ _ _ _ HTr.out.drew hgood).mono ?_; rintro e u1 ⟨rfl, hT1, h1'⟩
        refine reg_next hK h1' ?_
        clear hK K
        try simp only [Act.put, List.setIfInBounds_toArray, List.set_cons_zero, List.set_cons_succ]
        refine wpAnyH_done (by kernel_rfl) ?_ _
        have HT1 := Lib.hid hT1
        have HG1 := Lib.hid (grown_new (drewr HG.out) h1' hB)
        clear hT1 h1' HTr HG HS c0
        go_wp2
        go_roundw
        case rel => exact ⟨k + 1, _, by omega, Tl.good_fill hgood _ _ _, uniq_fill hu hgood _ _ _, by simp, HT1.out, HG1.out⟩
        case measure => simp [intOf]; omega
      by_cases hw1 : (l k).what = 1
      · rw [hw1] at c0
        have c1 : wr.cell? ⟨b, o + k * 5 + 1, none⟩ = some (.int .u32 (l k).page) := HS.out k hlt 1 (.int .u32 (l k).page) rfl
        go_wp2_with fail
        refine (drop_tb B T _ _ HTr.out).mono ?_; rintro e u1 ⟨rfl, hT1, h1'⟩
        have HT1 := Lib.hid hT1
        have HG1 := Lib.hid (grown_new HG.out h1' hB)
        clear hT1 h1' HTr HG HS c0 c1
        go_wp2
        go_roundw
        case rel => exact ⟨k + 1, _, by omega, Tl.good_drop hgood _, uniq_drop hu _, by simp, HT1.out, HG1.out⟩
        case measure => simp [intOf]; omega
      · generalize (l k).what = wh at *
        go_wp2_with fail
        refine (flush_tb B T _ HTr.out).mono ?_; rintro e u1 ⟨rfl, hT1, h1'⟩
        have HT1 := Lib.hid hT1
        have HG1 := Lib.hid (grown_new HG.out h1' hB)
        clear hT1 h1' HTr HG HS c0
        go_wp2
        go_roundw
        case rel => exact ⟨k + 1, _, by omega, .inl rfl, uniq_no, by simp, HT1.out, HG1.out⟩
        case measure => simp [intOf]; omega
    · obtain rfl : k = n := by omega
      go_wp2_with fail
      refine (drop_tb B T _ _ HTr.out).mono ?_; rintro e u1 ⟨rfl, hT1, h1'⟩
      have HT1 := Lib.hid hT1
      have HG1 := Lib.hid (grown_new HG.out h1' hB)
      have hgood1 := Tl.good_drop hgood page
      have hu1 := uniq_drop hu page
      have hl1 := last_new hu hgood page frame
      clear hT1 h1' HTr HG
      generalize T.drop page = T1 at *
      go_wp2_with fail
      refine (fill_tb B T1 false _ _ _ _ HT1.out hgood1).mono ?_; rintro e u2 ⟨rfl, hT2, h2'⟩
      have HT2 := Lib.hid hT2
      have HG2 := Lib.hid (grown_new HG1.out h2' hB)
      have hgood2 := Tl.good_fill hgood1 page frame true
      have hu2 := uniq_fill hu1 hgood1 page frame true
      clear hT2 h2' HT1 HG1 hgood hu hgood1 hu1
      generalize T1.fill page frame true = T2 at *
      go_wp2
      go_loopw [11] (fun i wr => ∃ (k : Nat) (T : Tl) (c : Nat), k ≤ n3 ∧ k ≤ 3 ∧ c ≤ k ∧ T.good ∧ T.uniq ∧ T.Last page frame c ∧ i = .int .i64 k ∧ Tb wr B T ∧ w.grownBy wr none) (fun i _ => n3 - (intOf i).toNat)
      case atStart => exact ⟨0, T2, 0, Nat.zero_le _, Nat.zero_le _, Nat.le_refl _, hgood2, hu2, hl1, rfl, HT2.out, HG2.out⟩
      case round =>
        clear HT2 HG2 hl1 hu2 hgood2
        obtain ⟨k, T, c, hk, hk3, hc, hgood, hu, hla, rfl, hTr, hgr⟩ := hrel
        have HTr := Lib.hid hTr
        have HG := Lib.hid hgr
        clear hTr hgr
        by_cases hlt : k < n3
        · by_cases hlt3 : k < 3
          · obtain ⟨b, o, rfl, hcs⟩ := hs3.resolve_left (by omega)
            have hb0 : b < w.heap.size := World.block_lt_of_cell? w _ (hcs k hlt)
            have c0 : wr.cell? ⟨b, o + k, none⟩ = some (.int .u32 (l3 k)) := (World.cell?_of_block (HG.out.block b hb0 (by simp))).trans (hcs k hlt)
            clear hcs hs3
            by_cases hp : l3 k = page
            · rw [hp] at c0
              go_wp2
              go_roundw
              case rel => exact ⟨k + 1, T, c, by omega, by omega, by omega, hgood, hu, hla, by simp, HTr.out, HG.out⟩
              case measure => simp [intOf]; omega
            · obtain ⟨c', hc', hla'⟩ := last_fill (f := 1) (w := false) hla (by omega) hp
              go_wp2_with fail
              refine (fill_tb B T false _ _ _ _ HTr.out hgood).mono ?_; rintro e u1 ⟨rfl, hT1, h1'⟩
              have HT1 := Lib.hid hT1
              have HG1 := Lib.hid (grown_new HG.out h1' hB)
              clear hT1 h1' HTr HG c0
              go_wp2
              go_roundw
              case rel => exact ⟨k + 1, _, c', by omega, by omega, by omega, Tl.good_fill hgood _ _ _, uniq_fill hu hgood _ _ _, hla', by simp, HT1.out, HG1.out⟩
              case measure => simp [intOf]; omega
          · obtain rfl : k = 3 := by omega
            have C := look_any (some ⟨B, 0, none⟩) T page wr (.inr ⟨B, rfl, HTr.out⟩)
            rw [(last_look hla).1, (last_look hla).2] at C
            go_wp2_with fail
            refine C.mono ?_; rintro e u1 ⟨rfl, hg1⟩
            have HN := Lib.hid (heap_alloc_new u1 (.cells zero4 27))
            have HT1 := Lib.hid ((HTr.out.keptNone hg1).keptNone (World.grownBy_alloc u1 (.cells zero4 27) none))
            have HG1 := Lib.hid ((HG.out.trans hg1).trans (World.grownBy_alloc u1 (.cells zero4 27) none))
            have hBu := (HTr.out.keptNone hg1).lt
            have hwu := (HG.out.trans hg1).size
            clear C hg1 HTr HG hla
            go_wp2_with (with_reducible refine hold_st 27 _ _ rfl ?_)
            apply Lib.hid
            with_reducible refine wpList_store_all rfl 27 _ _ rfl _ ?cs2201 ?hx2201 ?hy2201 _ _ HN.out ?hf2201 _ ?hl2201 Try.size27 ?h12201 ?_
            case hy2201 => exact rfl
            case hx2201 => exact rfl
            case hf2201 => exact rfl
            case hl2201 => exact rfl
            case h12201 => simp [allOne, Value.oneCell']
            intro u2 hb2 hg2
            have HT2 := Lib.hid (HT1.out.kept hg2 (by simp; omega))
            have HG2 := Lib.hid (grown_new HG1.out hg2 hwu)
            obtain ⟨c0, c1, c2, c3⟩ := cells4 hb2
            clear hb2 hg2 HT1 HG1 HN
            go_wp2
            clear c0 c1 c2 c3
            go_loopw [15] (fun i wr => ∃ (k : Nat) (T : Tl), 3 ≤ k ∧ T.good ∧ T.uniq ∧ i = .int .i64 k ∧ Tb wr B T ∧ w.grownBy wr none) (fun i _ => n3 - (intOf i).toNat)
            case atStart => exact ⟨3, T, Nat.le_refl _, hgood, hu, rfl, HT2.out, HG2.out⟩
            case round =>
              clear hgood hu HT2 HG2
              obtain ⟨k, T, hk, hgood, hu, rfl, hTr, hgr⟩ := hrel
              have HTr := Lib.hid hTr
              have HG := Lib.hid hgr
              clear hTr hgr
              by_cases hlt : k < n3
              · obtain ⟨b, o, rfl, hcs⟩ := hs3.resolve_left (by omega)
                have hb0 : b < w.heap.size := World.block_lt_of_cell? w _ (hcs k hlt)
                have c0 : wr.cell? ⟨b, o + k, none⟩ = some (.int .u32 (l3 k)) := (World.cell?_of_block (HG.out.block b hb0 (by simp))).trans (hcs k hlt)
                clear hcs hs3
                go_wp2_with fail
                refine (fill_tb B T false _ _ _ _ HTr.out hgood).mono ?_; rintro e u1 ⟨rfl, hT1, h1'⟩
                have HT1 := Lib.hid hT1
                have HG1 := Lib.hid (grown_new HG.out h1' hB)
                clear hT1 h1' HTr HG c0
                go_wp2
                go_roundw
                case rel => exact ⟨k + 1, _, by omega, Tl.good_fill hgood _ _ _, uniq_fill hu hgood _ _ _, by simp, HT1.out, HG1.out⟩
                case measure => simp [intOf]; omega
              · go_wp2_with fail
                refine (all_tb B T _ HTr.out).mono ?_; rintro e u1 ⟨g, rfl, hgb, hg1⟩
                have HL := Lib.hid hgb
                have HG1 := Lib.hid (HG.out.trans hg1)
                clear hgb hg1 HTr HG hgood
                go_wp2
                go_loopw [17] (fun i wr => ∃ i' : Nat, i' ≤ 4 ∧ i = .int .i64 i' ∧ wr.heap[g]? = some (.cells T.cells 62 (0, 0)) ∧ w.grownBy wr none) (fun i _ => 4 - (intOf i).toNat)
                case atStart => exact ⟨0, Nat.zero_le _, rfl, HL.out, HG1.out⟩
                case round =>
                  clear HL HG1
                  obtain ⟨i, hi4, rfl, hL1, hG1⟩ := hrel
                  have HL1 := Lib.hid hL1
                  have HG1 := Lib.hid hG1
                  clear hL1 hG1
                  by_cases hi : i < 4
                  · go_wp2
                    go_loopw [18] (fun x wr => ∃ q : Nat, q ≤ i ∧ x = .int .i64 q ∧ wr.heap[g]? = some (.cells T.cells 62 (0, 0)) ∧ w.grownBy wr none) (fun x _ => i - (intOf x).toNat)
                    case atStart => exact ⟨0, Nat.zero_le _, rfl, HL1.out, HG1.out⟩
                    case round =>
                      clear HL1 HG1
                      obtain ⟨q, hq, rfl, hL2, hG2⟩ := hrel
                      have HL2 := Lib.hid hL2
                      have HG2 := Lib.hid hG2
                      have hgl : g < wr.heap.size := lt_of_block hL2
                      clear hL2 hG2
                      by_cases hqi : q < i
                      · have hq4 : q < 4 := by omega
                        go_wp2
                        refine regx_open (fun k => wr.heap.size ≤ k) (n := 12) rfl (by kernel_rfl) ?_
                        refine regx_take 0 (some 146) (v := ?_) rfl rfl (by kernel_rfl) (by kernel_rfl) (by kernel_rfl) (fun _ _ _ h => h) (by rfl) ?_ ?_
                        rotate_left
                        · intro W hW; go_simp; first | done | with_reducible rfl
                        try simp only [Act.put, List.setIfInBounds_toArray, List.set_cons_zero, List.set_cons_succ]
                        refine regx_take 1 (some 147) (v := ?_) rfl rfl (by kernel_rfl) (by kernel_rfl) (by kernel_rfl) (fun _ _ _ h => h) (by rfl) ?_ ?_
                        rotate_left
                        · intro W hW; go_simp; first | done | with_reducible rfl
                        try simp only [Act.put, List.setIfInBounds_toArray, List.set_cons_zero, List.set_cons_succ]
                        refine regx_take 2 (some 148) (v := ?_) rfl rfl (by kernel_rfl) (by kernel_rfl) (by kernel_rfl) (fun _ _ _ h => h) (by rfl) ?_ ?_
                        rotate_left
                        · intro W hW; go_simp; first | done | with_reducible rfl
                        try simp only [Act.put, List.setIfInBounds_toArray, List.set_cons_zero, List.set_cons_succ]
                        refine regx_take 3 (some 149) (v := ?_) rfl rfl (by kernel_rfl) (by kernel_rfl) (by kernel_rfl) (fun _ _ _ h => h) (by rfl) ?_ ?_
                        rotate_left
                        · intro W hW; refine exec_slot (x := .tmp 148) (g := g) (i := i) ?_ ?_ ((hW.block _ (lt_of_block HL2.out) (by show ¬ (wr.heap.size ≤ _); omega)).trans HL2.out) hi <;> rfl
                        try simp only [Act.put, List.setIfInBounds_toArray, List.set_cons_zero, List.set_cons_succ]
                        refine regx_take 4 (some 150) (v := ?_) rfl rfl (by kernel_rfl) (by kernel_rfl) (by kernel_rfl) (fun _ _ _ h => h) (by rfl) ?_ ?_
                        rotate_left
                        · intro W hW; go_simp; first | done | with_reducible rfl
                        try simp only [Act.put, List.setIfInBounds_toArray, List.set_cons_zero, List.set_cons_succ]
                        refine regx_take 5 (some 151) (v := ?_) rfl rfl (by kernel_rfl) (by kernel_rfl) (by kernel_rfl) (fun _ _ _ h => h) (by rfl) ?_ ?_
                        rotate_left
                        · intro W hW; go_simp; first | done | with_reducible rfl
                        try simp only [Act.put, List.setIfInBounds_toArray, List.set_cons_zero, List.set_cons_succ]
                        refine regx_take 6 (some 152) (v := ?_) rfl rfl (by kernel_rfl) (by kernel_rfl) (by kernel_rfl) (fun _ _ _ h => h) (by rfl) ?_ ?_
                        rotate_left
                        · intro W hW; have hz : (q : Int) < 4 := (by omega); go_simp; first | done | with_reducible rfl
                        try simp only [Act.put, List.setIfInBounds_toArray, List.set_cons_zero, List.set_cons_succ]
                        refine regx_take 7 (some 153) (v := ?_) rfl rfl (by kernel_rfl) (by kernel_rfl) (by kernel_rfl) (fun _ _ _ h => h) (by rfl) ?_ ?_
                        rotate_left
                        · intro W hW; refine exec_slot (x := .tmp 152) (g := g) (i := q) ?_ ?_ ((hW.block _ (lt_of_block HL2.out) (by show ¬ (wr.heap.size ≤ _); omega)).trans HL2.out) hq4 <;> rfl
                        try simp only [Act.put, List.setIfInBounds_toArray, List.set_cons_zero, List.set_cons_succ]
                        refine wpAnyH_ready (rs := [8, 9]) (by kernel_rfl) (by simp) ?_
                        refine (AllReadyH.cons (o := { dst := some 19, op := Op.alloc 27, type := 0, pos := "law.go:185", after := #[], guard := none }) rfl (fun K hK => ?_) (AllReadyH.cons (o := { dst := some 20, op := Op.alloc 27, type := 0, pos := "law.go:185", after := #[], guard := none }) rfl (fun K hK => ?_) AllReadyH.nil))
                        · refine wp_of_run (exec_alloc27 rfl _) ?_
                          have hA : Keeps (fun k => wr.heap.size ≤ k) wr.drew (wr.drew.alloc (.cells zero4 27)) := Keeps.of (World.grownBy_alloc _ _ none) (fun r e => by cases e)
                          refine regx_next hK hA ?_
                          clear hK K
                          try simp only [Act.put, List.setIfInBounds_toArray, List.set_cons_zero, List.set_cons_succ]
                          refine wpAnyH_ready (rs := [9]) (by kernel_rfl) (by simp) ?_
                          refine (AllReadyH.cons (o := { dst := some 20, op := Op.alloc 27, type := 0, pos := "law.go:185", after := #[], guard := none }) rfl (fun K hK => ?_) AllReadyH.nil)
                          refine wp_of_run (exec_alloc27 rfl _) ?_
                          have hA2 : Keeps (fun k => wr.heap.size ≤ k) (wr.drew.alloc (.cells zero4 27)) ((wr.drew.alloc (.cells zero4 27)).alloc (.cells zero4 27)) := Keeps.of (World.grownBy_alloc _ _ none) (fun r e => by cases e)
                          refine regx_next hK hA2 ?_
                          clear hK K
                          try simp only [Act.put, List.setIfInBounds_toArray, List.set_cons_zero, List.set_cons_succ]
                          refine wpAnyH_ready (rs := [10]) (by kernel_rfl) (by simp) ?_
                          refine (AllReadyH.cons (o := { dst := none, op := Op.store 27 (Operand.tmp 19) (Operand.tmp 149), type := 0, pos := "law.go:185", after := #[{ on := 8, ground := Ground.data }, { on := 3, ground := Ground.data }, { on := 0, ground := Ground.phase }, { on := 1, ground := Ground.phase }, { on := 2, ground := Ground.phase }, { on := 3, ground := Ground.phase }, { on := 4, ground := Ground.textOnly Departure.lateStores }, { on := 5, ground := Ground.textOnly Departure.lateStores }, { on := 6, ground := Ground.textOnly Departure.lateStores }, { on := 7, ground := Ground.textOnly Departure.lateStores }, { on := 8, ground := Ground.phase }, { on := 9, ground := Ground.phase }], guard := none }) rfl (fun K hK => ?_) AllReadyH.nil)
                          refine wp_store_all 27 _ _ rfl ?bu13 ?csu13 ?hxu13 ?hyu13 zero4L 27 ?hzu13 ?hfu13 4 ?hnu13 Try.size27 ?h1u13 ?_
                          case hyu13 => exact rfl
                          case hxu13 => exact rfl
                          case hzu13 => first | exact (two_new wr.drew (.cells zero4 27) (.cells zero4 27)).2.1 | exact heap_alloc_new (wr.drew.alloc (.cells zero4 27)) (.cells zero4 27)
                          case hfu13 => exact rfl
                          case hnu13 => exact rfl
                          case h1u13 => simp [allOne, Value.oneCell']
                          intro y1 hb1 hy1
                          have hk1 : Keeps (fun k => wr.heap.size ≤ k) _ y1 := Keeps.of hy1 (fun r e => by cases e; exact (by first | exact Nat.le_refl _ | exact Nat.le_succ _ | (simp; done)))
                          refine regx_next hK hk1 ?_
                          clear hK K
                          try simp only [Act.put]
                          refine wpAnyH_ready (rs := [11]) (by kernel_rfl) (by simp) ?_
                          refine (AllReadyH.cons (o := { dst := none, op := Op.store 27 (Operand.tmp 20) (Operand.tmp 153), type := 0, pos := "law.go:185", after := #[{ on := 9, ground := Ground.data }, { on := 7, ground := Ground.data }, { on := 10, ground := Ground.chain }, { on := 0, ground := Ground.phase }, { on := 1, ground := Ground.phase }, { on := 2, ground := Ground.phase }, { on := 3, ground := Ground.phase }, { on := 4, ground := Ground.phase }, { on := 5, ground := Ground.phase }, { on := 6, ground := Ground.phase }, { on := 7, ground := Ground.phase }, { on := 8, ground := Ground.phase }, { on := 9, ground := Ground.phase }, { on := 10, ground := Ground.phase }], guard := none }) rfl (fun K hK => ?_) AllReadyH.nil)
                          refine wp_store_all 27 _ _ rfl ?bu14 ?csu14 ?hxu14 ?hyu14 zero4L 27 ?hzu14 ?hfu14 4 ?hnu14 Try.size27 ?h1u14 ?_
                          case hyu14 => exact rfl
                          case hxu14 => exact rfl
                          case hzu14 => first | exact (hy1.block _ (by simp <;> omega) (by simp <;> omega)).trans (two_new wr.drew (.cells zero4 27) (.cells zero4 27)).2.1 | exact (hy1.block _ (by simp <;> omega) (by simp <;> omega)).trans (heap_alloc_new (wr.drew.alloc (.cells zero4 27)) (.cells zero4 27))
                          case hfu14 => exact rfl
                          case hnu14 => exact rfl
                          case h1u14 => simp [allOne, Value.oneCell']
                          intro y2 hb2 hy2
                          have hk2 : Keeps (fun k => wr.heap.size ≤ k) _ y2 := Keeps.of hy2 (fun r e => by cases e; exact (by first | exact Nat.le_refl _ | exact Nat.le_succ _ | (simp; done)))
                          refine regx_next hK hk2 ?_
                          clear hK K
                          try simp only [Act.put]
                          refine wpAnyH_done (by kernel_rfl) ?_ _
                          have HG4 := Lib.hid (grown_keeps (drewr HG2.out) ((hA.trans (hA2.trans (hk1.trans hk2)))) (fun x hx => Nat.le_trans HG2.out.size hx))
                          have HL4 := Lib.hid ((((hA.trans (hA2.trans (hk1.trans hk2)))).block _ (lt_of_block HL2.out) (by show ¬ (wr.heap.size ≤ _); omega)).trans HL2.out)
                          obtain ⟨a0, a1, _, _⟩ := cells4 ((hy2.block _ (lt_of_block hb1) (by simp <;> omega)).trans hb1)
                          obtain ⟨b0, b1, _, _⟩ := cells4 hb2
                          have hno := uniq_get hu hqi hi
                          clear hk1 hk2 hy1 hy2 hA hA2 hb1 hb2
                          generalize T.get (q : Int) = ek at *
                          generalize T.get (i : Int) = ei at *
                          try simp at a0 a1 b0 b1
                          by_cases ht1 : ei.th = true
                          · rw [ht1] at a0
                            by_cases ht2 : ek.th = true
                            · rw [ht2] at b0
                              have hne : ei.page ≠ ek.page := fun e => hno ht2 ht1 e.symm
                              clear ht1 ht2 hno
                              go_wp2
                              go_roundw
                              case rel => exact ⟨q + 1, by omega, by simp, HL4.out, HG4.out⟩
                              case measure => simp [intOf]; omega
                            · rw [Bool.not_eq_true] at ht2
                              rw [ht2] at b0
                              clear ht1 ht2 hno
                              go_wp2
                              go_roundw
                              case rel => exact ⟨q + 1, by omega, by simp, HL4.out, HG4.out⟩
                              case measure => simp [intOf]; omega
                          · rw [Bool.not_eq_true] at ht1
                            rw [ht1] at a0
                            clear ht1 hno
                            go_wp2
                            go_roundw
                            case rel => exact ⟨q + 1, by omega, by simp, HL4.out, HG4.out⟩
                            case measure => simp [intOf]; omega
                        · refine wp_of_run (exec_alloc27 rfl _) ?_
                          have hA2 : Keeps (fun k => wr.heap.size ≤ k) wr.drew (wr.drew.alloc (.cells zero4 27)) := Keeps.of (World.grownBy_alloc _ _ none) (fun r e => by cases e)
                          refine regx_next hK hA2 ?_
                          clear hK K
                          try simp only [Act.put, List.setIfInBounds_toArray, List.set_cons_zero, List.set_cons_succ]
                          refine wpAnyH_ready (rs := [8]) (by kernel_rfl) (by simp) ?_
                          refine (AllReadyH.cons (o := { dst := some 19, op := Op.alloc 27, type := 0, pos := "law.go:185", after := #[], guard := none }) rfl (fun K hK => ?_) AllReadyH.nil)
                          refine wp_of_run (exec_alloc27 rfl _) ?_
                          have hA : Keeps (fun k => wr.heap.size ≤ k) (wr.drew.alloc (.cells zero4 27)) ((wr.drew.alloc (.cells zero4 27)).alloc (.cells zero4 27)) := Keeps.of (World.grownBy_alloc _ _ none) (fun r e => by cases e)
                          refine regx_next hK hA ?_
                          clear hK K
                          try simp only [Act.put, List.setIfInBounds_toArray, List.set_cons_zero, List.set_cons_succ]
                          refine wpAnyH_ready (rs := [10]) (by kernel_rfl) (by simp) ?_
                          refine (AllReadyH.cons (o := { dst := none, op := Op.store 27 (Operand.tmp 19) (Operand.tmp 149), type := 0, pos := "law.go:185", after := #[{ on := 8, ground := Ground.data }, { on := 3, ground := Ground.data }, { on := 0, ground := Ground.phase }, { on := 1, ground := Ground.phase }, { on := 2, ground := Ground.phase }, { on := 3, ground := Ground.phase }, { on := 4, ground := Ground.textOnly Departure.lateStores }, { on := 5, ground := Ground.textOnly Departure.lateStores }, { on := 6, ground := Ground.textOnly Departure.lateStores }, { on := 7, ground := Ground.textOnly Departure.lateStores }, { on := 8, ground := Ground.phase }, { on := 9, ground := Ground.phase }], guard := none }) rfl (fun K hK => ?_) AllReadyH.nil)
                          refine wp_store_all 27 _ _ rfl ?bu20 ?csu20 ?hxu20 ?hyu20 zero4L 27 ?hzu20 ?hfu20 4 ?hnu20 Try.size27 ?h1u20 ?_
                          case hyu20 => exact rfl
                          case hxu20 => exact rfl
                          case hzu20 => first | exact (two_new wr.drew (.cells zero4 27) (.cells zero4 27)).2.1 | exact heap_alloc_new (wr.drew.alloc (.cells zero4 27)) (.cells zero4 27)
                          case hfu20 => exact rfl
                          case hnu20 => exact rfl
                          case h1u20 => simp [allOne, Value.oneCell']
                          intro y1 hb1 hy1
                          have hk1 : Keeps (fun k => wr.heap.size ≤ k) _ y1 := Keeps.of hy1 (fun r e => by cases e; exact (by first | exact Nat.le_refl _ | exact Nat.le_succ _ | (simp; done)))
                          refine regx_next hK hk1 ?_
                          clear hK K
                          try simp only [Act.put]
                          refine wpAnyH_ready (rs := [11]) (by kernel_rfl) (by simp) ?_
                          refine (AllReadyH.cons (o := { dst := none, op := Op.store 27 (Operand.tmp 20) (Operand.tmp 153), type := 0, pos := "law.go:185", after := #[{ on := 9, ground := Ground.data }, { on := 7, ground := Ground.data }, { on := 10, ground := Ground.chain }, { on := 0, ground := Ground.phase }, { on := 1, ground := Ground.phase }, { on := 2, ground := Ground.phase }, { on := 3, ground := Ground.phase }, { on := 4, ground := Ground.phase }, { on := 5, ground := Ground.phase }, { on := 6, ground := Ground.phase }, { on := 7, ground := Ground.phase }, { on := 8, ground := Ground.phase }, { on := 9, ground := Ground.phase }, { on := 10, ground := Ground.phase }], guard := none }) rfl (fun K hK => ?_) AllReadyH.nil)
                          refine wp_store_all 27 _ _ rfl ?bu21 ?csu21 ?hxu21 ?hyu21 zero4L 27 ?hzu21 ?hfu21 4 ?hnu21 Try.size27 ?h1u21 ?_
                          case hyu21 => exact rfl
                          case hxu21 => exact rfl
                          case hzu21 => first | exact (hy1.block _ (by simp <;> omega) (by simp <;> omega)).trans (two_new wr.drew (.cells zero4 27) (.cells zero4 27)).2.1 | exact (hy1.block _ (by simp <;> omega) (by simp <;> omega)).trans (heap_alloc_new (wr.drew.alloc (.cells zero4 27)) (.cells zero4 27))
                          case hfu21 => exact rfl
                          case hnu21 => exact rfl
                          case h1u21 => simp [allOne, Value.oneCell']
                          intro y2 hb2 hy2
                          have hk2 : Keeps (fun k => wr.heap.size ≤ k) _ y2 := Keeps.of hy2 (fun r e => by cases e; exact (by first | exact Nat.le_refl _ | exact Nat.le_succ _ | (simp; done)))
                          refine regx_next hK hk2 ?_
                          clear hK K
                          try simp only [Act.put]
                          refine wpAnyH_done (by kernel_rfl) ?_ _
                          have HG4 := Lib.hid (grown_keeps (drewr HG2.out) ((hA2.trans (hA.trans (hk1.trans hk2)))) (fun x hx => Nat.le_trans HG2.out.size hx))
                          have HL4 := Lib.hid ((((hA2.trans (hA.trans (hk1.trans hk2)))).block _ (lt_of_block HL2.out) (by show ¬ (wr.heap.size ≤ _); omega)).trans HL2.out)
                          obtain ⟨a0, a1, _, _⟩ := cells4 ((hy2.block _ (lt_of_block hb1) (by simp <;> omega)).trans hb1)
                          obtain ⟨b0, b1, _, _⟩ := cells4 hb2
                          have hno := uniq_get hu hqi hi
                          clear hk1 hk2 hy1 hy2 hA hA2 hb1 hb2
                          generalize T.get (q : Int) = ek at *
                          generalize T.get (i : Int) = ei at *
                          try simp at a0 a1 b0 b1
                          by_cases ht1 : ei.th = true
                          · rw [ht1] at a0
                            by_cases ht2 : ek.th = true
                            · rw [ht2] at b0
                              have hne : ei.page ≠ ek.page := fun e => hno ht2 ht1 e.symm
                              clear ht1 ht2 hno
                              go_wp2
                              go_roundw
                              case rel => exact ⟨q + 1, by omega, by simp, HL4.out, HG4.out⟩
                              case measure => simp [intOf]; omega
                            · rw [Bool.not_eq_true] at ht2
                              rw [ht2] at b0
                              clear ht1 ht2 hno
                              go_wp2
                              go_roundw
                              case rel => exact ⟨q + 1, by omega, by simp, HL4.out, HG4.out⟩
                              case measure => simp [intOf]; omega
                          · rw [Bool.not_eq_true] at ht1
                            rw [ht1] at a0
                            clear ht1 hno
                            go_wp2
                            go_roundw
                            case rel => exact ⟨q + 1, by omega, by simp, HL4.out, HG4.out⟩
                            case measure => simp [intOf]; omega
                      · obtain rfl : q = i := by omega
                        go_wp2
                        go_roundw
                        case rel => exact ⟨q + 1, by omega, by simp, HL2.out, HG2.out⟩
                        case measure => simp [intOf]; omega
                  · obtain rfl : i = 4 := by omega
                    go_wp2_with fail
                    refine (works_any _).mono ?_; rintro e u6 ⟨rfl, hg6⟩
                    have HG6 := Lib.hid (HG1.out.trans hg6)
                    clear hg6
                    go_wp2
                    go_ret
                    exact ⟨rfl, HG6.out⟩
        · have hkn : k = n3 := by omega
          have C := look_any (some ⟨B, 0, none⟩) T page wr (.inr ⟨B, rfl, HTr.out⟩)
          rw [(last_look hla).1, (last_look hla).2] at C
          go_wp2_with fail
          refine C.mono ?_; rintro e u1 ⟨rfl, hg1⟩
          have HN := Lib.hid (heap_alloc_new u1 (.cells zero4 27))
          have HT1 := Lib.hid ((HTr.out.keptNone hg1).keptNone (World.grownBy_alloc u1 (.cells zero4 27) none))
          have HG1 := Lib.hid ((HG.out.trans hg1).trans (World.grownBy_alloc u1 (.cells zero4 27) none))
          have hBu := (HTr.out.keptNone hg1).lt
          have hwu := (HG.out.trans hg1).size
          clear C hg1 HTr HG hla
          go_wp2_with (with_reducible refine hold_st 27 _ _ rfl ?_)
          apply Lib.hid
          with_reducible refine wpList_store_all rfl 27 _ _ rfl _ ?cs2202 ?hx2202 ?hy2202 _ _ HN.out ?hf2202 _ ?hl2202 Try.size27 ?h12202 ?_
          case hy2202 => exact rfl
          case hx2202 => exact rfl
          case hf2202 => exact rfl
          case hl2202 => exact rfl
          case h12202 => simp [allOne, Value.oneCell']
          intro u2 hb2 hg2
          have HT2 := Lib.hid (HT1.out.kept hg2 (by simp; omega))
          have HG2 := Lib.hid (grown_new HG1.out hg2 hwu)
          obtain ⟨c0, c1, c2, c3⟩ := cells4 hb2
          clear hb2 hg2 HT1 HG1 HN
          go_wp2
          clear c0 c1 c2 c3
          go_loopw [15] (fun i wr => ∃ (k : Nat) (T : Tl), 3 ≤ k ∧ T.good ∧ T.uniq ∧ i = .int .i64 k ∧ Tb wr B T ∧ w.grownBy wr none) (fun i _ => n3 - (intOf i).toNat)
          case atStart => exact ⟨3, T, Nat.le_refl _, hgood, hu, rfl, HT2.out, HG2.out⟩
          case round =>
            clear hgood hu HT2 HG2
            obtain ⟨k, T, hk, hgood, hu, rfl, hTr, hgr⟩ := hrel
            have HTr := Lib.hid hTr
            have HG := Lib.hid hgr
            clear hTr hgr
            by_cases hlt : k < n3
            · exfalso
              omega
            · go_wp2_with fail
              refine (all_tb B T _ HTr.out).mono ?_; rintro e u1 ⟨g, rfl, hgb, hg1⟩
              have HL := Lib.hid hgb
              have HG1 := Lib.hid (HG.out.trans hg1)
              clear hgb hg1 HTr HG hgood
              go_wp2
              go_loopw [17] (fun i wr => ∃ i' : Nat, i' ≤ 4 ∧ i = .int .i64 i' ∧ wr.heap[g]? = some (.cells T.cells 62 (0, 0)) ∧ w.grownBy wr none) (fun i _ => 4 - (intOf i).toNat)
              case atStart => exact ⟨0, Nat.zero_le _, rfl, HL.out, HG1.out⟩
              case round =>
                clear HL HG1
                obtain ⟨i, hi4, rfl, hL1, hG1⟩ := hrel
                have HL1 := Lib.hid hL1
                have HG1 := Lib.hid hG1
                clear hL1 hG1
                by_cases hi : i < 4
                · go_wp2
                  go_loopw [18] (fun x wr => ∃ q : Nat, q ≤ i ∧ x = .int .i64 q ∧ wr.heap[g]? = some (.cells T.cells 62 (0, 0)) ∧ w.grownBy wr none) (fun x _ => i - (intOf x).toNat)
                  case atStart => exact ⟨0, Nat.zero_le _, rfl, HL1.out, HG1.out⟩
                  case round =>
                    clear HL1 HG1
                    obtain ⟨q, hq, rfl, hL2, hG2⟩ := hrel
                    have HL2 := Lib.hid hL2
                    have HG2 := Lib.hid hG2
                    have hgl : g < wr.heap.size := lt_of_block hL2
                    clear hL2 hG2
                    by_cases hqi : q < i
                    · have hq4 : q < 4 := by omega
                      go_wp2
                      refine regx_open (fun k => wr.heap.size ≤ k) (n := 12) rfl (by kernel_rfl) ?_
                      refine regx_take 0 (some 146) (v := ?_) rfl rfl (by kernel_rfl) (by kernel_rfl) (by kernel_rfl) (fun _ _ _ h => h) (by rfl) ?_ ?_
                      rotate_left
                      · intro W hW; go_simp; first | done | with_reducible rfl
                      try simp only [Act.put, List.setIfInBounds_toArray, List.set_cons_zero, List.set_cons_succ]
                      refine regx_take 1 (some 147) (v := ?_) rfl rfl (by kernel_rfl) (by kernel_rfl) (by kernel_rfl) (fun _ _ _ h => h) (by rfl) ?_ ?_
                      rotate_left
                      · intro W hW; go_simp; first | done | with_reducible rfl
                      try simp only [Act.put, List.setIfInBounds_toArray, List.set_cons_zero, List.set_cons_succ]
                      refine regx_take 2 (some 148) (v := ?_) rfl rfl (by kernel_rfl) (by kernel_rfl) (by kernel_rfl) (fun _ _ _ h => h) (by rfl) ?_ ?_
                      rotate_left
                      · intro W hW; go_simp; first | done | with_reducible rfl
                      try simp only [Act.put, List.setIfInBounds_toArray, List.set_cons_zero, List.set_cons_succ]
                      refine regx_take 3 (some 149) (v := ?_) rfl rfl (by kernel_rfl) (by kernel_rfl) (by kernel_rfl) (fun _ _ _ h => h) (by rfl) ?_ ?_
                      rotate_left
                      · intro W hW; refine exec_slot (x := .tmp 148) (g := g) (i := i) ?_ ?_ ((hW.block _ (lt_of_block HL2.out) (by show ¬ (wr.heap.size ≤ _); omega)).trans HL2.out) hi <;> rfl
                      try simp only [Act.put, List.setIfInBounds_toArray, List.set_cons_zero, List.set_cons_succ]
                      refine regx_take 4 (some 150) (v := ?_) rfl rfl (by kernel_rfl) (by kernel_rfl) (by kernel_rfl) (fun _ _ _ h => h) (by rfl) ?_ ?_
                      rotate_left
                      · intro W hW; go_simp; first | done | with_reducible rfl
                      try simp only [Act.put, List.setIfInBounds_toArray, List.set_cons_zero, List.set_cons_succ]
                      refine regx_take 5 (some 151) (v := ?_) rfl rfl (by kernel_rfl) (by kernel_rfl) (by kernel_rfl) (fun _ _ _ h => h) (by rfl) ?_ ?_
                      rotate_left
                      · intro W hW; go_simp; first | done | with_reducible rfl
                      try simp only [Act.put, List.setIfInBounds_toArray, List.set_cons_zero, List.set_cons_succ]
                      refine regx_take 6 (some 152) (v := ?_) rfl rfl (by kernel_rfl) (by kernel_rfl) (by kernel_rfl) (fun _ _ _ h => h) (by rfl) ?_ ?_
                      rotate_left
                      · intro W hW; have hz : (q : Int) < 4 := (by omega); go_simp; first | done | with_reducible rfl
                      try simp only [Act.put, List.setIfInBounds_toArray, List.set_cons_zero, List.set_cons_succ]
                      refine regx_take 7 (some 153) (v := ?_) rfl rfl (by kernel_rfl) (by kernel_rfl) (by kernel_rfl) (fun _ _ _ h => h) (by rfl) ?_ ?_
                      rotate_left
                      · intro W hW; refine exec_slot (x := .tmp 152) (g := g) (i := q) ?_ ?_ ((hW.block _ (lt_of_block HL2.out) (by show ¬ (wr.heap.size ≤ _); omega)).trans HL2.out) hq4 <;> rfl
                      try simp only [Act.put, List.setIfInBounds_toArray, List.set_cons_zero, List.set_cons_succ]
                      refine wpAnyH_ready (rs := [8, 9]) (by kernel_rfl) (by simp) ?_
                      refine (AllReadyH.cons (o := { dst := some 19, op := Op.alloc 27, type := 0, pos := "law.go:185", after := #[], guard := none }) rfl (fun K hK => ?_) (AllReadyH.cons (o := { dst := some 20, op := Op.alloc 27, type := 0, pos := "law.go:185", after := #[], guard := none }) rfl (fun K hK => ?_) AllReadyH.nil))
                      · refine wp_of_run (exec_alloc27 rfl _) ?_
                        have hA : Keeps (fun k => wr.heap.size ≤ k) wr.drew (wr.drew.alloc (.cells zero4 27)) := Keeps.of (World.grownBy_alloc _ _ none) (fun r e => by cases e)
                        refine regx_next hK hA ?_
                        clear hK K
                        try simp only [Act.put, List.setIfInBounds_toArray, List.set_cons_zero, List.set_cons_succ]
                        refine wpAnyH_ready (rs := [9]) (by kernel_rfl) (by simp) ?_
                        refine (AllReadyH.cons (o := { dst := some 20, op := Op.alloc 27, type := 0, pos := "law.go:185", after := #[], guard := none }) rfl (fun K hK => ?_) AllReadyH.nil)
                        refine wp_of_run (exec_alloc27 rfl _) ?_
                        have hA2 : Keeps (fun k => wr.heap.size ≤ k) (wr.drew.alloc (.cells zero4 27)) ((wr.drew.alloc (.cells zero4 27)).alloc (.cells zero4 27)) := Keeps.of (World.grownBy_alloc _ _ none) (fun r e => by cases e)
                        refine regx_next hK hA2 ?_
                        clear hK K
                        try simp only [Act.put, List.setIfInBounds_toArray, List.set_cons_zero, List.set_cons_succ]
                        refine wpAnyH_ready (rs := [10]) (by kernel_rfl) (by simp) ?_
                        refine (AllReadyH.cons (o := { dst := none, op := Op.store 27 (Operand.tmp 19) (Operand.tmp 149), type := 0, pos := "law.go:185", after := #[{ on := 8, ground := Ground.data }, { on := 3, ground := Ground.data }, { on := 0, ground := Ground.phase }, { on := 1, ground := Ground.phase }, { on := 2, ground := Ground.phase }, { on := 3, ground := Ground.phase }, { on := 4, ground := Ground.textOnly Departure.lateStores }, { on := 5, ground := Ground.textOnly Departure.lateStores }, { on := 6, ground := Ground.textOnly Departure.lateStores }, { on := 7, ground := Ground.textOnly Departure.lateStores }, { on := 8, ground := Ground.phase }, { on := 9, ground := Ground.phase }], guard := none }) rfl (fun K hK => ?_) AllReadyH.nil)
                        refine wp_store_all 27 _ _ rfl ?bu30 ?csu30 ?hxu30 ?hyu30 zero4L 27 ?hzu30 ?hfu30 4 ?hnu30 Try.size27 ?h1u30 ?_
                        case hyu30 => exact rfl
                        case hxu30 => exact rfl
                        case hzu30 => first | exact (two_new wr.drew (.cells zero4 27) (.cells zero4 27)).2.1 | exact heap_alloc_new (wr.drew.alloc (.cells zero4 27)) (.cells zero4 27)
                        case hfu30 => exact rfl
                        case hnu30 => exact rfl
                        case h1u30 => simp [allOne, Value.oneCell']
                        intro y1 hb1 hy1
                        have hk1 : Keeps (fun k => wr.heap.size ≤ k) _ y1 := Keeps.of hy1 (fun r e => by cases e; exact (by first | exact Nat.le_refl _ | exact Nat.le_succ _ | (simp; done)))
                        refine regx_next hK hk1 ?_
                        clear hK K
                        try simp only [Act.put]
                        refine wpAnyH_ready (rs := [11]) (by kernel_rfl) (by simp) ?_
                        refine (AllReadyH.cons (o := { dst := none, op := Op.store 27 (Operand.tmp 20) (Operand.tmp 153), type := 0, pos := "law.go:185", after := #[{ on := 9, ground := Ground.data }, { on := 7, ground := Ground.data }, { on := 10, ground := Ground.chain }, { on := 0, ground := Ground.phase }, { on := 1, ground := Ground.phase }, { on := 2, ground := Ground.phase }, { on := 3, ground := Ground.phase }, { on := 4, ground := Ground.phase }, { on := 5, ground := Ground.phase }, { on := 6, ground := Ground.phase }, { on := 7, ground := Ground.phase }, { on := 8, ground := Ground.phase }, { on := 9, ground := Ground.phase }, { on := 10, ground := Ground.phase }], guard := none }) rfl (fun K hK => ?_) AllReadyH.nil)
                        refine wp_store_all 27 _ _ rfl ?bu31 ?csu31 ?hxu31 ?hyu31 zero4L 27 ?hzu31 ?hfu31 4 ?hnu31 Try.size27 ?h1u31 ?_
                        case hyu31 => exact rfl
                        case hxu31 => exact rfl
                        case hzu31 => first | exact (hy1.block _ (by simp <;> omega) (by simp <;> omega)).trans (two_new wr.drew (.cells zero4 27) (.cells zero4 27)).2.1 | exact (hy1.block _ (by simp <;> omega) (by simp <;> omega)).trans (heap_alloc_new (wr.drew.alloc (.cells zero4 27)) (.cells zero4 27))
                        case hfu31 => exact rfl
                        case hnu31 => exact rfl
                        case h1u31 => simp [allOne, Value.oneCell']
                        intro y2 hb2 hy2
                        have hk2 : Keeps (fun k => wr.heap.size ≤ k) _ y2 := Keeps.of hy2 (fun r e => by cases e; exact (by first | exact Nat.le_refl _ | exact Nat.le_succ _ | (simp; done)))
                        refine regx_next hK hk2 ?_
                        clear hK K
                        try simp only [Act.put]
                        refine wpAnyH_done (by kernel_rfl) ?_ _
                        have HG4 := Lib.hid (grown_keeps (drewr HG2.out) ((hA.trans (hA2.trans (hk1.trans hk2)))) (fun x hx => Nat.le_trans HG2.out.size hx))
                        have HL4 := Lib.hid ((((hA.trans (hA2.trans (hk1.trans hk2)))).block _ (lt_of_block HL2.out) (by show ¬ (wr.heap.size ≤ _); omega)).trans HL2.out)
                        obtain ⟨a0, a1, _, _⟩ := cells4 ((hy2.block _ (lt_of_block hb1) (by simp <;> omega)).trans hb1)
                        obtain ⟨b0, b1, _, _⟩ := cells4 hb2
                        have hno := uniq_get hu hqi hi
                        clear hk1 hk2 hy1 hy2 hA hA2 hb1 hb2
                        generalize T.get (q : Int) = ek at *
                        generalize T.get (i : Int) = ei at *
                        try simp at a0 a1 b0 b1
                        by_cases ht1 : ei.th = true
                        · rw [ht1] at a0
                          by_cases ht2 : ek.th = true
                          · rw [ht2] at b0
                            have hne : ei.page ≠ ek.page := fun e => hno ht2 ht1 e.symm
                            clear ht1 ht2 hno
                            go_wp2
                            go_roundw
                            case rel => exact ⟨q + 1, by omega, by simp, HL4.out, HG4.out⟩
                            case measure => simp [intOf]; omega
                          · rw [Bool.not_eq_true] at ht2
                            rw [ht2] at b0
                            clear ht1 ht2 hno
                            go_wp2
                            go_roundw
                            case rel => exact ⟨q + 1, by omega, by simp, HL4.out, HG4.out⟩
                            case measure => simp [intOf]; omega
                        · rw [Bool.not_eq_true] at ht1
                          rw [ht1] at a0
                          clear ht1 hno
                          go_wp2
                          go_roundw
                          case rel => exact ⟨q + 1, by omega, by simp, HL4.out, HG4.out⟩
                          case measure => simp [intOf]; omega
                      · refine wp_of_run (exec_alloc27 rfl _) ?_
                        have hA2 : Keeps (fun k => wr.heap.size ≤ k) wr.drew (wr.drew.alloc (.cells zero4 27)) := Keeps.of (World.grownBy_alloc _ _ none) (fun r e => by cases e)
                        refine regx_next hK hA2 ?_
                        clear hK K
                        try simp only [Act.put, List.setIfInBounds_toArray, List.set_cons_zero, List.set_cons_succ]
                        refine wpAnyH_ready (rs := [8]) (by kernel_rfl) (by simp) ?_
                        refine (AllReadyH.cons (o := { dst := some 19, op := Op.alloc 27, type := 0, pos := "law.go:185", after := #[], guard := none }) rfl (fun K hK => ?_) AllReadyH.nil)
                        refine wp_of_run (exec_alloc27 rfl _) ?_
                        have hA : Keeps (fun k => wr.heap.size ≤ k) (wr.drew.alloc (.cells zero4 27)) ((wr.drew.alloc (.cells zero4 27)).alloc (.cells zero4 27)) := Keeps.of (World.grownBy_alloc _ _ none) (fun r e => by cases e)
                        refine regx_next hK hA ?_
                        clear hK K
                        try simp only [Act.put, List.setIfInBounds_toArray, List.set_cons_zero, List.set_cons_succ]
                        refine wpAnyH_ready (rs := [10]) (by kernel_rfl) (by simp) ?_
                        refine (AllReadyH.cons (o := { dst := none, op := Op.store 27 (Operand.tmp 19) (Operand.tmp 149), type := 0, pos := "law.go:185", after := #[{ on := 8, ground := Ground.data }, { on := 3, ground := Ground.data }, { on := 0, ground := Ground.phase }, { on := 1, ground := Ground.phase }, { on := 2, ground := Ground.phase }, { on := 3, ground := Ground.phase }, { on := 4, ground := Ground.textOnly Departure.lateStores }, { on := 5, ground := Ground.textOnly Departure.lateStores }, { on := 6, ground := Ground.textOnly Departure.lateStores }, { on := 7, ground := Ground.textOnly Departure.lateStores }, { on := 8, ground := Ground.phase }, { on := 9, ground := Ground.phase }], guard := none }) rfl (fun K hK => ?_) AllReadyH.nil)
                        refine wp_store_all 27 _ _ rfl ?bu37 ?csu37 ?hxu37 ?hyu37 zero4L 27 ?hzu37 ?hfu37 4 ?hnu37 Try.size27 ?h1u37 ?_
                        case hyu37 => exact rfl
                        case hxu37 => exact rfl
                        case hzu37 => first | exact (two_new wr.drew (.cells zero4 27) (.cells zero4 27)).2.1 | exact heap_alloc_new (wr.drew.alloc (.cells zero4 27)) (.cells zero4 27)
                        case hfu37 => exact rfl
                        case hnu37 => exact rfl
                        case h1u37 => simp [allOne, Value.oneCell']
                        intro y1 hb1 hy1
                        have hk1 : Keeps (fun k => wr.heap.size ≤ k) _ y1 := Keeps.of hy1 (fun r e => by cases e; exact (by first | exact Nat.le_refl _ | exact Nat.le_succ _ | (simp; done)))
                        refine regx_next hK hk1 ?_
                        clear hK K
                        try simp only [Act.put]
                        refine wpAnyH_ready (rs := [11]) (by kernel_rfl) (by simp) ?_
                        refine (AllReadyH.cons (o := { dst := none, op := Op.store 27 (Operand.tmp 20) (Operand.tmp 153), type := 0, pos := "law.go:185", after := #[{ on := 9, ground := Ground.data }, { on := 7, ground := Ground.data }, { on := 10, ground := Ground.chain }, { on := 0, ground := Ground.phase }, { on := 1, ground := Ground.phase }, { on := 2, ground := Ground.phase }, { on := 3, ground := Ground.phase }, { on := 4, ground := Ground.phase }, { on := 5, ground := Ground.phase }, { on := 6, ground := Ground.phase }, { on := 7, ground := Ground.phase }, { on := 8, ground := Ground.phase }, { on := 9, ground := Ground.phase }, { on := 10, ground := Ground.phase }], guard := none }) rfl (fun K hK => ?_) AllReadyH.nil)
                        refine wp_store_all 27 _ _ rfl ?bu38 ?csu38 ?hxu38 ?hyu38 zero4L 27 ?hzu38 ?hfu38 4 ?hnu38 Try.size27 ?h1u38 ?_
                        case hyu38 => exact rfl
                        case hxu38 => exact rfl
                        case hzu38 => first | exact (hy1.block _ (by simp <;> omega) (by simp <;> omega)).trans (two_new wr.drew (.cells zero4 27) (.cells zero4 27)).2.1 | exact (hy1.block _ (by simp <;> omega) (by simp <;> omega)).trans (heap_alloc_new (wr.drew.alloc (.cells zero4 27)) (.cells zero4 27))
                        case hfu38 => exact rfl
                        case hnu38 => exact rfl
                        case h1u38 => simp [allOne, Value.oneCell']
                        intro y2 hb2 hy2
                        have hk2 : Keeps (fun k => wr.heap.size ≤ k) _ y2 := Keeps.of hy2 (fun r e => by cases e; exact (by first | exact Nat.le_refl _ | exact Nat.le_succ _ | (simp; done)))
                        refine regx_next hK hk2 ?_
                        clear hK K
                        try simp only [Act.put]
                        refine wpAnyH_done (by kernel_rfl) ?_ _
                        have HG4 := Lib.hid (grown_keeps (drewr HG2.out) ((hA2.trans (hA.trans (hk1.trans hk2)))) (fun x hx => Nat.le_trans HG2.out.size hx))
                        have HL4 := Lib.hid ((((hA2.trans (hA.trans (hk1.trans hk2)))).block _ (lt_of_block HL2.out) (by show ¬ (wr.heap.size ≤ _); omega)).trans HL2.out)
                        obtain ⟨a0, a1, _, _⟩ := cells4 ((hy2.block _ (lt_of_block hb1) (by simp <;> omega)).trans hb1)
                        obtain ⟨b0, b1, _, _⟩ := cells4 hb2
                        have hno := uniq_get hu hqi hi
                        clear hk1 hk2 hy1 hy2 hA hA2 hb1 hb2
                        generalize T.get (q : Int) = ek at *
                        generalize T.get (i : Int) = ei at *
                        try simp at a0 a1 b0 b1
                        by_cases ht1 : ei.th = true
                        · rw [ht1] at a0
                          by_cases ht2 : ek.th = true
                          · rw [ht2] at b0
                            have hne : ei.page ≠ ek.page := fun e => hno ht2 ht1 e.symm
                            clear ht1 ht2 hno
                            go_wp2
                            go_roundw
                            case rel => exact ⟨q + 1, by omega, by simp, HL4.out, HG4.out⟩
                            case measure => simp [intOf]; omega
                          · rw [Bool.not_eq_true] at ht2
                            rw [ht2] at b0
                            clear ht1 ht2 hno
                            go_wp2
                            go_roundw
                            case rel => exact ⟨q + 1, by omega, by simp, HL4.out, HG4.out⟩
                            case measure => simp [intOf]; omega
                        · rw [Bool.not_eq_true] at ht1
                          rw [ht1] at a0
                          clear ht1 hno
                          go_wp2
                          go_roundw
                          case rel => exact ⟨q + 1, by omega, by simp, HL4.out, HG4.out⟩
                          case measure => simp [intOf]; omega
                    · obtain rfl : q = i := by omega
                      go_wp2
                      go_roundw
                      case rel => exact ⟨q + 1, by omega, by simp, HL2.out, HG2.out⟩
                      case measure => simp [intOf]; omega
                · obtain rfl : i = 4 := by omega
                  go_wp2_with fail
                  refine (works_any _).mono ?_; rintro e u6 ⟨rfl, hg6⟩
                  have HG6 := Lib.hid (HG1.out.trans hg6)
                  clear hg6
                  go_wp2
                  go_ret
                  exact ⟨rfl, HG6.out⟩
end Go.Proofs.Ytcahpmlajfbidaa
