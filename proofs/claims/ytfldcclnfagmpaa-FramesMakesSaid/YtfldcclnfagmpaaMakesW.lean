import Derived.Test.YtfldcclnfagmpaaMakesP
namespace Go.Proofs.Ytfldcclnfagmpaa
open Go.RowKit
set_option maxRecDepth 100000 in
set_option maxHeartbeats 8000000 in
theorem framesMakes_walk (pages : Int) (a : Option Addr) (n cap : Nat) (l : List UInt8) (w : World) (hn : n = l.length) (hs : Src w a l) (hm : n ≤ 9223372036854775807) (hnil : a = none → cap = 0) :
    Calls Try.prog 5 #[.int .i64 pages, .slice a n cap] w fun e w' => e = .returned (.bool true) ∧ w.grownBy w' none := by
  subst hn
  by_cases hbig : 5000 < l.length
  · have hb' : (5000 : Int) < l.length := by omega
    go_enter Try.func5, Try.ntmps5
    go_wp2_with (go_at_call 10; refine (works_any _).mono ?_; rintro e w1 ⟨rfl, hg1⟩)
    go_ret
    exact ⟨rfl, hg1⟩
  have hb' : ¬ (5000 : Int) < l.length := by omega
  go_enter Try.func5, Try.ntmps5
  go_wp2_with fail
  refine (new_any pages _).mono ?_; rintro e w1 ⟨ptr, no, rfl, hg1, hnew⟩
  have HN := Lib.hid hnew
  clear hnew
  have ho1 := OwnB.empty w1 w1.heap.size (Nat.le_refl _)
  have hs1 : Src (w1.alloc (.cells #[] 5)) a l := (hs.keptNone hg1).keptNone (World.grownBy_alloc _ _ _)
  have hv1 : (Value.slice (some ⟨w1.heap.size, 0, none⟩) 0 0) ≠ .slice none 0 0 := by simp
  go_wp2_with (at_builtin; refine wpList_bapp2 rfl _ _ rfl w1.heap.size _ [] l rfl ho1 hv1 _ _ _ rfl rfl hnil hs1 (by simp; omega) (by simp) ?_)
  intro g1 c1 w2 hg1' hr2 hgr2 _
  have hgr2 : w1.grownBy w2 none := grown_new (World.grownBy_alloc _ _ _) hgr2 (Nat.le_refl _)
  have hr2 : Row w2 g1 l c1 := hr2
  have hg2 := hg1.trans hgr2
  have ho2 : OwnB (w2.alloc (.cells #[.int .u8 77] 5)) w1.heap.size (.slice (some ⟨g1, 0, none⟩) l.length c1) l := (show OwnB w2 w1.heap.size (.slice (some ⟨g1, 0, none⟩) l.length c1) l from hr2.owns hg1').keptNone (World.grownBy_alloc _ _ _)
  have hs2 : Src (w2.alloc (.cells #[.int .u8 77] 5)) (some ⟨w2.heap.size, 0, none⟩) [77] := (Row.new w2 [77] (by simp [maxLen])).src
  have hv2 : (Value.slice (some ⟨g1, 0, none⟩) l.length c1) ≠ .slice none 0 0 := by simp
  have hsz2 := hgr2.size
  clear ho1 hs1 hv1
  go_wp2_with (at_builtin; refine wpList_bapp2 rfl _ _ rfl w1.heap.size _ l [77] rfl ho2 hv2 _ _ _ rfl rfl (fun e => by cases e) hs2 (by simp; omega) (by simp; omega) ?_)
  intro g2 c2 w3 hg2' hr3 hgr3 _
  have hgr3 : w2.grownBy (w2.alloc (.cells #[.int .u8 77] 5)) none ∧ w1.grownBy w3 none := ⟨World.grownBy_alloc _ _ _, grown_new (hgr2.trans (World.grownBy_alloc _ _ _)) hgr3 hg1'⟩
  have hg3 := hg1.trans hgr3.2
  have hgr13 := hgr3.2
  clear hgr3 ho2 hs2 hv2 hr2
  have hr3 : Row w3 g2 (l ++ [77]) c2 := hr3
  have hcap := hr3.1
  simp at hcap
  have hle : (0 : Int) ≤ l.length := by omega
  go_wp2_with fail
  by_cases hgood : 64 ≤ l.length ∧ l.length ≤ 2048 ∧ l.length % 64 = 0
  · have hsz : sizeB l.length = true := by unfold sizeB; simpa using hgood
    refine (of_good g2 0 l.length c2 l rfl w3 hr3.src.pre hgood.1 hgood.2.1 hgood.2.2).mono ?_; rintro e w4 ⟨B, g, rfl, hB, hg, hF, hg4⟩
    have hne : l ≠ [] := fun e => by subst e; simp at hgood
    have hr4 : Row w4 g2 (l ++ [77]) c2 := hr3.kept hg4 (by simp)
    have hg14 := hgr13.trans hg4
    have hlt2 : g2 < w3.heap.size := hr3.lt
    have k1 := conv_src (cap := c2) (hr4.src.pre)
    have k2 := conv_any (cap := cap) (hs.keptNone (hg1.trans hg14))
    have k3 := hr4.cell l.length (by simp)
    rw [List.getElem_append_right (Nat.le_refl _)] at k3
    have k3 : w4.cell? ⟨g2, l.length, none⟩ = some (.int .u8 77) := by simpa using k3
    go_wp2_with fail
    refine (num_any _ _).mono ?_; rintro e w' ⟨rfl, rfl⟩
    go_wp2_with fail
    refine (ref_size _ _).mono ?_; rintro e w' ⟨rfl, rfl⟩
    rw [hsz]
    go_wp2_with fail
    refine (num_any _ _).mono ?_; rintro e w' ⟨rfl, rfl⟩
    go_wp2_with fail
    go_loopw [10] (fun i wr => ∃ (k : Nat) (lm : List UInt8), k ≤ l.length ∧ lm.length = l.length + 1 ∧ i = .int .i64 k ∧ Row wr g2 lm c2 ∧ w4.grownBy wr (some g2)) (fun i _ => l.length - (intOf i).toNat)
    case atStart => exact ⟨0, l ++ [77], Nat.zero_le _, by simp, rfl, hr4, World.grownBy.refl _ _⟩
    case round =>
    obtain ⟨k, lm, hk, hlm, rfl, hrow6, hg7⟩ := hrel
    clear k1 k2 k3
    by_cases hlt : k < l.length
    · have hcell := hrow6.cell k (by omega)
      have hfz := hrow6.frozen k
      have hbx := lm[k].toNat_lt
      generalize hxx : lm[k]'(by omega) = x at *
      clear hxx
      go_wp2
      go_roundw
      case rel =>
        have := hrow6.set k (x + 1)
        have e : (((x + 1).toNat : Nat) : Int) = ((x.toNat : Int) + 1) % 256 := by simp [UInt8.toNat_add]
        rw [e] at this
        exact ⟨k + 1, lm.set k (x + 1), by omega, by simpa using hlm, by go_num, this, hg7.trans (grown_setCell _ _ _ _)⟩
      case measure => simp [intOf]; omega
    · obtain rfl : k = l.length := by omega
      have hgr7 : w.grownBy wr none := grown_new (hg1.trans hg14) hg7 (Nat.le_trans hg1.size hg2')
      have hF7 : Fr wr B g l := hF.kept hg7 (by simp; have := hF.ltB; omega) (by simp; omega)
      have hd := drewr (World.grownBy.refl wr none)
      clear hrow6
      go_wp2_with fail
      refine reg_open (none) (n := 18) rfl (by kernel_rfl) ?_
      refine reg_take 0 (some 87) (v := ?_) rfl rfl (by kernel_rfl) (by kernel_rfl) (by kernel_rfl) (fun _ _ _ h => h) (by rfl) ?_ ?_
      rotate_left
      · intro W hW; go_simp; first | done | with_reducible rfl
      try simp only [Act.put, List.setIfInBounds_toArray, List.set_cons_zero, List.set_cons_succ]
      refine wpAnyH_ready (rs := [1]) (by kernel_rfl) (by simp) ?_
      refine (AllReadyH.cons (o := { dst := some 88, op := Op.call { callee := Callee.value (Operand.func 15), args := #[Operand.tmp 87], argTypes := #[29] }, type := 3, pos := "law.go:46", after := #[{ on := 0, ground := Ground.data }], guard := none }) rfl (fun K hK => ?_) AllReadyH.nil)
      go_simp
      refine (num_any _ _).mono ?_; rintro e w' ⟨rfl, rfl⟩
      refine reg_same hK ?_
      clear hK K
      try simp only [Act.put, List.setIfInBounds_toArray, List.set_cons_zero, List.set_cons_succ]
      refine reg_take 2 (some 89) (v := ?_) rfl rfl (by kernel_rfl) (by kernel_rfl) (by kernel_rfl) (fun _ _ _ h => h) (by rfl) ?_ ?_
      rotate_left
      · intro W hW; go_simp; first | done | with_reducible rfl
      try simp only [Act.put, List.setIfInBounds_toArray, List.set_cons_zero, List.set_cons_succ]
      refine reg_take 3 (some 90) (v := ?_) rfl rfl (by kernel_rfl) (by kernel_rfl) (by kernel_rfl) (fun _ _ _ h => h) (by rfl) ?_ ?_
      rotate_left
      · intro W hW; go_simp; first | done | with_reducible rfl
      try simp only [Act.put, List.setIfInBounds_toArray, List.set_cons_zero, List.set_cons_succ]
      refine reg_take 4 (some 91) (v := ?_) rfl rfl (by kernel_rfl) (by kernel_rfl) (by kernel_rfl) (fun _ _ _ h => h) (by rfl) ?_ ?_
      rotate_left
      · intro W hW; go_simp; first | done | with_reducible rfl
      try simp only [Act.put, List.setIfInBounds_toArray, List.set_cons_zero, List.set_cons_succ]
      refine reg_take 7 (some 94) (v := ?_) rfl rfl (by kernel_rfl) (by kernel_rfl) (by kernel_rfl) (fun _ _ _ h => h) (by rfl) ?_ ?_
      rotate_left
      · intro W hW; go_simp; first | done | with_reducible rfl
      try simp only [Act.put, List.setIfInBounds_toArray, List.set_cons_zero, List.set_cons_succ]
      refine reg_take 8 (some 95) (v := ?_) rfl rfl (by kernel_rfl) (by kernel_rfl) (by kernel_rfl) (fun _ _ _ h => h) (by rfl) ?_ ?_
      rotate_left
      · intro W hW; have k1 := conv_any (cap := cap) (hs.keptNone ((hgr7.trans hd).trans hW)); go_simp; first | done | with_reducible rfl
      try simp only [Act.put, List.setIfInBounds_toArray, List.set_cons_zero, List.set_cons_succ]
      refine wpAnyH_ready (rs := [5]) (by kernel_rfl) (by simp) ?_
      refine (AllReadyH.cons (o := { dst := some 92, op := Op.call { callee := Callee.value (Operand.func 20), args := #[Operand.tmp 91], argTypes := #[28] }, type := 22, pos := "law.go:46", after := #[{ on := 4, ground := Ground.data }, { on := 3, ground := Ground.chain }, { on := 3, ground := Ground.guard }], guard := some (3, true) }) rfl (fun K hK => ?_) AllReadyH.nil)
      go_simp
      refine (bytes_any B g l _ (hF7.keptNone hd) (by omega) hne).mono ?_; rintro e u1 ⟨q1, d1, rfl, hq1, r1, h1⟩
      refine reg_next hK h1 ?_
      clear hK K
      try simp only [Act.put, List.setIfInBounds_toArray, List.set_cons_zero, List.set_cons_succ]
      refine reg_take 6 (some 93) (v := ?_) rfl rfl (by kernel_rfl) (by kernel_rfl) (by kernel_rfl) (fun _ _ _ h => h) (by rfl) ?_ ?_
      rotate_left
      · intro W hW; have k1 := conv_src (cap := d1) (r1.kept hW (by simp)).src; go_simp; first | done | with_reducible rfl
      try simp only [Act.put, List.setIfInBounds_toArray, List.set_cons_zero, List.set_cons_succ]
      refine reg_take 9 (some 96) (v := ?_) rfl rfl (by kernel_rfl) (by kernel_rfl) (by kernel_rfl) (fun _ _ _ h => h) (by rfl) ?_ ?_
      rotate_left
      · intro W hW; go_simp; first | done | with_reducible rfl
      try simp only [Act.put, List.setIfInBounds_toArray, List.set_cons_zero, List.set_cons_succ]
      refine reg_take 10 (some 97) (v := ?_) rfl rfl (by kernel_rfl) (by kernel_rfl) (by kernel_rfl) (fun _ _ _ h => h) (by rfl) ?_ ?_
      rotate_left
      · intro W hW; go_simp; first | done | with_reducible rfl
      try simp only [Act.put, List.setIfInBounds_toArray, List.set_cons_zero, List.set_cons_succ]
      refine reg_take 11 (some 98) (v := ?_) rfl rfl (by kernel_rfl) (by kernel_rfl) (by kernel_rfl) (fun _ _ _ h => h) (by rfl) ?_ ?_
      rotate_left
      · intro W hW; go_simp; first | done | with_reducible rfl
      try simp only [Act.put, List.setIfInBounds_toArray, List.set_cons_zero, List.set_cons_succ]
      refine reg_take 13 (some 100) (v := ?_) rfl rfl (by kernel_rfl) (by kernel_rfl) (by kernel_rfl) (fun _ _ _ h => h) (by rfl) ?_ ?_
      rotate_left
      · intro W hW; go_simp; first | done | with_reducible rfl
      try simp only [Act.put, List.setIfInBounds_toArray, List.set_cons_zero, List.set_cons_succ]
      refine reg_take 14 (some 101) (v := ?_) rfl rfl (by kernel_rfl) (by kernel_rfl) (by kernel_rfl) (fun _ _ _ h => h) (by rfl) ?_ ?_
      rotate_left
      · intro W hW; go_simp; first | done | with_reducible rfl
      try simp only [Act.put, List.setIfInBounds_toArray, List.set_cons_zero, List.set_cons_succ]
      refine wpAnyH_ready (rs := [12]) (by kernel_rfl) (by simp) ?_
      refine (AllReadyH.cons (o := { dst := some 99, op := Op.call { callee := Callee.value (Operand.func 21), args := #[Operand.tmp 98], argTypes := #[28] }, type := 3, pos := "law.go:46", after := #[{ on := 11, ground := Ground.data }, { on := 10, ground := Ground.chain }, { on := 10, ground := Ground.guard }], guard := some (10, false) }) rfl (fun K hK => ?_) AllReadyH.nil)
      go_simp
      refine (size_any B g l _ (hF7.keptNone (hd.trans h1))).mono ?_; rintro e w' ⟨rfl, rfl⟩
      refine reg_same hK ?_
      clear hK K
      try simp only [Act.put, List.setIfInBounds_toArray, List.set_cons_zero, List.set_cons_succ]
      refine reg_take 15 (some 102) (v := ?_) rfl rfl (by kernel_rfl) (by kernel_rfl) (by kernel_rfl) (fun _ _ _ h => h) (by rfl) ?_ ?_
      rotate_left
      · intro W hW; go_simp; first | done | with_reducible rfl
      try simp only [Act.put, List.setIfInBounds_toArray, List.set_cons_zero, List.set_cons_succ]
      refine reg_take 16 (some 103) (v := ?_) rfl rfl (by kernel_rfl) (by kernel_rfl) (by kernel_rfl) (fun _ _ _ h => h) (by rfl) ?_ ?_
      rotate_left
      · intro W hW; go_simp; first | done | with_reducible rfl
      try simp only [Act.put, List.setIfInBounds_toArray, List.set_cons_zero, List.set_cons_succ]
      refine reg_take 17 (some 104) (v := ?_) rfl rfl (by kernel_rfl) (by kernel_rfl) (by kernel_rfl) (fun _ _ _ h => h) (by rfl) ?_ ?_
      rotate_left
      · intro W hW; go_simp; first | done | with_reducible rfl
      try simp only [Act.put, List.setIfInBounds_toArray, List.set_cons_zero, List.set_cons_succ]
      refine wpAnyH_done (by kernel_rfl) ?_ _
      have hd8 := hd.trans h1
      have hgr8 := hgr7.trans hd8
      rcases HN.out with ⟨p1, p2, rfl, B0, g0, rfl, hB0, hg0, hF0⟩ | ⟨hp, rfl, rfl⟩
      · have q1 : ¬ pages < 1 := by omega
        have q2 : ¬ (32 : Int) < pages := by omega
        have hF9 := ((hF0.keptNone hg14).kept hg7 (by have := hF0.ltB; simp; omega) (by have := hF0.ltg; simp; omega)).keptNone hd8
        have hne0 : List.replicate (pages.toNat * 64) (0 : UInt8) ≠ [] := fun e => by have := congrArg List.length e; simp at this; omega
        have hgr9 := hgr8
        clear hs hF0 hd8 hgr8
        go_wp2_with fail
        have hmk := fun W => mk_bytes W (pages.toNat * 64) (IntKind.i64.wrap (64 * pages)) (by rw [IntKind.wrap_i64]; omega) (by omega)
        have hd9 := drewr (World.grownBy.refl u1 none)
        refine reg_open (none) (n := 17) rfl (by kernel_rfl) ?_
        refine reg_take 0 (some 121) (v := ?_) rfl rfl (by kernel_rfl) (by kernel_rfl) (by kernel_rfl) (fun _ _ _ h => h) (by rfl) ?_ ?_
        rotate_left
        · intro W hW; go_simp; first | done | with_reducible rfl
        try simp only [Act.put, List.setIfInBounds_toArray, List.set_cons_zero, List.set_cons_succ]
        refine wpAnyH_ready (rs := [1]) (by kernel_rfl) (by simp) ?_
        refine (AllReadyH.cons (o := { dst := some 122, op := Op.call { callee := Callee.value (Operand.func 15), args := #[Operand.tmp 121], argTypes := #[29] }, type := 3, pos := "law.go:52", after := #[{ on := 0, ground := Ground.data }], guard := none }) rfl (fun K hK => ?_) AllReadyH.nil)
        go_simp
        refine (num_any _ _).mono ?_; rintro e w' ⟨rfl, rfl⟩
        refine reg_same hK ?_
        clear hK K
        try simp only [Act.put, List.setIfInBounds_toArray, List.set_cons_zero, List.set_cons_succ]
        refine reg_take 2 (some 123) (v := ?_) rfl rfl (by kernel_rfl) (by kernel_rfl) (by kernel_rfl) (fun _ _ _ h => h) (by rfl) ?_ ?_
        rotate_left
        · intro W hW; go_simp; first | done | with_reducible rfl
        try simp only [Act.put, List.setIfInBounds_toArray, List.set_cons_zero, List.set_cons_succ]
        refine reg_take 3 (some 124) (v := ?_) rfl rfl (by kernel_rfl) (by kernel_rfl) (by kernel_rfl) (fun _ _ _ h => h) (by rfl) ?_ ?_
        rotate_left
        · intro W hW; go_simp; first | done | with_reducible rfl
        try simp only [Act.put, List.setIfInBounds_toArray, List.set_cons_zero, List.set_cons_succ]
        refine reg_take 4 (some 125) (v := ?_) rfl rfl (by kernel_rfl) (by kernel_rfl) (by kernel_rfl) (fun _ _ _ h => h) (by rfl) ?_ ?_
        rotate_left
        · intro W hW; go_simp; first | done | with_reducible rfl
        try simp only [Act.put, List.setIfInBounds_toArray, List.set_cons_zero, List.set_cons_succ]
        refine reg_take 7 (some 128) (v := ?_) rfl rfl (by kernel_rfl) (by kernel_rfl) (by kernel_rfl) (fun _ _ _ h => h) (by rfl) ?_ ?_
        rotate_left
        · intro W hW; go_simp; first | done | with_reducible rfl
        try simp only [Act.put, List.setIfInBounds_toArray, List.set_cons_zero, List.set_cons_succ]
        refine reg_take 8 (some 129) (v := ?_) rfl rfl (by kernel_rfl) (by kernel_rfl) (by kernel_rfl) (fun _ _ _ h => h) (by rfl) ?_ ?_
        rotate_left
        · intro W hW; go_simp; first | done | with_reducible rfl
        try simp only [Act.put, List.setIfInBounds_toArray, List.set_cons_zero, List.set_cons_succ]
        refine wpAnyH_ready (rs := [5, 9]) (by kernel_rfl) (by simp) ?_
        refine (AllReadyH.cons (o := { dst := some 126, op := Op.call { callee := Callee.value (Operand.func 20), args := #[Operand.tmp 125], argTypes := #[28] }, type := 22, pos := "law.go:52", after := #[{ on := 4, ground := Ground.data }, { on := 3, ground := Ground.chain }, { on := 3, ground := Ground.guard }], guard := some (3, true) }) rfl (fun K hK => ?_) (AllReadyH.cons (o := { dst := some 130, op := Op.makeSlice 22 (Operand.tmp 129) (Operand.tmp 129), type := 22, pos := "law.go:52", after := #[{ on := 8, ground := Ground.data }, { on := 8, ground := Ground.data }, { on := 3, ground := Ground.guard }], guard := some (3, true) }) rfl (fun K hK => ?_) AllReadyH.nil))
        · go_simp
          refine (bytes_any B0 g0 _ _ (hF9.keptNone (hd9.trans (World.grownBy.refl _ _))) (by simp; omega) hne0).mono ?_; rintro e u1b ⟨q1, d1, rfl, hq1, r1, h1⟩
          refine reg_next hK h1 ?_
          clear hK K
          try simp only [Act.put, List.setIfInBounds_toArray, List.set_cons_zero, List.set_cons_succ]
          refine reg_take 6 (some 127) (v := ?_) rfl rfl (by kernel_rfl) (by kernel_rfl) (by kernel_rfl) (fun _ _ _ h => h) (by rfl) ?_ ?_
          rotate_left
          · intro W hW; have k1 := conv_src (cap := d1) (r1.kept hW (by simp)).src; rw [List.length_replicate] at k1; go_simp; first | done | with_reducible rfl
          try simp only [Act.put, List.setIfInBounds_toArray, List.set_cons_zero, List.set_cons_succ]
          refine wpAnyH_ready (rs := [9]) (by kernel_rfl) (by simp) ?_
          refine (AllReadyH.cons (o := { dst := some 130, op := Op.makeSlice 22 (Operand.tmp 129) (Operand.tmp 129), type := 22, pos := "law.go:52", after := #[{ on := 8, ground := Ground.data }, { on := 8, ground := Ground.data }, { on := 3, ground := Ground.guard }], guard := some (3, true) }) rfl (fun K hK => ?_) AllReadyH.nil)
          go_simp
          have r2 := Row.new u1b (List.replicate (pages.toNat * 64) 0) (by simp [maxLen]; omega); have h2 := World.grownBy_alloc u1b (.cells (bsV (List.replicate (pages.toNat * 64) 0)).toArray 5) none; rw [List.length_replicate] at r2; change Row _ u1b.heap.size _ _ at r2
          refine reg_next hK h2 ?_
          clear hK K
          try simp only [Act.put, List.setIfInBounds_toArray, List.set_cons_zero, List.set_cons_succ]
          refine reg_take 10 (some 131) (v := ?_) rfl rfl (by kernel_rfl) (by kernel_rfl) (by kernel_rfl) (fun _ _ _ h => h) (by rfl) ?_ ?_
          rotate_left
          · intro W hW; have k1 := conv_src (cap := pages.toNat * 64) (r2.kept hW (by simp)).src; rw [List.length_replicate] at k1; go_simp; first | done | with_reducible rfl
          try simp only [Act.put, List.setIfInBounds_toArray, List.set_cons_zero, List.set_cons_succ]
          refine reg_take 11 (some 132) (v := ?_) rfl rfl (by kernel_rfl) (by kernel_rfl) (by kernel_rfl) (fun _ _ _ h => h) (by rfl) ?_ ?_
          rotate_left
          · intro W hW; go_simp; first | done | with_reducible rfl
          try simp only [Act.put, List.setIfInBounds_toArray, List.set_cons_zero, List.set_cons_succ]
          refine reg_take 12 (some 133) (v := ?_) rfl rfl (by kernel_rfl) (by kernel_rfl) (by kernel_rfl) (fun _ _ _ h => h) (by rfl) ?_ ?_
          rotate_left
          · intro W hW; go_simp; first | done | with_reducible rfl
          try simp only [Act.put, List.setIfInBounds_toArray, List.set_cons_zero, List.set_cons_succ]
          refine reg_take 13 (some 134) (v := ?_) rfl rfl (by kernel_rfl) (by kernel_rfl) (by kernel_rfl) (fun _ _ _ h => h) (by rfl) ?_ ?_
          rotate_left
          · intro W hW; go_simp; first | done | with_reducible rfl
          try simp only [Act.put, List.setIfInBounds_toArray, List.set_cons_zero, List.set_cons_succ]
          refine wpAnyH_ready (rs := [14]) (by kernel_rfl) (by simp) ?_
          refine (AllReadyH.cons (o := { dst := some 135, op := Op.call { callee := Callee.value (Operand.func 10), args := #[], argTypes := #[] }, type := 4, pos := "law.go:52", after := #[{ on := 13, ground := Ground.chain }, { on := 13, ground := Ground.guard }], guard := some (13, true) }) rfl (fun K hK => ?_) AllReadyH.nil)
          go_simp
          refine (works_any _).mono ?_; rintro e u3 ⟨rfl, h3⟩
          refine reg_next hK h3 ?_
          clear hK K
          try simp only [Act.put, List.setIfInBounds_toArray, List.set_cons_zero, List.set_cons_succ]
          refine reg_take 15 (some 136) (v := ?_) rfl rfl (by kernel_rfl) (by kernel_rfl) (by kernel_rfl) (fun _ _ _ h => h) (by rfl) ?_ ?_
          rotate_left
          · intro W hW; go_simp; first | done | with_reducible rfl
          try simp only [Act.put, List.setIfInBounds_toArray, List.set_cons_zero, List.set_cons_succ]
          refine reg_take 16 (some 4) (v := ?_) rfl rfl (by kernel_rfl) (by kernel_rfl) (by kernel_rfl) (fun _ _ _ h => h) (by rfl) ?_ ?_
          rotate_left
          · intro W hW; go_simp; first | done | with_reducible rfl
          try simp only [Act.put, List.setIfInBounds_toArray, List.set_cons_zero, List.set_cons_succ]
          refine wpAnyH_done (by kernel_rfl) ?_ _
          go_wp2
          go_ret
          exact ⟨rfl, hgr9.trans (hd9.trans (h1.trans (h2.trans h3)))⟩
        · go_simp
          have r2 := Row.new u1.drew (List.replicate (pages.toNat * 64) 0) (by simp [maxLen]; omega); have h2 := World.grownBy_alloc u1.drew (.cells (bsV (List.replicate (pages.toNat * 64) 0)).toArray 5) none; rw [List.length_replicate] at r2; change Row _ u1.heap.size _ _ at r2
          refine reg_next hK h2 ?_
          clear hK K
          try simp only [Act.put, List.setIfInBounds_toArray, List.set_cons_zero, List.set_cons_succ]
          refine reg_take 10 (some 131) (v := ?_) rfl rfl (by kernel_rfl) (by kernel_rfl) (by kernel_rfl) (fun _ _ _ h => h) (by rfl) ?_ ?_
          rotate_left
          · intro W hW; have k1 := conv_src (cap := pages.toNat * 64) (r2.kept hW (by simp)).src; rw [List.length_replicate] at k1; go_simp; first | done | with_reducible rfl
          try simp only [Act.put, List.setIfInBounds_toArray, List.set_cons_zero, List.set_cons_succ]
          refine wpAnyH_ready (rs := [5]) (by kernel_rfl) (by simp) ?_
          refine (AllReadyH.cons (o := { dst := some 126, op := Op.call { callee := Callee.value (Operand.func 20), args := #[Operand.tmp 125], argTypes := #[28] }, type := 22, pos := "law.go:52", after := #[{ on := 4, ground := Ground.data }, { on := 3, ground := Ground.chain }, { on := 3, ground := Ground.guard }], guard := some (3, true) }) rfl (fun K hK => ?_) AllReadyH.nil)
          go_simp
          refine (bytes_any B0 g0 _ _ (hF9.keptNone (hd9.trans h2)) (by simp; omega) hne0).mono ?_; rintro e u1b ⟨q1, d1, rfl, hq1, r1, h1⟩
          refine reg_next hK h1 ?_
          clear hK K
          try simp only [Act.put, List.setIfInBounds_toArray, List.set_cons_zero, List.set_cons_succ]
          refine reg_take 6 (some 127) (v := ?_) rfl rfl (by kernel_rfl) (by kernel_rfl) (by kernel_rfl) (fun _ _ _ h => h) (by rfl) ?_ ?_
          rotate_left
          · intro W hW; have k1 := conv_src (cap := d1) (r1.kept hW (by simp)).src; rw [List.length_replicate] at k1; go_simp; first | done | with_reducible rfl
          try simp only [Act.put, List.setIfInBounds_toArray, List.set_cons_zero, List.set_cons_succ]
          refine reg_take 11 (some 132) (v := ?_) rfl rfl (by kernel_rfl) (by kernel_rfl) (by kernel_rfl) (fun _ _ _ h => h) (by rfl) ?_ ?_
          rotate_left
          · intro W hW; go_simp; first | done | with_reducible rfl
          try simp only [Act.put, List.setIfInBounds_toArray, List.set_cons_zero, List.set_cons_succ]
          refine reg_take 12 (some 133) (v := ?_) rfl rfl (by kernel_rfl) (by kernel_rfl) (by kernel_rfl) (fun _ _ _ h => h) (by rfl) ?_ ?_
          rotate_left
          · intro W hW; go_simp; first | done | with_reducible rfl
          try simp only [Act.put, List.setIfInBounds_toArray, List.set_cons_zero, List.set_cons_succ]
          refine reg_take 13 (some 134) (v := ?_) rfl rfl (by kernel_rfl) (by kernel_rfl) (by kernel_rfl) (fun _ _ _ h => h) (by rfl) ?_ ?_
          rotate_left
          · intro W hW; go_simp; first | done | with_reducible rfl
          try simp only [Act.put, List.setIfInBounds_toArray, List.set_cons_zero, List.set_cons_succ]
          refine wpAnyH_ready (rs := [14]) (by kernel_rfl) (by simp) ?_
          refine (AllReadyH.cons (o := { dst := some 135, op := Op.call { callee := Callee.value (Operand.func 10), args := #[], argTypes := #[] }, type := 4, pos := "law.go:52", after := #[{ on := 13, ground := Ground.chain }, { on := 13, ground := Ground.guard }], guard := some (13, true) }) rfl (fun K hK => ?_) AllReadyH.nil)
          go_simp
          refine (works_any _).mono ?_; rintro e u3 ⟨rfl, h3⟩
          refine reg_next hK h3 ?_
          clear hK K
          try simp only [Act.put, List.setIfInBounds_toArray, List.set_cons_zero, List.set_cons_succ]
          refine reg_take 15 (some 136) (v := ?_) rfl rfl (by kernel_rfl) (by kernel_rfl) (by kernel_rfl) (fun _ _ _ h => h) (by rfl) ?_ ?_
          rotate_left
          · intro W hW; go_simp; first | done | with_reducible rfl
          try simp only [Act.put, List.setIfInBounds_toArray, List.set_cons_zero, List.set_cons_succ]
          refine reg_take 16 (some 4) (v := ?_) rfl rfl (by kernel_rfl) (by kernel_rfl) (by kernel_rfl) (fun _ _ _ h => h) (by rfl) ?_ ?_
          rotate_left
          · intro W hW; go_simp; first | done | with_reducible rfl
          try simp only [Act.put, List.setIfInBounds_toArray, List.set_cons_zero, List.set_cons_succ]
          refine wpAnyH_done (by kernel_rfl) ?_ _
          go_wp2
          go_ret
          exact ⟨rfl, hgr9.trans (hd9.trans (h2.trans (h1.trans h3)))⟩
      · rcases hp with hp | hp
        · go_wp2_with fail
          refine (num_any _ _).mono ?_; rintro e w' ⟨rfl, rfl⟩
          go_wp2_with fail
          refine (works_any _).mono ?_; rintro e u3 ⟨rfl, h3⟩
          go_wp2
          go_ret
          exact ⟨rfl, hgr8.trans h3⟩
        · have hp' : ¬ pages < 1 := by omega
          go_wp2_with fail
          refine (num_any _ _).mono ?_; rintro e w' ⟨rfl, rfl⟩
          go_wp2_with fail
          refine (works_any _).mono ?_; rintro e u3 ⟨rfl, h3⟩
          go_wp2
          go_ret
          exact ⟨rfl, hgr8.trans h3⟩
  · have hsz : sizeB l.length = false := by unfold sizeB; simpa using hgood
    refine (of_bad (some ⟨g2, 0, none⟩) l.length c2 w3 (by omega) (by omega)).mono ?_; rintro e w4 ⟨rfl, hg4⟩
    have hr4 : Row w4 g2 (l ++ [77]) c2 := hr3.kept hg4 (by simp)
    have hg14 := hgr13.trans hg4
    have hlt2 : g2 < w3.heap.size := hr3.lt
    have k1 := conv_src (cap := c2) (hr4.src.pre)
    have k2 := conv_any (cap := cap) (hs.keptNone (hg1.trans hg14))
    have k3 := hr4.cell l.length (by simp)
    rw [List.getElem_append_right (Nat.le_refl _)] at k3
    have k3 : w4.cell? ⟨g2, l.length, none⟩ = some (.int .u8 77) := by simpa using k3
    go_wp2_with fail
    refine (num_any _ _).mono ?_; rintro e w' ⟨rfl, rfl⟩
    go_wp2_with fail
    refine (ref_size _ _).mono ?_; rintro e w' ⟨rfl, rfl⟩
    rw [hsz]
    go_wp2_with fail
    refine (num_any _ _).mono ?_; rintro e w' ⟨rfl, rfl⟩
    go_wp2_with fail
    refine (num_any _ _).mono ?_; rintro e w' ⟨rfl, rfl⟩
    go_wp2_with fail
    go_loopw [10] (fun i wr => ∃ (k : Nat) (lm : List UInt8), k ≤ l.length ∧ lm.length = l.length + 1 ∧ i = .int .i64 k ∧ Row wr g2 lm c2 ∧ w4.grownBy wr (some g2)) (fun i _ => l.length - (intOf i).toNat)
    case atStart => exact ⟨0, l ++ [77], Nat.zero_le _, by simp, rfl, hr4, World.grownBy.refl _ _⟩
    case round =>
    obtain ⟨k, lm, hk, hlm, rfl, hrow6, hg7⟩ := hrel
    clear k1 k2 k3
    by_cases hlt : k < l.length
    · have hcell := hrow6.cell k (by omega)
      have hfz := hrow6.frozen k
      have hbx := lm[k].toNat_lt
      generalize hxx : lm[k]'(by omega) = x at *
      clear hxx
      go_wp2
      go_roundw
      case rel =>
        have := hrow6.set k (x + 1)
        have e : (((x + 1).toNat : Nat) : Int) = ((x.toNat : Int) + 1) % 256 := by simp [UInt8.toNat_add]
        rw [e] at this
        exact ⟨k + 1, lm.set k (x + 1), by omega, by simpa using hlm, by go_num, this, hg7.trans (grown_setCell _ _ _ _)⟩
      case measure => simp [intOf]; omega
    · obtain rfl : k = l.length := by omega
      have hgr7 : w.grownBy wr none := grown_new (hg1.trans hg14) hg7 (Nat.le_trans hg1.size hg2')
      have hd := drewr (World.grownBy.refl wr none)
      clear hrow6
      go_wp2_with fail
      refine reg_open (none) (n := 18) rfl (by kernel_rfl) ?_
      refine reg_take 0 (some 87) (v := ?_) rfl rfl (by kernel_rfl) (by kernel_rfl) (by kernel_rfl) (fun _ _ _ h => h) (by rfl) ?_ ?_
      rotate_left
      · intro W hW; go_simp; first | done | with_reducible rfl
      try simp only [Act.put, List.setIfInBounds_toArray, List.set_cons_zero, List.set_cons_succ]
      refine wpAnyH_ready (rs := [1]) (by kernel_rfl) (by simp) ?_
      refine (AllReadyH.cons (o := { dst := some 88, op := Op.call { callee := Callee.value (Operand.func 15), args := #[Operand.tmp 87], argTypes := #[29] }, type := 3, pos := "law.go:46", after := #[{ on := 0, ground := Ground.data }], guard := none }) rfl (fun K hK => ?_) AllReadyH.nil)
      go_simp
      refine (num_any _ _).mono ?_; rintro e w' ⟨rfl, rfl⟩
      refine reg_same hK ?_
      clear hK K
      try simp only [Act.put, List.setIfInBounds_toArray, List.set_cons_zero, List.set_cons_succ]
      refine reg_take 2 (some 89) (v := ?_) rfl rfl (by kernel_rfl) (by kernel_rfl) (by kernel_rfl) (fun _ _ _ h => h) (by rfl) ?_ ?_
      rotate_left
      · intro W hW; go_simp; first | done | with_reducible rfl
      try simp only [Act.put, List.setIfInBounds_toArray, List.set_cons_zero, List.set_cons_succ]
      refine reg_take 3 (some 90) (v := ?_) rfl rfl (by kernel_rfl) (by kernel_rfl) (by kernel_rfl) (fun _ _ _ h => h) (by rfl) ?_ ?_
      rotate_left
      · intro W hW; go_simp; first | done | with_reducible rfl
      try simp only [Act.put, List.setIfInBounds_toArray, List.set_cons_zero, List.set_cons_succ]
      refine reg_skip 4 (some 91) rfl rfl (by kernel_rfl) (by kernel_rfl) (by kernel_rfl) (fun _ _ _ h => h) (by rfl) ?_
      try simp only [Act.put, List.setIfInBounds_toArray, List.set_cons_zero, List.set_cons_succ]
      refine reg_skip 5 (some 92) rfl rfl (by kernel_rfl) (by kernel_rfl) (by kernel_rfl) (fun _ _ _ h => h) (by rfl) ?_
      try simp only [Act.put, List.setIfInBounds_toArray, List.set_cons_zero, List.set_cons_succ]
      refine reg_skip 6 (some 93) rfl rfl (by kernel_rfl) (by kernel_rfl) (by kernel_rfl) (fun _ _ _ h => h) (by rfl) ?_
      try simp only [Act.put, List.setIfInBounds_toArray, List.set_cons_zero, List.set_cons_succ]
      refine reg_skip 7 (some 94) rfl rfl (by kernel_rfl) (by kernel_rfl) (by kernel_rfl) (fun _ _ _ h => h) (by rfl) ?_
      try simp only [Act.put, List.setIfInBounds_toArray, List.set_cons_zero, List.set_cons_succ]
      refine reg_skip 8 (some 95) rfl rfl (by kernel_rfl) (by kernel_rfl) (by kernel_rfl) (fun _ _ _ h => h) (by rfl) ?_
      try simp only [Act.put, List.setIfInBounds_toArray, List.set_cons_zero, List.set_cons_succ]
      refine reg_skip 9 (some 96) rfl rfl (by kernel_rfl) (by kernel_rfl) (by kernel_rfl) (fun _ _ _ h => h) (by rfl) ?_
      try simp only [Act.put, List.setIfInBounds_toArray, List.set_cons_zero, List.set_cons_succ]
      refine reg_skip 10 (some 97) rfl rfl (by kernel_rfl) (by kernel_rfl) (by kernel_rfl) (fun _ _ _ h => h) (by rfl) ?_
      try simp only [Act.put, List.setIfInBounds_toArray, List.set_cons_zero, List.set_cons_succ]
      refine reg_skip 11 (some 98) rfl rfl (by kernel_rfl) (by kernel_rfl) (by kernel_rfl) (fun _ _ _ h => h) (by rfl) ?_
      try simp only [Act.put, List.setIfInBounds_toArray, List.set_cons_zero, List.set_cons_succ]
      refine reg_skip 12 (some 99) rfl rfl (by kernel_rfl) (by kernel_rfl) (by kernel_rfl) (fun _ _ _ h => h) (by rfl) ?_
      try simp only [Act.put, List.setIfInBounds_toArray, List.set_cons_zero, List.set_cons_succ]
      refine reg_skip 13 (some 100) rfl rfl (by kernel_rfl) (by kernel_rfl) (by kernel_rfl) (fun _ _ _ h => h) (by rfl) ?_
      try simp only [Act.put, List.setIfInBounds_toArray, List.set_cons_zero, List.set_cons_succ]
      refine reg_skip 14 (some 101) rfl rfl (by kernel_rfl) (by kernel_rfl) (by kernel_rfl) (fun _ _ _ h => h) (by rfl) ?_
      try simp only [Act.put, List.setIfInBounds_toArray, List.set_cons_zero, List.set_cons_succ]
      refine reg_skip 15 (some 102) rfl rfl (by kernel_rfl) (by kernel_rfl) (by kernel_rfl) (fun _ _ _ h => h) (by rfl) ?_
      try simp only [Act.put, List.setIfInBounds_toArray, List.set_cons_zero, List.set_cons_succ]
      refine reg_skip 16 (some 103) rfl rfl (by kernel_rfl) (by kernel_rfl) (by kernel_rfl) (fun _ _ _ h => h) (by rfl) ?_
      try simp only [Act.put, List.setIfInBounds_toArray, List.set_cons_zero, List.set_cons_succ]
      refine reg_take 17 (some 104) (v := ?_) rfl rfl (by kernel_rfl) (by kernel_rfl) (by kernel_rfl) (fun _ _ _ h => h) (by rfl) ?_ ?_
      rotate_left
      · intro W hW; go_simp; first | done | with_reducible rfl
      try simp only [Act.put, List.setIfInBounds_toArray, List.set_cons_zero, List.set_cons_succ]
      refine wpAnyH_done (by kernel_rfl) ?_ _
      have hd8 := hd.trans (World.grownBy.refl _ _)
      have hgr8 := hgr7.trans hd8
      rcases HN.out with ⟨p1, p2, rfl, B0, g0, rfl, hB0, hg0, hF0⟩ | ⟨hp, rfl, rfl⟩
      · have q1 : ¬ pages < 1 := by omega
        have q2 : ¬ (32 : Int) < pages := by omega
        have hF9 := ((hF0.keptNone hg14).kept hg7 (by have := hF0.ltB; simp; omega) (by have := hF0.ltg; simp; omega)).keptNone hd8
        have hne0 : List.replicate (pages.toNat * 64) (0 : UInt8) ≠ [] := fun e => by have := congrArg List.length e; simp at this; omega
        have hgr9 := hgr8
        clear hs hF0 hd8 hgr8
        go_wp2_with fail
        have hmk := fun W => mk_bytes W (pages.toNat * 64) (IntKind.i64.wrap (64 * pages)) (by rw [IntKind.wrap_i64]; omega) (by omega)
        have hd9 := drewr (World.grownBy.refl wr.drew none)
        refine reg_open (none) (n := 17) rfl (by kernel_rfl) ?_
        refine reg_take 0 (some 121) (v := ?_) rfl rfl (by kernel_rfl) (by kernel_rfl) (by kernel_rfl) (fun _ _ _ h => h) (by rfl) ?_ ?_
        rotate_left
        · intro W hW; go_simp; first | done | with_reducible rfl
        try simp only [Act.put, List.setIfInBounds_toArray, List.set_cons_zero, List.set_cons_succ]
        refine wpAnyH_ready (rs := [1]) (by kernel_rfl) (by simp) ?_
        refine (AllReadyH.cons (o := { dst := some 122, op := Op.call { callee := Callee.value (Operand.func 15), args := #[Operand.tmp 121], argTypes := #[29] }, type := 3, pos := "law.go:52", after := #[{ on := 0, ground := Ground.data }], guard := none }) rfl (fun K hK => ?_) AllReadyH.nil)
        go_simp
        refine (num_any _ _).mono ?_; rintro e w' ⟨rfl, rfl⟩
        refine reg_same hK ?_
        clear hK K
        try simp only [Act.put, List.setIfInBounds_toArray, List.set_cons_zero, List.set_cons_succ]
        refine reg_take 2 (some 123) (v := ?_) rfl rfl (by kernel_rfl) (by kernel_rfl) (by kernel_rfl) (fun _ _ _ h => h) (by rfl) ?_ ?_
        rotate_left
        · intro W hW; go_simp; first | done | with_reducible rfl
        try simp only [Act.put, List.setIfInBounds_toArray, List.set_cons_zero, List.set_cons_succ]
        refine reg_take 3 (some 124) (v := ?_) rfl rfl (by kernel_rfl) (by kernel_rfl) (by kernel_rfl) (fun _ _ _ h => h) (by rfl) ?_ ?_
        rotate_left
        · intro W hW; go_simp; first | done | with_reducible rfl
        try simp only [Act.put, List.setIfInBounds_toArray, List.set_cons_zero, List.set_cons_succ]
        refine reg_take 4 (some 125) (v := ?_) rfl rfl (by kernel_rfl) (by kernel_rfl) (by kernel_rfl) (fun _ _ _ h => h) (by rfl) ?_ ?_
        rotate_left
        · intro W hW; go_simp; first | done | with_reducible rfl
        try simp only [Act.put, List.setIfInBounds_toArray, List.set_cons_zero, List.set_cons_succ]
        refine reg_take 7 (some 128) (v := ?_) rfl rfl (by kernel_rfl) (by kernel_rfl) (by kernel_rfl) (fun _ _ _ h => h) (by rfl) ?_ ?_
        rotate_left
        · intro W hW; go_simp; first | done | with_reducible rfl
        try simp only [Act.put, List.setIfInBounds_toArray, List.set_cons_zero, List.set_cons_succ]
        refine reg_take 8 (some 129) (v := ?_) rfl rfl (by kernel_rfl) (by kernel_rfl) (by kernel_rfl) (fun _ _ _ h => h) (by rfl) ?_ ?_
        rotate_left
        · intro W hW; go_simp; first | done | with_reducible rfl
        try simp only [Act.put, List.setIfInBounds_toArray, List.set_cons_zero, List.set_cons_succ]
        refine wpAnyH_ready (rs := [5, 9]) (by kernel_rfl) (by simp) ?_
        refine (AllReadyH.cons (o := { dst := some 126, op := Op.call { callee := Callee.value (Operand.func 20), args := #[Operand.tmp 125], argTypes := #[28] }, type := 22, pos := "law.go:52", after := #[{ on := 4, ground := Ground.data }, { on := 3, ground := Ground.chain }, { on := 3, ground := Ground.guard }], guard := some (3, true) }) rfl (fun K hK => ?_) (AllReadyH.cons (o := { dst := some 130, op := Op.makeSlice 22 (Operand.tmp 129) (Operand.tmp 129), type := 22, pos := "law.go:52", after := #[{ on := 8, ground := Ground.data }, { on := 8, ground := Ground.data }, { on := 3, ground := Ground.guard }], guard := some (3, true) }) rfl (fun K hK => ?_) AllReadyH.nil))
        · go_simp
          refine (bytes_any B0 g0 _ _ (hF9.keptNone (hd9.trans (World.grownBy.refl _ _))) (by simp; omega) hne0).mono ?_; rintro e u1b ⟨q1, d1, rfl, hq1, r1, h1⟩
          refine reg_next hK h1 ?_
          clear hK K
          try simp only [Act.put, List.setIfInBounds_toArray, List.set_cons_zero, List.set_cons_succ]
          refine reg_take 6 (some 127) (v := ?_) rfl rfl (by kernel_rfl) (by kernel_rfl) (by kernel_rfl) (fun _ _ _ h => h) (by rfl) ?_ ?_
          rotate_left
          · intro W hW; have k1 := conv_src (cap := d1) (r1.kept hW (by simp)).src; rw [List.length_replicate] at k1; go_simp; first | done | with_reducible rfl
          try simp only [Act.put, List.setIfInBounds_toArray, List.set_cons_zero, List.set_cons_succ]
          refine wpAnyH_ready (rs := [9]) (by kernel_rfl) (by simp) ?_
          refine (AllReadyH.cons (o := { dst := some 130, op := Op.makeSlice 22 (Operand.tmp 129) (Operand.tmp 129), type := 22, pos := "law.go:52", after := #[{ on := 8, ground := Ground.data }, { on := 8, ground := Ground.data }, { on := 3, ground := Ground.guard }], guard := some (3, true) }) rfl (fun K hK => ?_) AllReadyH.nil)
          go_simp
          have r2 := Row.new u1b (List.replicate (pages.toNat * 64) 0) (by simp [maxLen]; omega); have h2 := World.grownBy_alloc u1b (.cells (bsV (List.replicate (pages.toNat * 64) 0)).toArray 5) none; rw [List.length_replicate] at r2; change Row _ u1b.heap.size _ _ at r2
          refine reg_next hK h2 ?_
          clear hK K
          try simp only [Act.put, List.setIfInBounds_toArray, List.set_cons_zero, List.set_cons_succ]
          refine reg_take 10 (some 131) (v := ?_) rfl rfl (by kernel_rfl) (by kernel_rfl) (by kernel_rfl) (fun _ _ _ h => h) (by rfl) ?_ ?_
          rotate_left
          · intro W hW; have k1 := conv_src (cap := pages.toNat * 64) (r2.kept hW (by simp)).src; rw [List.length_replicate] at k1; go_simp; first | done | with_reducible rfl
          try simp only [Act.put, List.setIfInBounds_toArray, List.set_cons_zero, List.set_cons_succ]
          refine reg_take 11 (some 132) (v := ?_) rfl rfl (by kernel_rfl) (by kernel_rfl) (by kernel_rfl) (fun _ _ _ h => h) (by rfl) ?_ ?_
          rotate_left
          · intro W hW; go_simp; first | done | with_reducible rfl
          try simp only [Act.put, List.setIfInBounds_toArray, List.set_cons_zero, List.set_cons_succ]
          refine reg_take 12 (some 133) (v := ?_) rfl rfl (by kernel_rfl) (by kernel_rfl) (by kernel_rfl) (fun _ _ _ h => h) (by rfl) ?_ ?_
          rotate_left
          · intro W hW; go_simp; first | done | with_reducible rfl
          try simp only [Act.put, List.setIfInBounds_toArray, List.set_cons_zero, List.set_cons_succ]
          refine reg_take 13 (some 134) (v := ?_) rfl rfl (by kernel_rfl) (by kernel_rfl) (by kernel_rfl) (fun _ _ _ h => h) (by rfl) ?_ ?_
          rotate_left
          · intro W hW; go_simp; first | done | with_reducible rfl
          try simp only [Act.put, List.setIfInBounds_toArray, List.set_cons_zero, List.set_cons_succ]
          refine wpAnyH_ready (rs := [14]) (by kernel_rfl) (by simp) ?_
          refine (AllReadyH.cons (o := { dst := some 135, op := Op.call { callee := Callee.value (Operand.func 10), args := #[], argTypes := #[] }, type := 4, pos := "law.go:52", after := #[{ on := 13, ground := Ground.chain }, { on := 13, ground := Ground.guard }], guard := some (13, true) }) rfl (fun K hK => ?_) AllReadyH.nil)
          go_simp
          refine (works_any _).mono ?_; rintro e u3 ⟨rfl, h3⟩
          refine reg_next hK h3 ?_
          clear hK K
          try simp only [Act.put, List.setIfInBounds_toArray, List.set_cons_zero, List.set_cons_succ]
          refine reg_take 15 (some 136) (v := ?_) rfl rfl (by kernel_rfl) (by kernel_rfl) (by kernel_rfl) (fun _ _ _ h => h) (by rfl) ?_ ?_
          rotate_left
          · intro W hW; go_simp; first | done | with_reducible rfl
          try simp only [Act.put, List.setIfInBounds_toArray, List.set_cons_zero, List.set_cons_succ]
          refine reg_take 16 (some 4) (v := ?_) rfl rfl (by kernel_rfl) (by kernel_rfl) (by kernel_rfl) (fun _ _ _ h => h) (by rfl) ?_ ?_
          rotate_left
          · intro W hW; go_simp; first | done | with_reducible rfl
          try simp only [Act.put, List.setIfInBounds_toArray, List.set_cons_zero, List.set_cons_succ]
          refine wpAnyH_done (by kernel_rfl) ?_ _
          go_wp2
          go_ret
          exact ⟨rfl, hgr9.trans (hd9.trans (h1.trans (h2.trans h3)))⟩
        · go_simp
          have r2 := Row.new wr.drew.drew (List.replicate (pages.toNat * 64) 0) (by simp [maxLen]; omega); have h2 := World.grownBy_alloc wr.drew.drew (.cells (bsV (List.replicate (pages.toNat * 64) 0)).toArray 5) none; rw [List.length_replicate] at r2; change Row _ wr.heap.size _ _ at r2
          refine reg_next hK h2 ?_
          clear hK K
          try simp only [Act.put, List.setIfInBounds_toArray, List.set_cons_zero, List.set_cons_succ]
          refine reg_take 10 (some 131) (v := ?_) rfl rfl (by kernel_rfl) (by kernel_rfl) (by kernel_rfl) (fun _ _ _ h => h) (by rfl) ?_ ?_
          rotate_left
          · intro W hW; have k1 := conv_src (cap := pages.toNat * 64) (r2.kept hW (by simp)).src; rw [List.length_replicate] at k1; go_simp; first | done | with_reducible rfl
          try simp only [Act.put, List.setIfInBounds_toArray, List.set_cons_zero, List.set_cons_succ]
          refine wpAnyH_ready (rs := [5]) (by kernel_rfl) (by simp) ?_
          refine (AllReadyH.cons (o := { dst := some 126, op := Op.call { callee := Callee.value (Operand.func 20), args := #[Operand.tmp 125], argTypes := #[28] }, type := 22, pos := "law.go:52", after := #[{ on := 4, ground := Ground.data }, { on := 3, ground := Ground.chain }, { on := 3, ground := Ground.guard }], guard := some (3, true) }) rfl (fun K hK => ?_) AllReadyH.nil)
          go_simp
          refine (bytes_any B0 g0 _ _ (hF9.keptNone (hd9.trans h2)) (by simp; omega) hne0).mono ?_; rintro e u1b ⟨q1, d1, rfl, hq1, r1, h1⟩
          refine reg_next hK h1 ?_
          clear hK K
          try simp only [Act.put, List.setIfInBounds_toArray, List.set_cons_zero, List.set_cons_succ]
          refine reg_take 6 (some 127) (v := ?_) rfl rfl (by kernel_rfl) (by kernel_rfl) (by kernel_rfl) (fun _ _ _ h => h) (by rfl) ?_ ?_
          rotate_left
          · intro W hW; have k1 := conv_src (cap := d1) (r1.kept hW (by simp)).src; rw [List.length_replicate] at k1; go_simp; first | done | with_reducible rfl
          try simp only [Act.put, List.setIfInBounds_toArray, List.set_cons_zero, List.set_cons_succ]
          refine reg_take 11 (some 132) (v := ?_) rfl rfl (by kernel_rfl) (by kernel_rfl) (by kernel_rfl) (fun _ _ _ h => h) (by rfl) ?_ ?_
          rotate_left
          · intro W hW; go_simp; first | done | with_reducible rfl
          try simp only [Act.put, List.setIfInBounds_toArray, List.set_cons_zero, List.set_cons_succ]
          refine reg_take 12 (some 133) (v := ?_) rfl rfl (by kernel_rfl) (by kernel_rfl) (by kernel_rfl) (fun _ _ _ h => h) (by rfl) ?_ ?_
          rotate_left
          · intro W hW; go_simp; first | done | with_reducible rfl
          try simp only [Act.put, List.setIfInBounds_toArray, List.set_cons_zero, List.set_cons_succ]
          refine reg_take 13 (some 134) (v := ?_) rfl rfl (by kernel_rfl) (by kernel_rfl) (by kernel_rfl) (fun _ _ _ h => h) (by rfl) ?_ ?_
          rotate_left
          · intro W hW; go_simp; first | done | with_reducible rfl
          try simp only [Act.put, List.setIfInBounds_toArray, List.set_cons_zero, List.set_cons_succ]
          refine wpAnyH_ready (rs := [14]) (by kernel_rfl) (by simp) ?_
          refine (AllReadyH.cons (o := { dst := some 135, op := Op.call { callee := Callee.value (Operand.func 10), args := #[], argTypes := #[] }, type := 4, pos := "law.go:52", after := #[{ on := 13, ground := Ground.chain }, { on := 13, ground := Ground.guard }], guard := some (13, true) }) rfl (fun K hK => ?_) AllReadyH.nil)
          go_simp
          refine (works_any _).mono ?_; rintro e u3 ⟨rfl, h3⟩
          refine reg_next hK h3 ?_
          clear hK K
          try simp only [Act.put, List.setIfInBounds_toArray, List.set_cons_zero, List.set_cons_succ]
          refine reg_take 15 (some 136) (v := ?_) rfl rfl (by kernel_rfl) (by kernel_rfl) (by kernel_rfl) (fun _ _ _ h => h) (by rfl) ?_ ?_
          rotate_left
          · intro W hW; go_simp; first | done | with_reducible rfl
          try simp only [Act.put, List.setIfInBounds_toArray, List.set_cons_zero, List.set_cons_succ]
          refine reg_take 16 (some 4) (v := ?_) rfl rfl (by kernel_rfl) (by kernel_rfl) (by kernel_rfl) (fun _ _ _ h => h) (by rfl) ?_ ?_
          rotate_left
          · intro W hW; go_simp; first | done | with_reducible rfl
          try simp only [Act.put, List.setIfInBounds_toArray, List.set_cons_zero, List.set_cons_succ]
          refine wpAnyH_done (by kernel_rfl) ?_ _
          go_wp2
          go_ret
          exact ⟨rfl, hgr9.trans (hd9.trans (h2.trans (h1.trans h3)))⟩
      · rcases hp with hp | hp
        · go_wp2_with fail
          refine (num_any _ _).mono ?_; rintro e w' ⟨rfl, rfl⟩
          go_wp2_with fail
          refine (works_any _).mono ?_; rintro e u3 ⟨rfl, h3⟩
          go_wp2
          go_ret
          exact ⟨rfl, hgr8.trans h3⟩
        · have hp' : ¬ pages < 1 := by omega
          go_wp2_with fail
          refine (num_any _ _).mono ?_; rintro e w' ⟨rfl, rfl⟩
          go_wp2_with fail
          refine (works_any _).mono ?_; rintro e u3 ⟨rfl, h3⟩
          go_wp2
          go_ret
          exact ⟨rfl, hgr8.trans h3⟩
end Go.Proofs.Ytfldcclnfagmpaa
