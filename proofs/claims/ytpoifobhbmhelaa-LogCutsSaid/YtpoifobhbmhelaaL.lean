import Derived.Test.YtpoifobhbmhelaaK
set_option linter.unusedVariables false
set_option linter.unusedSimpArgs false
namespace Go.Proofs.Ytpoifobhbmhelaa
open Go.RowKit
set_option maxRecDepth 100000 in
set_option maxHeartbeats 4000000 in
theorem rbody_b4k (x : Option Addr) (cap : Nat) (l : List UInt8) (last : Int) (w : World) (hs : Go.Proofs.Ytpoifobhbmhelaa.Src w x l) (hcap : l.length ≤ cap) (hl : l.length ≤ 1000000) (h0 : 0 ≤ last) (h1 : last ≤ 4611686018427387904) (c : UInt8) (t : List UInt8) (hlt : l = c :: t) (h3 : ¬ l.length < 3) (y : Nat) (u : List UInt8) (ht : take t = .num y u) (hy : (y : Int) ≤ 4611686018427387904 - last) (n0 : Nat) (v0 : List UInt8) (hu : take u = .num n0 v0) (hn0 : n0 < 65536) (hR : ¬ Rt (last + y) c.toNat n0 v0.length) (h8 : ¬ c.toNat = 8) : Calls Try.prog 39 #[.slice x l.length cap, .int .i64 last] w fun e w' => BodyDo w (decB l last) e w' := by
  have HO := Lib.hid (show decB l last = none from by rw [hlt]; exact decB_b3 ht hu (fun h => h.2.elim hR (fun k => h8 k.1)))
  have HRT := Lib.hid hR
  have HB0 := Lib.hid (show ∀ b o, x = some ⟨b, o, none⟩ → b < w.heap.size from fun b o e => Go.Proofs.Ytpoifobhbmhelaa.Src.lt (e ▸ hs) (by rw [hlt]; simp))
  have HR0 := Lib.hid (heap_alloc_new w (.cells rz.toArray 25))
  have HG0 := Lib.hid (World.grownBy_alloc w (.cells rz.toArray 25) none)
  obtain ⟨n, hn⟩ : ∃ n, n = l.length := ⟨_, rfl⟩
  have hat : 1 ≤ l.length := by omega
  have ht' : take (l.drop 1) = .num y u := by rw [hlt]; exact ht
  have C1 := rtake_any x cap l 1 (w.alloc (.cells rz.toArray 25)) (hs.keptNone HG0.out) hat hl
  rw [ht'] at C1
  rw [← hn] at h3 ⊢ C1
  have h3' : ¬ (n : Int) < 3 := by omega
  have HYB := Lib.hid (take_inv ht).2
  have HDR := Lib.hid (take_drop hat ht')
  have hul : u.length < n := by have := take_lt ht; rw [hn, hlt]; simp; omega
  obtain ⟨A1, hA1⟩ : ∃ A1, A1 = n - u.length := ⟨_, rfl⟩
  have hA2 : A1 ≤ l.length := by omega
  have C2 := rtake_any x cap l A1 (w.alloc (.cells rz.toArray 25)) (hs.keptNone HG0.out) hA2 hl
  rw [show l.drop A1 = u from by rw [hA1, hn]; exact HDR.out, ← hn] at C2
  unfold tkRes at C1
  simp only at C1
  rw [← hA1] at C1
  have hp1 : ¬ (A1 : Int) ≤ 0 := by omega
  have hp2 : 0 < A1 := by omega
  have hp3 : ¬ A1 = 0 := by omega
  obtain ⟨D, hD⟩ : ∃ D : Int, D = 4611686018427387904 - last := ⟨_, rfl⟩
  have hsub : IntKind.i64.wrap (4611686018427387904 - last) = D := by rw [IntKind.wrap_i64]; omega
  have HDD := Lib.hid hD
  have HA1 := Lib.hid hA1
  have HN := Lib.hid hn
  have hyD : ¬ D < (y : Int) := by omega
  have HUV := Lib.hid (take_lt hu)
  have HDR2 := Lib.hid (show l.drop (n - v0.length) = v0 from by
    have := take_drop (l := l) (k := A1) (r := v0) (n := n0) hA2 (by rw [hA1, hn, HDR.out]; exact hu)
    rw [hn]; exact this)
  rw [hu] at C2
  unfold tkRes at C2
  simp only at C2
  have hvl : v0.length < n := by have := HUV.out; omega
  obtain ⟨A2, hA3⟩ : ∃ A2, A2 = n - v0.length := ⟨_, rfl⟩
  rw [← hA3] at C2 HDR2
  have hr1 : ¬ (A2 : Int) ≤ 0 := by omega
  have hr2 : 0 < A2 := by omega
  have hr3 : ¬ A2 = 0 := by omega
  have HA2 := Lib.hid hA3
  have HVL := Lib.hid hvl
  obtain ⟨m, hm⟩ : ∃ m, m = v0.length := ⟨_, rfl⟩
  obtain ⟨x3, c3, hsl, hc3, hs3⟩ := src_from hs hcap A2 (by omega)
  rw [HDR2.out] at hs3
  obtain ⟨b, o, hx, hcb⟩ := src_some hs (by rw [hlt]; simp)
  obtain ⟨d, hd⟩ : ∃ d : Nat, d = c.toNat := ⟨_, rfl⟩
  have hd256 : d < 256 := by rw [hd]; exact c.toNat_lt
  have hwd : IntKind.i64.wrap (d : Int) = (d : Int) := by rw [IntKind.wrap_i64]; omega
  have HKC := Lib.hid (show (w.alloc (.cells rz.toArray 25)).cell? ⟨b, o, none⟩ = some (.int .u8 (d : Int)) from by
    have := hcb 0 (by omega)
    rw [hd]
    refine keep_cell HG0.out (this.trans ?_)
    simp [hlt])
  have HSL := Lib.hid (show Value.slice x3 m c3 = sliced x A2 n cap 1 from by rw [hm, hn, hsl]; congr 1; omega)
  have HS3 := Lib.hid (hs3.keptNone HG0.out)
  have HM1 := Lib.hid (show m ≤ 1000000 from by rw [hm]; omega)
  have HA2N := Lib.hid (show A2 ≤ n from by omega)
  obtain ⟨A, hA⟩ : ∃ A : Int, A = last + y := ⟨_, rfl⟩
  have hadd : IntKind.i64.wrap (last + (y : Int)) = A := by rw [IntKind.wrap_i64]; omega
  have hnb : ¬ (65535 : Int) < (n0 : Nat) := by omega
  have hRt : decide (Rt A d n0 m) = false := decide_eq_false (by rw [hA, hd, hm]; exact hR)
  have HAA := Lib.hid hA
  have HD := Lib.hid hd
  have HM := Lib.hid hm
  have HONE := Lib.hid (bs_one v0)
  have HBK := Lib.hid (HB0.out b o hx)
  clear HB0
  have hnp : 0 < n := by omega
  have e8 : ((d : Int) == 8) = false := by simp; omega
  clear h8
  subst hx
  clear hy hu hn0 hR
  clear hm hsl hc3 hs3 hcb hd hA
  clear hvl hA3
  clear hul hA1 hA2 hD hn h3 hat ht' hlt ht hs hcap hl h0 h1
  go_enter Try.func39, Try.ntmps39
  go_wp2_with fail
  refine C1.mono ?_; rintro e w2 ⟨rfl, rfl⟩
  clear C1
  go_wp2_with fail
  refine C2.mono ?_; rintro e w2 ⟨rfl, rfl⟩
  clear C2
  go_wp2
  refine regx_open (fun k => w.heap.size + 1 ≤ k) (n := 16) rfl (by kernel_rfl) ?_
  refine regx_take 0 (some 42) (v := ?_) rfl rfl (by kernel_rfl) (by kernel_rfl) (by kernel_rfl) (fun _ _ _ h => h) (by rfl) ?_ ?_
  rotate_left
  · intro W hW; go_simp; first | done | with_reducible rfl
  try simp only [Act.put, List.setIfInBounds_toArray, List.set_cons_zero, List.set_cons_succ]
  refine regx_take 1 (some 43) (v := ?_) rfl rfl (by kernel_rfl) (by kernel_rfl) (by kernel_rfl) (fun _ _ _ h => h) (by rfl) ?_ ?_
  rotate_left
  · intro W hW; go_simp; first | done | with_reducible rfl
  try simp only [Act.put, List.setIfInBounds_toArray, List.set_cons_zero, List.set_cons_succ]
  refine regx_take 2 (some 44) (v := ?_) rfl rfl (by kernel_rfl) (by kernel_rfl) (by kernel_rfl) (fun _ _ _ h => h) (by rfl) ?_ ?_
  rotate_left
  · intro W hW; go_simp; first | done | with_reducible rfl
  try simp only [Act.put, List.setIfInBounds_toArray, List.set_cons_zero, List.set_cons_succ]
  refine regx_take 3 (some 45) (v := ?_) rfl rfl (by kernel_rfl) (by kernel_rfl) (by kernel_rfl) (fun _ _ _ h => h) (by rfl) ?_ ?_
  rotate_left
  · intro W hW; go_simp; first | done | with_reducible rfl
  try simp only [Act.put, List.setIfInBounds_toArray, List.set_cons_zero, List.set_cons_succ]
  refine regx_take 4 (some 46) (v := ?_) rfl rfl (by kernel_rfl) (by kernel_rfl) (by kernel_rfl) (fun _ _ _ h => h) (by rfl) ?_ ?_
  rotate_left
  · intro W hW; go_simp; first | done | with_reducible rfl
  try simp only [Act.put, List.setIfInBounds_toArray, List.set_cons_zero, List.set_cons_succ]
  refine regx_take 5 (some 47) (v := ?_) rfl rfl (by kernel_rfl) (by kernel_rfl) (by kernel_rfl) (fun _ _ _ h => h) (by rfl) ?_ ?_
  rotate_left
  · intro W hW; have k := keeps_cell hW (show (w.alloc (.cells rz.toArray 25)).drew.cell? ⟨b, o, none⟩ = some (.int .u8 (d : Int)) from HKC.out) (by have := HBK.out; simp; omega); go_simp; first | done | with_reducible rfl
  try simp only [Act.put, List.setIfInBounds_toArray, List.set_cons_zero, List.set_cons_succ]
  refine regx_take 6 (some 48) (v := ?_) rfl rfl (by kernel_rfl) (by kernel_rfl) (by kernel_rfl) (fun _ _ _ h => h) (by rfl) ?_ ?_
  rotate_left
  · intro W hW; go_simp; first | done | with_reducible rfl
  try simp only [Act.put, List.setIfInBounds_toArray, List.set_cons_zero, List.set_cons_succ]
  refine regx_take 7 (some 49) (v := ?_) rfl rfl (by kernel_rfl) (by kernel_rfl) (by kernel_rfl) (fun _ _ _ h => h) (by rfl) ?_ ?_
  rotate_left
  · intro W hW; go_simp; first | done | with_reducible rfl
  try simp only [Act.put, List.setIfInBounds_toArray, List.set_cons_zero, List.set_cons_succ]
  refine regx_take 9 (some 51) (v := ?_) rfl rfl (by kernel_rfl) (by kernel_rfl) (by kernel_rfl) (fun _ _ _ h => h) (by rfl) ?_ ?_
  rotate_left
  · intro W hW; go_simp; first | done | with_reducible rfl
  try simp only [Act.put, List.setIfInBounds_toArray, List.set_cons_zero, List.set_cons_succ]
  refine regx_take 10 (some 52) (v := ?_) rfl rfl (by kernel_rfl) (by kernel_rfl) (by kernel_rfl) (fun _ _ _ h => h) (by rfl) ?_ ?_
  rotate_left
  · intro W hW; go_simp; first | done | with_reducible rfl
  try simp only [Act.put, List.setIfInBounds_toArray, List.set_cons_zero, List.set_cons_succ]
  refine regx_take 11 (some 53) (v := ?_) rfl rfl (by kernel_rfl) (by kernel_rfl) (by kernel_rfl) (fun _ _ _ h => h) (by rfl) ?_ ?_
  rotate_left
  · intro W hW; refine exec_sl eB elemB (x := .tmp 51) (y := .tmp 52) ?_ (some ⟨b, o, none⟩) n cap A2 ?_ ?_ HA2N.out _ (.slice x3 m c3) HSL.out <;> rfl
  try simp only [Act.put, List.setIfInBounds_toArray, List.set_cons_zero, List.set_cons_succ]
  refine wpAnyH_ready (rs := [8, 14]) (by kernel_rfl) (by simp) ?_
  refine (AllReadyH.cons (o := { dst := some 50, op := Op.buildSlice 23 0 #[], type := 23, pos := "ref.go:127", after := #[], guard := none }) rfl (fun K hK => ?_) (AllReadyH.cons (o := { dst := some 10, op := Op.alloc 25, type := 0, pos := "ref.go:127", after := #[], guard := none }) rfl (fun K hK => ?_) AllReadyH.nil))
  · go_simp
    have hn5 := Gs.empty (w.alloc (.cells rz.toArray 25)).drew; simp at hn5; have hm5 := World.grownBy_alloc (w.alloc (.cells rz.toArray 25)).drew (.cells #[] 5) none; have hz5 := heap_alloc_new (w.alloc (.cells rz.toArray 25)).drew (.cells #[] 5); have hx5 : w.heap.size + 1 ≤ (w.alloc (.cells rz.toArray 25)).drew.heap.size := (by simp)
    refine regx_next hK (Keeps.keep hm5) ?_
    clear hK K
    try simp only [Act.put, List.setIfInBounds_toArray, List.set_cons_zero, List.set_cons_succ]
    refine wpAnyH_ready (rs := [12, 14]) (by kernel_rfl) (by simp) ?_
    refine (AllReadyH.cons (o := { dst := some 54, op := Op.call { callee := Callee.builtin Builtin.append, args := #[Operand.tmp 50, Operand.tmp 53], argTypes := #[23, 23] }, type := 23, pos := "ref.go:127", after := #[{ on := 8, ground := Ground.data }, { on := 11, ground := Ground.data }], guard := none }) rfl (fun K hK => ?_) (AllReadyH.cons (o := { dst := some 10, op := Op.alloc 25, type := 0, pos := "ref.go:127", after := #[], guard := none }) rfl (fun K hK => ?_) AllReadyH.nil))
    · first | refine wp_gs eB 23 (.tmp 50) (.tmp 53) rfl (.slice (some ⟨w.heap.size + 1, 0, none⟩) 0 0) _ 0 m [] (bsV v0) (by rfl) (by rfl) ?ggu83 (src_gon (c := c3) HM.out ?gsu83) HONE.out (by have := HM1.out; omega) ?_ | refine wp_gs eB 23 (.tmp 50) (.tmp 53) rfl (.slice (some ⟨w.heap.size + 1 + 1, 0, none⟩) 0 0) _ 0 m [] (bsV v0) (by rfl) (by rfl) ?ggu83 (src_gon (c := c3) HM.out ?gsu83) HONE.out (by have := HM1.out; omega) ?_
      case ggu83 => first | exact hn5 | exact hn5.keptNone ⟨rfl, rfl, rfl, by simp, fun k hk _ => heap_alloc_old _ _ (by simpa using hk)⟩
      case gsu83 => exact HS3.out.keptNone (drewl (Keeps.toGrown (X := fun k => w.heap.size + 1 ≤ k) (Keeps.keep hm5) (by intro i hi; simp at hi ⊢; omega)))
      intro v4 u4 hQ4 hg4 hr4
      obtain ⟨a4, c4, hv4, _⟩ := hQ4.shape
      rw [Nat.zero_add] at hv4
      subst hv4
      first | have hk54 : World.grownBy _ u4 (some (w.heap.size + 1)) := hg4 | have hk54 : World.grownBy _ u4 (some (w.heap.size + 1 + 1)) := hg4
      refine regx_next hK (Keeps.of hk54 (fun r e => by cases e; first | exact hx5 | (simp <;> omega))) ?_
      clear hK K
      try simp only [Act.put, List.setIfInBounds_toArray, List.set_cons_zero, List.set_cons_succ]
      refine regx_take 13 (some 55) (v := ?_) rfl rfl (by kernel_rfl) (by kernel_rfl) (by kernel_rfl) (fun _ _ _ h => h) (by rfl) ?_ ?_
      rotate_left
      · intro W hW; go_simp; first | done | with_reducible rfl
      try simp only [Act.put, List.setIfInBounds_toArray, List.set_cons_zero, List.set_cons_succ]
      refine wpAnyH_ready (rs := [14]) (by kernel_rfl) (by simp) ?_
      refine (AllReadyH.cons (o := { dst := some 10, op := Op.alloc 25, type := 0, pos := "ref.go:127", after := #[], guard := none }) rfl (fun K hK => ?_) AllReadyH.nil)
      go_simp
      have hn := heap_alloc_new u4 (.cells rz.toArray 25); have hm := World.grownBy_alloc u4 (.cells rz.toArray 25) none; have hx10 : w.heap.size + 1 ≤ u4.heap.size := (by first | simp | (have := hk54.size; simp at this; omega))
      refine regx_next hK (Keeps.keep hm) ?_
      clear hK K
      try simp only [Act.put, List.setIfInBounds_toArray, List.set_cons_zero, List.set_cons_succ]
      refine wpAnyH_ready (rs := [15]) (by kernel_rfl) (by simp) ?_
      refine (AllReadyH.cons (o := { dst := none, op := Op.store 25 (Operand.tmp 10) (Operand.tmp 55), type := 0, pos := "ref.go:127", after := #[{ on := 14, ground := Ground.data }, { on := 13, ground := Ground.data }, { on := 12, ground := Ground.chain }, { on := 0, ground := Ground.phase }, { on := 1, ground := Ground.phase }, { on := 2, ground := Ground.phase }, { on := 3, ground := Ground.phase }, { on := 4, ground := Ground.phase }, { on := 5, ground := Ground.phase }, { on := 6, ground := Ground.phase }, { on := 7, ground := Ground.phase }, { on := 8, ground := Ground.phase }, { on := 9, ground := Ground.phase }, { on := 10, ground := Ground.phase }, { on := 11, ground := Ground.phase }, { on := 12, ground := Ground.phase }, { on := 13, ground := Ground.phase }, { on := 14, ground := Ground.phase }], guard := none }) rfl (fun K hK => ?_) AllReadyH.nil)
      first | have hz9 : (u4.alloc (.cells rz.toArray 25)).heap[u4.heap.size]? = some (.cells rz.toArray 25 (0, 0)) := hn | have hz9 : u4.heap[w.heap.size + 1 + 1]? = some (.cells rz.toArray 25 (0, 0)) := (by have hz7 := hn; rw [show ((w.alloc (.cells rz.toArray 25)).drew.alloc (.cells #[] 5)).heap.size = w.heap.size + 1 + 1 from (World.size_alloc _ _).trans (congrArg (· + 1) (World.size_alloc w _))] at hz7; exact (hk54.block _ (by simp) (by simp)).trans hz7) | have hz9 : u4.heap[w.heap.size + 1]? = some (.cells rz.toArray 25 (0, 0)) := (by have hz7 := keep_blk hm5 hn; rw [show (w.alloc (.cells rz.toArray 25)).drew.heap.size = w.heap.size + 1 from World.size_alloc w _] at hz7; exact (hk54.block _ (by simp) (by simp)).trans hz7)
      refine wp_store_all 25 _ _ rfl ?bu87 ?csu87 ?hxu87 ?hyu87 rz 25 ?hzu87 ?hfu87 4 ?hnu87 Try.size25 ?h1u87 ?_
      case hyu87 => exact rfl
      case hxu87 => exact rfl
      case hzu87 => exact hz9
      case hfu87 => exact rfl
      case hnu87 => exact rfl
      case h1u87 => simp [allOne, Value.oneCell']
      intro u9 hb9 h9
      refine regx_next hK (Keeps.row h9 (by first | exact hx10 | (simp <;> omega))) ?_
      clear hK K
      try simp only [Act.put]
      refine wpAnyH_done (by kernel_rfl) ?_ _
      have hk9 : Keeps (fun k => w.heap.size + 1 ≤ k) (w.alloc (.cells rz.toArray 25)).drew u9 := ((Keeps.keep hm5).trans ((Keeps.of hk54 (fun r e => by cases e; first | exact hx5 | (simp <;> omega))).trans ((Keeps.keep hm).trans (Keeps.row h9 (by first | exact hx10 | (simp <;> omega))))))
      have HQ9 := Lib.hid (gs_end hQ4 (by first | exact World.grownBy.refl _ _ | exact World.grownBy_alloc _ _ _) hz9 h9)
      have HR9 := Lib.hid (show ∀ k, rowOf (.slice a4 m c4) = some k → w.heap.size ≤ k from fun k hk => by rcases hr4 with h | h <;> (rw [h] at hk; cases hk; simp <;> omega))
      have HB9 := Lib.hid hb9
      have HBN := Lib.hid (nb (S := w.heap.size) hb9 (by first | (simp <;> omega) | (have := hx10; omega)))
      have HS9 := Lib.hid ((hk9.block w.heap.size (by simp) (by simp)).trans HR0.out)
      have HG9 := Lib.hid (HG0.out.trans (drewl (hk9.toGrown (by intro i hi; simp at hi ⊢; omega))))
      have HKC9 := Lib.hid (keeps_cell hk9 (show (w.alloc (.cells rz.toArray 25)).drew.cell? ⟨b, o, none⟩ = some (.int .u8 (d : Int)) from HKC.out) (by have := HBK.out; simp; omega))
      clear hk9 hQ4 hr4 hb9 h9 hk54 hg4 hz9 hn hm hn5 hm5 hz5 hx5 hx10
      go_wp2
      refine regx_open (fun k => k = w.heap.size) (n := 22) rfl (by kernel_rfl) ?_
      refine regx_take 0 (some 56) (v := ?_) rfl rfl (by kernel_rfl) (by kernel_rfl) (by kernel_rfl) (fun _ _ _ h => h) (by rfl) ?_ ?_
      rotate_left
      · intro W hW; refine exec_ld25 (x := .tmp 10) ?_ ?_ (((hW).block _ (lt_of_block HB9.out) HBN.out).trans HB9.out) <;> rfl
      try simp only [Act.put, List.setIfInBounds_toArray, List.set_cons_zero, List.set_cons_succ]
      refine regx_take 1 (some 57) (v := ?_) rfl rfl (by kernel_rfl) (by kernel_rfl) (by kernel_rfl) (fun _ _ _ h => h) (by rfl) ?_ ?_
      rotate_left
      · intro W hW; refine exec_ld25 (x := .tmp 10) ?_ ?_ (((hW).block _ (lt_of_block HB9.out) HBN.out).trans HB9.out) <;> rfl
      try simp only [Act.put, List.setIfInBounds_toArray, List.set_cons_zero, List.set_cons_succ]
      refine wpAnyH_ready (rs := [2]) (by kernel_rfl) (by simp) ?_
      refine (AllReadyH.cons (o := { dst := some 58, op := Op.call { callee := Callee.value (Operand.func 12), args := #[Operand.tmp 57], argTypes := #[25] }, type := 4, pos := "ref.go:128", after := #[{ on := 1, ground := Ground.data }], guard := none }) rfl (fun K hK => ?_) AllReadyH.nil)
      go_simp
      refine (rright_any A d n0 a4 m c4 _).mono ?_; rintro e v1 ⟨rfl, hv1⟩
      simp only [hRt]
      refine regx_next hK (Keeps.keep hv1) ?_
      clear hK K
      try simp only [Act.put, List.setIfInBounds_toArray, List.set_cons_zero, List.set_cons_succ]
      refine regx_take 3 (some 59) (v := ?_) rfl rfl (by kernel_rfl) (by kernel_rfl) (by kernel_rfl) (fun _ _ _ h => h) (by rfl) ?_ ?_
      rotate_left
      · intro W hW; go_simp; first | done | with_reducible rfl
      try simp only [Act.put, List.setIfInBounds_toArray, List.set_cons_zero, List.set_cons_succ]
      refine regx_take 4 (some 60) (v := ?_) rfl rfl (by kernel_rfl) (by kernel_rfl) (by kernel_rfl) (fun _ _ _ h => h) (by rfl) ?_ ?_
      rotate_left
      · intro W hW; go_simp; first | done | with_reducible rfl
      try simp only [Act.put, List.setIfInBounds_toArray, List.set_cons_zero, List.set_cons_succ]
      refine regx_take 5 (some 61) (v := ?_) rfl rfl (by kernel_rfl) (by kernel_rfl) (by kernel_rfl) (fun _ _ _ h => h) (by rfl) ?_ ?_
      rotate_left
      · intro W hW; go_simp; first | done | with_reducible rfl
      try simp only [Act.put, List.setIfInBounds_toArray, List.set_cons_zero, List.set_cons_succ]
      refine regx_take 6 (some 62) (v := ?_) rfl rfl (by kernel_rfl) (by kernel_rfl) (by kernel_rfl) (fun _ _ _ h => h) (by rfl) ?_ ?_
      rotate_left
      · intro W hW; have k := keeps_cell ((Keeps.keep hv1).trans hW) (show u9.drew.cell? ⟨b, o, none⟩ = some (.int .u8 (d : Int)) from HKC9.out) (by have := HBK.out; simp; omega); go_simp; first | done | with_reducible rfl
      try simp only [Act.put, List.setIfInBounds_toArray, List.set_cons_zero, List.set_cons_succ]
      refine regx_take 7 (some 63) (v := ?_) rfl rfl (by kernel_rfl) (by kernel_rfl) (by kernel_rfl) (fun _ _ _ h => h) (by rfl) ?_ ?_
      rotate_left
      · intro W hW; go_simp; first | done | with_reducible rfl
      try simp only [Act.put, List.setIfInBounds_toArray, List.set_cons_zero, List.set_cons_succ]
      refine regx_take 8 (some 64) (v := ?_) rfl rfl (by kernel_rfl) (by kernel_rfl) (by kernel_rfl) (fun _ _ _ h => h) (by rfl) ?_ ?_
      rotate_left
      · intro W hW; go_simp; first | done | with_reducible rfl
      try simp only [Act.put, List.setIfInBounds_toArray, List.set_cons_zero, List.set_cons_succ]
      refine regx_take 9 (some 65) (v := ?_) rfl rfl (by kernel_rfl) (by kernel_rfl) (by kernel_rfl) (fun _ _ _ h => h) (by rfl) ?_ ?_
      rotate_left
      · intro W hW; go_simp; first | done | with_reducible rfl
      try simp only [Act.put, List.setIfInBounds_toArray, List.set_cons_zero, List.set_cons_succ]
      refine regx_skip 10 (some 66) rfl rfl (by kernel_rfl) (by kernel_rfl) (by kernel_rfl) (fun _ _ _ h => h) (by rfl) ?_
      try simp only [Act.put, List.setIfInBounds_toArray, List.set_cons_zero, List.set_cons_succ]
      refine regx_skip 11 (some 67) rfl rfl (by kernel_rfl) (by kernel_rfl) (by kernel_rfl) (fun _ _ _ h => h) (by rfl) ?_
      try simp only [Act.put, List.setIfInBounds_toArray, List.set_cons_zero, List.set_cons_succ]
      refine regx_take 12 (some 68) (v := ?_) rfl rfl (by kernel_rfl) (by kernel_rfl) (by kernel_rfl) (fun _ _ _ h => h) (by rfl) ?_ ?_
      rotate_left
      · intro W hW; go_simp; first | done | with_reducible rfl
      try simp only [Act.put, List.setIfInBounds_toArray, List.set_cons_zero, List.set_cons_succ]
      refine regx_take 13 (some 69) (v := ?_) rfl rfl (by kernel_rfl) (by kernel_rfl) (by kernel_rfl) (fun _ _ _ h => h) (by rfl) ?_ ?_
      rotate_left
      · intro W hW; go_simp; first | done | with_reducible rfl
      try simp only [Act.put, List.setIfInBounds_toArray, List.set_cons_zero, List.set_cons_succ]
      refine regx_skip 14 (some 70) rfl rfl (by kernel_rfl) (by kernel_rfl) (by kernel_rfl) (fun _ _ _ h => h) (by rfl) ?_
      try simp only [Act.put, List.setIfInBounds_toArray, List.set_cons_zero, List.set_cons_succ]
      refine regx_skip 15 (some 71) rfl rfl (by kernel_rfl) (by kernel_rfl) (by kernel_rfl) (fun _ _ _ h => h) (by rfl) ?_
      try simp only [Act.put, List.setIfInBounds_toArray, List.set_cons_zero, List.set_cons_succ]
      refine regx_skip 16 (some 72) rfl rfl (by kernel_rfl) (by kernel_rfl) (by kernel_rfl) (fun _ _ _ h => h) (by rfl) ?_
      try simp only [Act.put, List.setIfInBounds_toArray, List.set_cons_zero, List.set_cons_succ]
      refine regx_skip 17 (some 73) rfl rfl (by kernel_rfl) (by kernel_rfl) (by kernel_rfl) (fun _ _ _ h => h) (by rfl) ?_
      try simp only [Act.put, List.setIfInBounds_toArray, List.set_cons_zero, List.set_cons_succ]
      refine regx_take 18 (some 74) (v := ?_) rfl rfl (by kernel_rfl) (by kernel_rfl) (by kernel_rfl) (fun _ _ _ h => h) (by rfl) ?_ ?_
      rotate_left
      · intro W hW; go_simp; first | done | with_reducible rfl
      try simp only [Act.put, List.setIfInBounds_toArray, List.set_cons_zero, List.set_cons_succ]
      refine regx_take 19 (some 75) (v := ?_) rfl rfl (by kernel_rfl) (by kernel_rfl) (by kernel_rfl) (fun _ _ _ h => h) (by rfl) ?_ ?_
      rotate_left
      · intro W hW; go_simp; first | done | with_reducible rfl
      try simp only [Act.put, List.setIfInBounds_toArray, List.set_cons_zero, List.set_cons_succ]
      refine wpAnyH_ready (rs := [20]) (by kernel_rfl) (by simp) ?_
      refine (AllReadyH.cons (o := { dst := none, op := Op.store 25 (Operand.tmp 4) (Operand.tmp 56), type := 0, pos := "ref.go:128", after := #[{ on := 0, ground := Ground.data }, { on := 13, ground := Ground.chain }, { on := 0, ground := Ground.phase }, { on := 1, ground := Ground.textOnly Departure.lateStores }, { on := 2, ground := Ground.textOnly Departure.lateStoresUnsure }, { on := 3, ground := Ground.textOnly Departure.lateStores }, { on := 4, ground := Ground.textOnly Departure.lateStores }, { on := 5, ground := Ground.textOnly Departure.lateStores }, { on := 6, ground := Ground.textOnly Departure.lateStores }, { on := 7, ground := Ground.textOnly Departure.lateStores }, { on := 8, ground := Ground.textOnly Departure.lateStores }, { on := 9, ground := Ground.textOnly Departure.lateStores }, { on := 10, ground := Ground.textOnly Departure.lateStores }, { on := 11, ground := Ground.textOnly Departure.lateStores }, { on := 12, ground := Ground.textOnly Departure.lateStores }, { on := 13, ground := Ground.textOnly Departure.lateStores }, { on := 14, ground := Ground.textOnly Departure.lateStores }, { on := 15, ground := Ground.textOnly Departure.lateStores }, { on := 16, ground := Ground.textOnly Departure.lateStoresUnsure }, { on := 17, ground := Ground.textOnly Departure.lateStores }, { on := 18, ground := Ground.textOnly Departure.lateStores }, { on := 19, ground := Ground.textOnly Departure.lateStores }], guard := none }) rfl (fun K hK => ?_) AllReadyH.nil)
      refine wp_store_all 25 _ _ rfl w.heap.size ?csu89n ?hxu89n ?hyu89n rz 25 ?hzu89n ?hfu89n 4 ?hnu89n Try.size25 ?h1u89n ?_
      case hyu89n => exact rfl
      case hxu89n => exact rfl
      case hzu89n => exact (hv1.block _ (lt_of_block (show u9.drew.heap[w.heap.size]? = _ from HS9.out)) (by simp)).trans HS9.out
      case hfu89n => exact rfl
      case hnu89n => exact rfl
      case h1u89n => simp [allOne, Value.oneCell']
      intro v2 hb2 h2
      refine regx_next hK (Keeps.row h2 rfl) ?_
      clear hK K
      try simp only [Act.put]
      refine regx_take 21 (some 5) (v := ?_) rfl rfl (by kernel_rfl) (by kernel_rfl) (by kernel_rfl) (fun _ _ _ h => h) (by rfl) ?_ ?_
      rotate_left
      · intro W hW; go_simp; first | done | with_reducible rfl
      try simp only [Act.put, List.setIfInBounds_toArray, List.set_cons_zero, List.set_cons_succ]
      refine wpAnyH_done (by kernel_rfl) ?_ _
      have HB2 := Lib.hid hb2
      have HV2 := Lib.hid (grown_new (HG9.out.trans (drewl hv1)) h2 (Nat.le_refl _))
      have HV1 := Lib.hid (drewl hv1)
      have HS1 := Lib.hid (keep_blk hv1 HS9.out)
      have H2 := Lib.hid h2
      clear hv1 hb2 h2
      go_wp2
      refine bodyPost_ret (results_c25t rfl _ _ _ _ (by rfl) (by rfl) HB2.out) (by rfl) ?_
      exact bodyDo_no HO.out HV2.out
    · go_simp
      have hn := heap_alloc_new ((w.alloc (.cells rz.toArray 25)).drew.alloc (.cells #[] 5)) (.cells rz.toArray 25); have hm := World.grownBy_alloc ((w.alloc (.cells rz.toArray 25)).drew.alloc (.cells #[] 5)) (.cells rz.toArray 25) none; have hx10 : w.heap.size + 1 ≤ ((w.alloc (.cells rz.toArray 25)).drew.alloc (.cells #[] 5)).heap.size := (by first | simp | (have := hk54.size; simp at this; omega))
      refine regx_next hK (Keeps.keep hm) ?_
      clear hK K
      try simp only [Act.put, List.setIfInBounds_toArray, List.set_cons_zero, List.set_cons_succ]
      refine wpAnyH_ready (rs := [12]) (by kernel_rfl) (by simp) ?_
      refine (AllReadyH.cons (o := { dst := some 54, op := Op.call { callee := Callee.builtin Builtin.append, args := #[Operand.tmp 50, Operand.tmp 53], argTypes := #[23, 23] }, type := 23, pos := "ref.go:127", after := #[{ on := 8, ground := Ground.data }, { on := 11, ground := Ground.data }], guard := none }) rfl (fun K hK => ?_) AllReadyH.nil)
      first | refine wp_gs eB 23 (.tmp 50) (.tmp 53) rfl (.slice (some ⟨w.heap.size + 1, 0, none⟩) 0 0) _ 0 m [] (bsV v0) (by rfl) (by rfl) ?ggu92 (src_gon (c := c3) HM.out ?gsu92) HONE.out (by have := HM1.out; omega) ?_ | refine wp_gs eB 23 (.tmp 50) (.tmp 53) rfl (.slice (some ⟨w.heap.size + 1 + 1, 0, none⟩) 0 0) _ 0 m [] (bsV v0) (by rfl) (by rfl) ?ggu92 (src_gon (c := c3) HM.out ?gsu92) HONE.out (by have := HM1.out; omega) ?_
      case ggu92 => first | exact hn5 | exact hn5.keptNone ⟨rfl, rfl, rfl, by simp, fun k hk _ => heap_alloc_old _ _ (by simpa using hk)⟩
      case gsu92 => exact HS3.out.keptNone (drewl (Keeps.toGrown (X := fun k => w.heap.size + 1 ≤ k) ((Keeps.keep hm5).trans (Keeps.keep hm)) (by intro i hi; simp at hi ⊢; omega)))
      intro v4 u4 hQ4 hg4 hr4
      obtain ⟨a4, c4, hv4, _⟩ := hQ4.shape
      rw [Nat.zero_add] at hv4
      subst hv4
      first | have hk54 : World.grownBy _ u4 (some (w.heap.size + 1)) := hg4 | have hk54 : World.grownBy _ u4 (some (w.heap.size + 1 + 1)) := hg4
      refine regx_next hK (Keeps.of hk54 (fun r e => by cases e; first | exact hx5 | (simp <;> omega))) ?_
      clear hK K
      try simp only [Act.put, List.setIfInBounds_toArray, List.set_cons_zero, List.set_cons_succ]
      refine regx_take 13 (some 55) (v := ?_) rfl rfl (by kernel_rfl) (by kernel_rfl) (by kernel_rfl) (fun _ _ _ h => h) (by rfl) ?_ ?_
      rotate_left
      · intro W hW; go_simp; first | done | with_reducible rfl
      try simp only [Act.put, List.setIfInBounds_toArray, List.set_cons_zero, List.set_cons_succ]
      refine wpAnyH_ready (rs := [15]) (by kernel_rfl) (by simp) ?_
      refine (AllReadyH.cons (o := { dst := none, op := Op.store 25 (Operand.tmp 10) (Operand.tmp 55), type := 0, pos := "ref.go:127", after := #[{ on := 14, ground := Ground.data }, { on := 13, ground := Ground.data }, { on := 12, ground := Ground.chain }, { on := 0, ground := Ground.phase }, { on := 1, ground := Ground.phase }, { on := 2, ground := Ground.phase }, { on := 3, ground := Ground.phase }, { on := 4, ground := Ground.phase }, { on := 5, ground := Ground.phase }, { on := 6, ground := Ground.phase }, { on := 7, ground := Ground.phase }, { on := 8, ground := Ground.phase }, { on := 9, ground := Ground.phase }, { on := 10, ground := Ground.phase }, { on := 11, ground := Ground.phase }, { on := 12, ground := Ground.phase }, { on := 13, ground := Ground.phase }, { on := 14, ground := Ground.phase }], guard := none }) rfl (fun K hK => ?_) AllReadyH.nil)
      first | have hz9 : (u4.alloc (.cells rz.toArray 25)).heap[u4.heap.size]? = some (.cells rz.toArray 25 (0, 0)) := hn | have hz9 : u4.heap[w.heap.size + 1 + 1]? = some (.cells rz.toArray 25 (0, 0)) := (by have hz7 := hn; rw [show ((w.alloc (.cells rz.toArray 25)).drew.alloc (.cells #[] 5)).heap.size = w.heap.size + 1 + 1 from (World.size_alloc _ _).trans (congrArg (· + 1) (World.size_alloc w _))] at hz7; exact (hk54.block _ (by simp) (by simp)).trans hz7) | have hz9 : u4.heap[w.heap.size + 1]? = some (.cells rz.toArray 25 (0, 0)) := (by have hz7 := keep_blk hm5 hn; rw [show (w.alloc (.cells rz.toArray 25)).drew.heap.size = w.heap.size + 1 from World.size_alloc w _] at hz7; exact (hk54.block _ (by simp) (by simp)).trans hz7)
      refine wp_store_all 25 _ _ rfl ?bu94 ?csu94 ?hxu94 ?hyu94 rz 25 ?hzu94 ?hfu94 4 ?hnu94 Try.size25 ?h1u94 ?_
      case hyu94 => exact rfl
      case hxu94 => exact rfl
      case hzu94 => exact hz9
      case hfu94 => exact rfl
      case hnu94 => exact rfl
      case h1u94 => simp [allOne, Value.oneCell']
      intro u9 hb9 h9
      refine regx_next hK (Keeps.row h9 (by first | exact hx10 | (simp <;> omega))) ?_
      clear hK K
      try simp only [Act.put]
      refine wpAnyH_done (by kernel_rfl) ?_ _
      have hk9 : Keeps (fun k => w.heap.size + 1 ≤ k) (w.alloc (.cells rz.toArray 25)).drew u9 := ((Keeps.keep hm5).trans ((Keeps.keep hm).trans ((Keeps.of hk54 (fun r e => by cases e; first | exact hx5 | (simp <;> omega))).trans (Keeps.row h9 (by first | exact hx10 | (simp <;> omega))))))
      have HQ9 := Lib.hid (gs_end hQ4 (by first | exact World.grownBy.refl _ _ | exact World.grownBy_alloc _ _ _) hz9 h9)
      have HR9 := Lib.hid (show ∀ k, rowOf (.slice a4 m c4) = some k → w.heap.size ≤ k from fun k hk => by rcases hr4 with h | h <;> (rw [h] at hk; cases hk; simp <;> omega))
      have HB9 := Lib.hid hb9
      have HBN := Lib.hid (nb (S := w.heap.size) hb9 (by first | (simp <;> omega) | (have := hx10; omega)))
      have HS9 := Lib.hid ((hk9.block w.heap.size (by simp) (by simp)).trans HR0.out)
      have HG9 := Lib.hid (HG0.out.trans (drewl (hk9.toGrown (by intro i hi; simp at hi ⊢; omega))))
      have HKC9 := Lib.hid (keeps_cell hk9 (show (w.alloc (.cells rz.toArray 25)).drew.cell? ⟨b, o, none⟩ = some (.int .u8 (d : Int)) from HKC.out) (by have := HBK.out; simp; omega))
      clear hk9 hQ4 hr4 hb9 h9 hk54 hg4 hz9 hn hm hn5 hm5 hz5 hx5 hx10
      go_wp2
      refine regx_open (fun k => k = w.heap.size) (n := 22) rfl (by kernel_rfl) ?_
      refine regx_take 0 (some 56) (v := ?_) rfl rfl (by kernel_rfl) (by kernel_rfl) (by kernel_rfl) (fun _ _ _ h => h) (by rfl) ?_ ?_
      rotate_left
      · intro W hW; refine exec_ld25 (x := .tmp 10) ?_ ?_ (((hW).block _ (lt_of_block HB9.out) HBN.out).trans HB9.out) <;> rfl
      try simp only [Act.put, List.setIfInBounds_toArray, List.set_cons_zero, List.set_cons_succ]
      refine regx_take 1 (some 57) (v := ?_) rfl rfl (by kernel_rfl) (by kernel_rfl) (by kernel_rfl) (fun _ _ _ h => h) (by rfl) ?_ ?_
      rotate_left
      · intro W hW; refine exec_ld25 (x := .tmp 10) ?_ ?_ (((hW).block _ (lt_of_block HB9.out) HBN.out).trans HB9.out) <;> rfl
      try simp only [Act.put, List.setIfInBounds_toArray, List.set_cons_zero, List.set_cons_succ]
      refine wpAnyH_ready (rs := [2]) (by kernel_rfl) (by simp) ?_
      refine (AllReadyH.cons (o := { dst := some 58, op := Op.call { callee := Callee.value (Operand.func 12), args := #[Operand.tmp 57], argTypes := #[25] }, type := 4, pos := "ref.go:128", after := #[{ on := 1, ground := Ground.data }], guard := none }) rfl (fun K hK => ?_) AllReadyH.nil)
      go_simp
      refine (rright_any A d n0 a4 m c4 _).mono ?_; rintro e v1 ⟨rfl, hv1⟩
      simp only [hRt]
      refine regx_next hK (Keeps.keep hv1) ?_
      clear hK K
      try simp only [Act.put, List.setIfInBounds_toArray, List.set_cons_zero, List.set_cons_succ]
      refine regx_take 3 (some 59) (v := ?_) rfl rfl (by kernel_rfl) (by kernel_rfl) (by kernel_rfl) (fun _ _ _ h => h) (by rfl) ?_ ?_
      rotate_left
      · intro W hW; go_simp; first | done | with_reducible rfl
      try simp only [Act.put, List.setIfInBounds_toArray, List.set_cons_zero, List.set_cons_succ]
      refine regx_take 4 (some 60) (v := ?_) rfl rfl (by kernel_rfl) (by kernel_rfl) (by kernel_rfl) (fun _ _ _ h => h) (by rfl) ?_ ?_
      rotate_left
      · intro W hW; go_simp; first | done | with_reducible rfl
      try simp only [Act.put, List.setIfInBounds_toArray, List.set_cons_zero, List.set_cons_succ]
      refine regx_take 5 (some 61) (v := ?_) rfl rfl (by kernel_rfl) (by kernel_rfl) (by kernel_rfl) (fun _ _ _ h => h) (by rfl) ?_ ?_
      rotate_left
      · intro W hW; go_simp; first | done | with_reducible rfl
      try simp only [Act.put, List.setIfInBounds_toArray, List.set_cons_zero, List.set_cons_succ]
      refine regx_take 6 (some 62) (v := ?_) rfl rfl (by kernel_rfl) (by kernel_rfl) (by kernel_rfl) (fun _ _ _ h => h) (by rfl) ?_ ?_
      rotate_left
      · intro W hW; have k := keeps_cell ((Keeps.keep hv1).trans hW) (show u9.drew.cell? ⟨b, o, none⟩ = some (.int .u8 (d : Int)) from HKC9.out) (by have := HBK.out; simp; omega); go_simp; first | done | with_reducible rfl
      try simp only [Act.put, List.setIfInBounds_toArray, List.set_cons_zero, List.set_cons_succ]
      refine regx_take 7 (some 63) (v := ?_) rfl rfl (by kernel_rfl) (by kernel_rfl) (by kernel_rfl) (fun _ _ _ h => h) (by rfl) ?_ ?_
      rotate_left
      · intro W hW; go_simp; first | done | with_reducible rfl
      try simp only [Act.put, List.setIfInBounds_toArray, List.set_cons_zero, List.set_cons_succ]
      refine regx_take 8 (some 64) (v := ?_) rfl rfl (by kernel_rfl) (by kernel_rfl) (by kernel_rfl) (fun _ _ _ h => h) (by rfl) ?_ ?_
      rotate_left
      · intro W hW; go_simp; first | done | with_reducible rfl
      try simp only [Act.put, List.setIfInBounds_toArray, List.set_cons_zero, List.set_cons_succ]
      refine regx_take 9 (some 65) (v := ?_) rfl rfl (by kernel_rfl) (by kernel_rfl) (by kernel_rfl) (fun _ _ _ h => h) (by rfl) ?_ ?_
      rotate_left
      · intro W hW; go_simp; first | done | with_reducible rfl
      try simp only [Act.put, List.setIfInBounds_toArray, List.set_cons_zero, List.set_cons_succ]
      refine regx_skip 10 (some 66) rfl rfl (by kernel_rfl) (by kernel_rfl) (by kernel_rfl) (fun _ _ _ h => h) (by rfl) ?_
      try simp only [Act.put, List.setIfInBounds_toArray, List.set_cons_zero, List.set_cons_succ]
      refine regx_skip 11 (some 67) rfl rfl (by kernel_rfl) (by kernel_rfl) (by kernel_rfl) (fun _ _ _ h => h) (by rfl) ?_
      try simp only [Act.put, List.setIfInBounds_toArray, List.set_cons_zero, List.set_cons_succ]
      refine regx_take 12 (some 68) (v := ?_) rfl rfl (by kernel_rfl) (by kernel_rfl) (by kernel_rfl) (fun _ _ _ h => h) (by rfl) ?_ ?_
      rotate_left
      · intro W hW; go_simp; first | done | with_reducible rfl
      try simp only [Act.put, List.setIfInBounds_toArray, List.set_cons_zero, List.set_cons_succ]
      refine regx_take 13 (some 69) (v := ?_) rfl rfl (by kernel_rfl) (by kernel_rfl) (by kernel_rfl) (fun _ _ _ h => h) (by rfl) ?_ ?_
      rotate_left
      · intro W hW; go_simp; first | done | with_reducible rfl
      try simp only [Act.put, List.setIfInBounds_toArray, List.set_cons_zero, List.set_cons_succ]
      refine regx_skip 14 (some 70) rfl rfl (by kernel_rfl) (by kernel_rfl) (by kernel_rfl) (fun _ _ _ h => h) (by rfl) ?_
      try simp only [Act.put, List.setIfInBounds_toArray, List.set_cons_zero, List.set_cons_succ]
      refine regx_skip 15 (some 71) rfl rfl (by kernel_rfl) (by kernel_rfl) (by kernel_rfl) (fun _ _ _ h => h) (by rfl) ?_
      try simp only [Act.put, List.setIfInBounds_toArray, List.set_cons_zero, List.set_cons_succ]
      refine regx_skip 16 (some 72) rfl rfl (by kernel_rfl) (by kernel_rfl) (by kernel_rfl) (fun _ _ _ h => h) (by rfl) ?_
      try simp only [Act.put, List.setIfInBounds_toArray, List.set_cons_zero, List.set_cons_succ]
      refine regx_skip 17 (some 73) rfl rfl (by kernel_rfl) (by kernel_rfl) (by kernel_rfl) (fun _ _ _ h => h) (by rfl) ?_
      try simp only [Act.put, List.setIfInBounds_toArray, List.set_cons_zero, List.set_cons_succ]
      refine regx_take 18 (some 74) (v := ?_) rfl rfl (by kernel_rfl) (by kernel_rfl) (by kernel_rfl) (fun _ _ _ h => h) (by rfl) ?_ ?_
      rotate_left
      · intro W hW; go_simp; first | done | with_reducible rfl
      try simp only [Act.put, List.setIfInBounds_toArray, List.set_cons_zero, List.set_cons_succ]
      refine regx_take 19 (some 75) (v := ?_) rfl rfl (by kernel_rfl) (by kernel_rfl) (by kernel_rfl) (fun _ _ _ h => h) (by rfl) ?_ ?_
      rotate_left
      · intro W hW; go_simp; first | done | with_reducible rfl
      try simp only [Act.put, List.setIfInBounds_toArray, List.set_cons_zero, List.set_cons_succ]
      refine wpAnyH_ready (rs := [20]) (by kernel_rfl) (by simp) ?_
      refine (AllReadyH.cons (o := { dst := none, op := Op.store 25 (Operand.tmp 4) (Operand.tmp 56), type := 0, pos := "ref.go:128", after := #[{ on := 0, ground := Ground.data }, { on := 13, ground := Ground.chain }, { on := 0, ground := Ground.phase }, { on := 1, ground := Ground.textOnly Departure.lateStores }, { on := 2, ground := Ground.textOnly Departure.lateStoresUnsure }, { on := 3, ground := Ground.textOnly Departure.lateStores }, { on := 4, ground := Ground.textOnly Departure.lateStores }, { on := 5, ground := Ground.textOnly Departure.lateStores }, { on := 6, ground := Ground.textOnly Departure.lateStores }, { on := 7, ground := Ground.textOnly Departure.lateStores }, { on := 8, ground := Ground.textOnly Departure.lateStores }, { on := 9, ground := Ground.textOnly Departure.lateStores }, { on := 10, ground := Ground.textOnly Departure.lateStores }, { on := 11, ground := Ground.textOnly Departure.lateStores }, { on := 12, ground := Ground.textOnly Departure.lateStores }, { on := 13, ground := Ground.textOnly Departure.lateStores }, { on := 14, ground := Ground.textOnly Departure.lateStores }, { on := 15, ground := Ground.textOnly Departure.lateStores }, { on := 16, ground := Ground.textOnly Departure.lateStoresUnsure }, { on := 17, ground := Ground.textOnly Departure.lateStores }, { on := 18, ground := Ground.textOnly Departure.lateStores }, { on := 19, ground := Ground.textOnly Departure.lateStores }], guard := none }) rfl (fun K hK => ?_) AllReadyH.nil)
      refine wp_store_all 25 _ _ rfl w.heap.size ?csu96n ?hxu96n ?hyu96n rz 25 ?hzu96n ?hfu96n 4 ?hnu96n Try.size25 ?h1u96n ?_
      case hyu96n => exact rfl
      case hxu96n => exact rfl
      case hzu96n => exact (hv1.block _ (lt_of_block (show u9.drew.heap[w.heap.size]? = _ from HS9.out)) (by simp)).trans HS9.out
      case hfu96n => exact rfl
      case hnu96n => exact rfl
      case h1u96n => simp [allOne, Value.oneCell']
      intro v2 hb2 h2
      refine regx_next hK (Keeps.row h2 rfl) ?_
      clear hK K
      try simp only [Act.put]
      refine regx_take 21 (some 5) (v := ?_) rfl rfl (by kernel_rfl) (by kernel_rfl) (by kernel_rfl) (fun _ _ _ h => h) (by rfl) ?_ ?_
      rotate_left
      · intro W hW; go_simp; first | done | with_reducible rfl
      try simp only [Act.put, List.setIfInBounds_toArray, List.set_cons_zero, List.set_cons_succ]
      refine wpAnyH_done (by kernel_rfl) ?_ _
      have HB2 := Lib.hid hb2
      have HV2 := Lib.hid (grown_new (HG9.out.trans (drewl hv1)) h2 (Nat.le_refl _))
      have HV1 := Lib.hid (drewl hv1)
      have HS1 := Lib.hid (keep_blk hv1 HS9.out)
      have H2 := Lib.hid h2
      clear hv1 hb2 h2
      go_wp2
      refine bodyPost_ret (results_c25t rfl _ _ _ _ (by rfl) (by rfl) HB2.out) (by rfl) ?_
      exact bodyDo_no HO.out HV2.out
  · go_simp
    have hn := heap_alloc_new (w.alloc (.cells rz.toArray 25)).drew (.cells rz.toArray 25); have hm := World.grownBy_alloc (w.alloc (.cells rz.toArray 25)).drew (.cells rz.toArray 25) none; have hx10 : w.heap.size + 1 ≤ (w.alloc (.cells rz.toArray 25)).drew.heap.size := (by first | simp | (have := hk54.size; simp at this; omega))
    refine regx_next hK (Keeps.keep hm) ?_
    clear hK K
    try simp only [Act.put, List.setIfInBounds_toArray, List.set_cons_zero, List.set_cons_succ]
    refine wpAnyH_ready (rs := [8]) (by kernel_rfl) (by simp) ?_
    refine (AllReadyH.cons (o := { dst := some 50, op := Op.buildSlice 23 0 #[], type := 23, pos := "ref.go:127", after := #[], guard := none }) rfl (fun K hK => ?_) AllReadyH.nil)
    go_simp
    have hn5 := Gs.empty ((w.alloc (.cells rz.toArray 25)).drew.alloc (.cells rz.toArray 25)); simp at hn5; have hm5 := World.grownBy_alloc ((w.alloc (.cells rz.toArray 25)).drew.alloc (.cells rz.toArray 25)) (.cells #[] 5) none; have hz5 := heap_alloc_new ((w.alloc (.cells rz.toArray 25)).drew.alloc (.cells rz.toArray 25)) (.cells #[] 5); have hx5 : w.heap.size + 1 ≤ ((w.alloc (.cells rz.toArray 25)).drew.alloc (.cells rz.toArray 25)).heap.size := (by simp)
    refine regx_next hK (Keeps.keep hm5) ?_
    clear hK K
    try simp only [Act.put, List.setIfInBounds_toArray, List.set_cons_zero, List.set_cons_succ]
    refine wpAnyH_ready (rs := [12]) (by kernel_rfl) (by simp) ?_
    refine (AllReadyH.cons (o := { dst := some 54, op := Op.call { callee := Callee.builtin Builtin.append, args := #[Operand.tmp 50, Operand.tmp 53], argTypes := #[23, 23] }, type := 23, pos := "ref.go:127", after := #[{ on := 8, ground := Ground.data }, { on := 11, ground := Ground.data }], guard := none }) rfl (fun K hK => ?_) AllReadyH.nil)
    first | refine wp_gs eB 23 (.tmp 50) (.tmp 53) rfl (.slice (some ⟨w.heap.size + 1, 0, none⟩) 0 0) _ 0 m [] (bsV v0) (by rfl) (by rfl) ?ggu101 (src_gon (c := c3) HM.out ?gsu101) HONE.out (by have := HM1.out; omega) ?_ | refine wp_gs eB 23 (.tmp 50) (.tmp 53) rfl (.slice (some ⟨w.heap.size + 1 + 1, 0, none⟩) 0 0) _ 0 m [] (bsV v0) (by rfl) (by rfl) ?ggu101 (src_gon (c := c3) HM.out ?gsu101) HONE.out (by have := HM1.out; omega) ?_
    case ggu101 => first | exact hn5 | exact hn5.keptNone ⟨rfl, rfl, rfl, by simp, fun k hk _ => heap_alloc_old _ _ (by simpa using hk)⟩
    case gsu101 => exact HS3.out.keptNone (drewl (Keeps.toGrown (X := fun k => w.heap.size + 1 ≤ k) ((Keeps.keep hm).trans (Keeps.keep hm5)) (by intro i hi; simp at hi ⊢; omega)))
    intro v4 u4 hQ4 hg4 hr4
    obtain ⟨a4, c4, hv4, _⟩ := hQ4.shape
    rw [Nat.zero_add] at hv4
    subst hv4
    first | have hk54 : World.grownBy _ u4 (some (w.heap.size + 1)) := hg4 | have hk54 : World.grownBy _ u4 (some (w.heap.size + 1 + 1)) := hg4
    refine regx_next hK (Keeps.of hk54 (fun r e => by cases e; first | exact hx5 | (simp <;> omega))) ?_
    clear hK K
    try simp only [Act.put, List.setIfInBounds_toArray, List.set_cons_zero, List.set_cons_succ]
    refine regx_take 13 (some 55) (v := ?_) rfl rfl (by kernel_rfl) (by kernel_rfl) (by kernel_rfl) (fun _ _ _ h => h) (by rfl) ?_ ?_
    rotate_left
    · intro W hW; go_simp; first | done | with_reducible rfl
    try simp only [Act.put, List.setIfInBounds_toArray, List.set_cons_zero, List.set_cons_succ]
    refine wpAnyH_ready (rs := [15]) (by kernel_rfl) (by simp) ?_
    refine (AllReadyH.cons (o := { dst := none, op := Op.store 25 (Operand.tmp 10) (Operand.tmp 55), type := 0, pos := "ref.go:127", after := #[{ on := 14, ground := Ground.data }, { on := 13, ground := Ground.data }, { on := 12, ground := Ground.chain }, { on := 0, ground := Ground.phase }, { on := 1, ground := Ground.phase }, { on := 2, ground := Ground.phase }, { on := 3, ground := Ground.phase }, { on := 4, ground := Ground.phase }, { on := 5, ground := Ground.phase }, { on := 6, ground := Ground.phase }, { on := 7, ground := Ground.phase }, { on := 8, ground := Ground.phase }, { on := 9, ground := Ground.phase }, { on := 10, ground := Ground.phase }, { on := 11, ground := Ground.phase }, { on := 12, ground := Ground.phase }, { on := 13, ground := Ground.phase }, { on := 14, ground := Ground.phase }], guard := none }) rfl (fun K hK => ?_) AllReadyH.nil)
    first | have hz9 : (u4.alloc (.cells rz.toArray 25)).heap[u4.heap.size]? = some (.cells rz.toArray 25 (0, 0)) := hn | have hz9 : u4.heap[w.heap.size + 1 + 1]? = some (.cells rz.toArray 25 (0, 0)) := (by have hz7 := hn; rw [show ((w.alloc (.cells rz.toArray 25)).drew.alloc (.cells #[] 5)).heap.size = w.heap.size + 1 + 1 from (World.size_alloc _ _).trans (congrArg (· + 1) (World.size_alloc w _))] at hz7; exact (hk54.block _ (by simp) (by simp)).trans hz7) | have hz9 : u4.heap[w.heap.size + 1]? = some (.cells rz.toArray 25 (0, 0)) := (by have hz7 := keep_blk hm5 hn; rw [show (w.alloc (.cells rz.toArray 25)).drew.heap.size = w.heap.size + 1 from World.size_alloc w _] at hz7; exact (hk54.block _ (by simp) (by simp)).trans hz7)
    refine wp_store_all 25 _ _ rfl ?bu103 ?csu103 ?hxu103 ?hyu103 rz 25 ?hzu103 ?hfu103 4 ?hnu103 Try.size25 ?h1u103 ?_
    case hyu103 => exact rfl
    case hxu103 => exact rfl
    case hzu103 => exact hz9
    case hfu103 => exact rfl
    case hnu103 => exact rfl
    case h1u103 => simp [allOne, Value.oneCell']
    intro u9 hb9 h9
    refine regx_next hK (Keeps.row h9 (by first | exact hx10 | (simp <;> omega))) ?_
    clear hK K
    try simp only [Act.put]
    refine wpAnyH_done (by kernel_rfl) ?_ _
    have hk9 : Keeps (fun k => w.heap.size + 1 ≤ k) (w.alloc (.cells rz.toArray 25)).drew u9 := ((Keeps.keep hm).trans ((Keeps.keep hm5).trans ((Keeps.of hk54 (fun r e => by cases e; first | exact hx5 | (simp <;> omega))).trans (Keeps.row h9 (by first | exact hx10 | (simp <;> omega))))))
    have HQ9 := Lib.hid (gs_end hQ4 (by first | exact World.grownBy.refl _ _ | exact World.grownBy_alloc _ _ _) hz9 h9)
    have HR9 := Lib.hid (show ∀ k, rowOf (.slice a4 m c4) = some k → w.heap.size ≤ k from fun k hk => by rcases hr4 with h | h <;> (rw [h] at hk; cases hk; simp <;> omega))
    have HB9 := Lib.hid hb9
    have HBN := Lib.hid (nb (S := w.heap.size) hb9 (by first | (simp <;> omega) | (have := hx10; omega)))
    have HS9 := Lib.hid ((hk9.block w.heap.size (by simp) (by simp)).trans HR0.out)
    have HG9 := Lib.hid (HG0.out.trans (drewl (hk9.toGrown (by intro i hi; simp at hi ⊢; omega))))
    have HKC9 := Lib.hid (keeps_cell hk9 (show (w.alloc (.cells rz.toArray 25)).drew.cell? ⟨b, o, none⟩ = some (.int .u8 (d : Int)) from HKC.out) (by have := HBK.out; simp; omega))
    clear hk9 hQ4 hr4 hb9 h9 hk54 hg4 hz9 hn hm hn5 hm5 hz5 hx5 hx10
    go_wp2
    refine regx_open (fun k => k = w.heap.size) (n := 22) rfl (by kernel_rfl) ?_
    refine regx_take 0 (some 56) (v := ?_) rfl rfl (by kernel_rfl) (by kernel_rfl) (by kernel_rfl) (fun _ _ _ h => h) (by rfl) ?_ ?_
    rotate_left
    · intro W hW; refine exec_ld25 (x := .tmp 10) ?_ ?_ (((hW).block _ (lt_of_block HB9.out) HBN.out).trans HB9.out) <;> rfl
    try simp only [Act.put, List.setIfInBounds_toArray, List.set_cons_zero, List.set_cons_succ]
    refine regx_take 1 (some 57) (v := ?_) rfl rfl (by kernel_rfl) (by kernel_rfl) (by kernel_rfl) (fun _ _ _ h => h) (by rfl) ?_ ?_
    rotate_left
    · intro W hW; refine exec_ld25 (x := .tmp 10) ?_ ?_ (((hW).block _ (lt_of_block HB9.out) HBN.out).trans HB9.out) <;> rfl
    try simp only [Act.put, List.setIfInBounds_toArray, List.set_cons_zero, List.set_cons_succ]
    refine wpAnyH_ready (rs := [2]) (by kernel_rfl) (by simp) ?_
    refine (AllReadyH.cons (o := { dst := some 58, op := Op.call { callee := Callee.value (Operand.func 12), args := #[Operand.tmp 57], argTypes := #[25] }, type := 4, pos := "ref.go:128", after := #[{ on := 1, ground := Ground.data }], guard := none }) rfl (fun K hK => ?_) AllReadyH.nil)
    go_simp
    refine (rright_any A d n0 a4 m c4 _).mono ?_; rintro e v1 ⟨rfl, hv1⟩
    simp only [hRt]
    refine regx_next hK (Keeps.keep hv1) ?_
    clear hK K
    try simp only [Act.put, List.setIfInBounds_toArray, List.set_cons_zero, List.set_cons_succ]
    refine regx_take 3 (some 59) (v := ?_) rfl rfl (by kernel_rfl) (by kernel_rfl) (by kernel_rfl) (fun _ _ _ h => h) (by rfl) ?_ ?_
    rotate_left
    · intro W hW; go_simp; first | done | with_reducible rfl
    try simp only [Act.put, List.setIfInBounds_toArray, List.set_cons_zero, List.set_cons_succ]
    refine regx_take 4 (some 60) (v := ?_) rfl rfl (by kernel_rfl) (by kernel_rfl) (by kernel_rfl) (fun _ _ _ h => h) (by rfl) ?_ ?_
    rotate_left
    · intro W hW; go_simp; first | done | with_reducible rfl
    try simp only [Act.put, List.setIfInBounds_toArray, List.set_cons_zero, List.set_cons_succ]
    refine regx_take 5 (some 61) (v := ?_) rfl rfl (by kernel_rfl) (by kernel_rfl) (by kernel_rfl) (fun _ _ _ h => h) (by rfl) ?_ ?_
    rotate_left
    · intro W hW; go_simp; first | done | with_reducible rfl
    try simp only [Act.put, List.setIfInBounds_toArray, List.set_cons_zero, List.set_cons_succ]
    refine regx_take 6 (some 62) (v := ?_) rfl rfl (by kernel_rfl) (by kernel_rfl) (by kernel_rfl) (fun _ _ _ h => h) (by rfl) ?_ ?_
    rotate_left
    · intro W hW; have k := keeps_cell ((Keeps.keep hv1).trans hW) (show u9.drew.cell? ⟨b, o, none⟩ = some (.int .u8 (d : Int)) from HKC9.out) (by have := HBK.out; simp; omega); go_simp; first | done | with_reducible rfl
    try simp only [Act.put, List.setIfInBounds_toArray, List.set_cons_zero, List.set_cons_succ]
    refine regx_take 7 (some 63) (v := ?_) rfl rfl (by kernel_rfl) (by kernel_rfl) (by kernel_rfl) (fun _ _ _ h => h) (by rfl) ?_ ?_
    rotate_left
    · intro W hW; go_simp; first | done | with_reducible rfl
    try simp only [Act.put, List.setIfInBounds_toArray, List.set_cons_zero, List.set_cons_succ]
    refine regx_take 8 (some 64) (v := ?_) rfl rfl (by kernel_rfl) (by kernel_rfl) (by kernel_rfl) (fun _ _ _ h => h) (by rfl) ?_ ?_
    rotate_left
    · intro W hW; go_simp; first | done | with_reducible rfl
    try simp only [Act.put, List.setIfInBounds_toArray, List.set_cons_zero, List.set_cons_succ]
    refine regx_take 9 (some 65) (v := ?_) rfl rfl (by kernel_rfl) (by kernel_rfl) (by kernel_rfl) (fun _ _ _ h => h) (by rfl) ?_ ?_
    rotate_left
    · intro W hW; go_simp; first | done | with_reducible rfl
    try simp only [Act.put, List.setIfInBounds_toArray, List.set_cons_zero, List.set_cons_succ]
    refine regx_skip 10 (some 66) rfl rfl (by kernel_rfl) (by kernel_rfl) (by kernel_rfl) (fun _ _ _ h => h) (by rfl) ?_
    try simp only [Act.put, List.setIfInBounds_toArray, List.set_cons_zero, List.set_cons_succ]
    refine regx_skip 11 (some 67) rfl rfl (by kernel_rfl) (by kernel_rfl) (by kernel_rfl) (fun _ _ _ h => h) (by rfl) ?_
    try simp only [Act.put, List.setIfInBounds_toArray, List.set_cons_zero, List.set_cons_succ]
    refine regx_take 12 (some 68) (v := ?_) rfl rfl (by kernel_rfl) (by kernel_rfl) (by kernel_rfl) (fun _ _ _ h => h) (by rfl) ?_ ?_
    rotate_left
    · intro W hW; go_simp; first | done | with_reducible rfl
    try simp only [Act.put, List.setIfInBounds_toArray, List.set_cons_zero, List.set_cons_succ]
    refine regx_take 13 (some 69) (v := ?_) rfl rfl (by kernel_rfl) (by kernel_rfl) (by kernel_rfl) (fun _ _ _ h => h) (by rfl) ?_ ?_
    rotate_left
    · intro W hW; go_simp; first | done | with_reducible rfl
    try simp only [Act.put, List.setIfInBounds_toArray, List.set_cons_zero, List.set_cons_succ]
    refine regx_skip 14 (some 70) rfl rfl (by kernel_rfl) (by kernel_rfl) (by kernel_rfl) (fun _ _ _ h => h) (by rfl) ?_
    try simp only [Act.put, List.setIfInBounds_toArray, List.set_cons_zero, List.set_cons_succ]
    refine regx_skip 15 (some 71) rfl rfl (by kernel_rfl) (by kernel_rfl) (by kernel_rfl) (fun _ _ _ h => h) (by rfl) ?_
    try simp only [Act.put, List.setIfInBounds_toArray, List.set_cons_zero, List.set_cons_succ]
    refine regx_skip 16 (some 72) rfl rfl (by kernel_rfl) (by kernel_rfl) (by kernel_rfl) (fun _ _ _ h => h) (by rfl) ?_
    try simp only [Act.put, List.setIfInBounds_toArray, List.set_cons_zero, List.set_cons_succ]
    refine regx_skip 17 (some 73) rfl rfl (by kernel_rfl) (by kernel_rfl) (by kernel_rfl) (fun _ _ _ h => h) (by rfl) ?_
    try simp only [Act.put, List.setIfInBounds_toArray, List.set_cons_zero, List.set_cons_succ]
    refine regx_take 18 (some 74) (v := ?_) rfl rfl (by kernel_rfl) (by kernel_rfl) (by kernel_rfl) (fun _ _ _ h => h) (by rfl) ?_ ?_
    rotate_left
    · intro W hW; go_simp; first | done | with_reducible rfl
    try simp only [Act.put, List.setIfInBounds_toArray, List.set_cons_zero, List.set_cons_succ]
    refine regx_take 19 (some 75) (v := ?_) rfl rfl (by kernel_rfl) (by kernel_rfl) (by kernel_rfl) (fun _ _ _ h => h) (by rfl) ?_ ?_
    rotate_left
    · intro W hW; go_simp; first | done | with_reducible rfl
    try simp only [Act.put, List.setIfInBounds_toArray, List.set_cons_zero, List.set_cons_succ]
    refine wpAnyH_ready (rs := [20]) (by kernel_rfl) (by simp) ?_
    refine (AllReadyH.cons (o := { dst := none, op := Op.store 25 (Operand.tmp 4) (Operand.tmp 56), type := 0, pos := "ref.go:128", after := #[{ on := 0, ground := Ground.data }, { on := 13, ground := Ground.chain }, { on := 0, ground := Ground.phase }, { on := 1, ground := Ground.textOnly Departure.lateStores }, { on := 2, ground := Ground.textOnly Departure.lateStoresUnsure }, { on := 3, ground := Ground.textOnly Departure.lateStores }, { on := 4, ground := Ground.textOnly Departure.lateStores }, { on := 5, ground := Ground.textOnly Departure.lateStores }, { on := 6, ground := Ground.textOnly Departure.lateStores }, { on := 7, ground := Ground.textOnly Departure.lateStores }, { on := 8, ground := Ground.textOnly Departure.lateStores }, { on := 9, ground := Ground.textOnly Departure.lateStores }, { on := 10, ground := Ground.textOnly Departure.lateStores }, { on := 11, ground := Ground.textOnly Departure.lateStores }, { on := 12, ground := Ground.textOnly Departure.lateStores }, { on := 13, ground := Ground.textOnly Departure.lateStores }, { on := 14, ground := Ground.textOnly Departure.lateStores }, { on := 15, ground := Ground.textOnly Departure.lateStores }, { on := 16, ground := Ground.textOnly Departure.lateStoresUnsure }, { on := 17, ground := Ground.textOnly Departure.lateStores }, { on := 18, ground := Ground.textOnly Departure.lateStores }, { on := 19, ground := Ground.textOnly Departure.lateStores }], guard := none }) rfl (fun K hK => ?_) AllReadyH.nil)
    refine wp_store_all 25 _ _ rfl w.heap.size ?csu105n ?hxu105n ?hyu105n rz 25 ?hzu105n ?hfu105n 4 ?hnu105n Try.size25 ?h1u105n ?_
    case hyu105n => exact rfl
    case hxu105n => exact rfl
    case hzu105n => exact (hv1.block _ (lt_of_block (show u9.drew.heap[w.heap.size]? = _ from HS9.out)) (by simp)).trans HS9.out
    case hfu105n => exact rfl
    case hnu105n => exact rfl
    case h1u105n => simp [allOne, Value.oneCell']
    intro v2 hb2 h2
    refine regx_next hK (Keeps.row h2 rfl) ?_
    clear hK K
    try simp only [Act.put]
    refine regx_take 21 (some 5) (v := ?_) rfl rfl (by kernel_rfl) (by kernel_rfl) (by kernel_rfl) (fun _ _ _ h => h) (by rfl) ?_ ?_
    rotate_left
    · intro W hW; go_simp; first | done | with_reducible rfl
    try simp only [Act.put, List.setIfInBounds_toArray, List.set_cons_zero, List.set_cons_succ]
    refine wpAnyH_done (by kernel_rfl) ?_ _
    have HB2 := Lib.hid hb2
    have HV2 := Lib.hid (grown_new (HG9.out.trans (drewl hv1)) h2 (Nat.le_refl _))
    have HV1 := Lib.hid (drewl hv1)
    have HS1 := Lib.hid (keep_blk hv1 HS9.out)
    have H2 := Lib.hid h2
    clear hv1 hb2 h2
    go_wp2
    refine bodyPost_ret (results_c25t rfl _ _ _ _ (by rfl) (by rfl) HB2.out) (by rfl) ?_
    exact bodyDo_no HO.out HV2.out
set_option maxRecDepth 100000 in
set_option maxHeartbeats 4000000 in
theorem rbody_b4n (x : Option Addr) (cap : Nat) (l : List UInt8) (last : Int) (w : World) (hs : Go.Proofs.Ytpoifobhbmhelaa.Src w x l) (hcap : l.length ≤ cap) (hl : l.length ≤ 1000000) (h0 : 0 ≤ last) (h1 : last ≤ 4611686018427387904) (c : UInt8) (t : List UInt8) (hlt : l = c :: t) (h3 : ¬ l.length < 3) (y : Nat) (u : List UInt8) (ht : take t = .num y u) (hy : (y : Int) ≤ 4611686018427387904 - last) (n0 : Nat) (v0 : List UInt8) (hu : take u = .num n0 v0) (hn0 : n0 < 65536) (hR : ¬ Rt (last + y) c.toNat n0 v0.length) (h8 : c.toNat = 8) (hn8 : ¬ n0 = 0) : Calls Try.prog 39 #[.slice x l.length cap, .int .i64 last] w fun e w' => BodyDo w (decB l last) e w' := by
  have HO := Lib.hid (show decB l last = none from by rw [hlt]; exact decB_b3 ht hu (fun h => h.2.elim hR (fun k => hn8 k.2.1)))
  have HRT := Lib.hid hR
  have HB0 := Lib.hid (show ∀ b o, x = some ⟨b, o, none⟩ → b < w.heap.size from fun b o e => Go.Proofs.Ytpoifobhbmhelaa.Src.lt (e ▸ hs) (by rw [hlt]; simp))
  have HR0 := Lib.hid (heap_alloc_new w (.cells rz.toArray 25))
  have HG0 := Lib.hid (World.grownBy_alloc w (.cells rz.toArray 25) none)
  obtain ⟨n, hn⟩ : ∃ n, n = l.length := ⟨_, rfl⟩
  have hat : 1 ≤ l.length := by omega
  have ht' : take (l.drop 1) = .num y u := by rw [hlt]; exact ht
  have C1 := rtake_any x cap l 1 (w.alloc (.cells rz.toArray 25)) (hs.keptNone HG0.out) hat hl
  rw [ht'] at C1
  rw [← hn] at h3 ⊢ C1
  have h3' : ¬ (n : Int) < 3 := by omega
  have HYB := Lib.hid (take_inv ht).2
  have HDR := Lib.hid (take_drop hat ht')
  have hul : u.length < n := by have := take_lt ht; rw [hn, hlt]; simp; omega
  obtain ⟨A1, hA1⟩ : ∃ A1, A1 = n - u.length := ⟨_, rfl⟩
  have hA2 : A1 ≤ l.length := by omega
  have C2 := rtake_any x cap l A1 (w.alloc (.cells rz.toArray 25)) (hs.keptNone HG0.out) hA2 hl
  rw [show l.drop A1 = u from by rw [hA1, hn]; exact HDR.out, ← hn] at C2
  unfold tkRes at C1
  simp only at C1
  rw [← hA1] at C1
  have hp1 : ¬ (A1 : Int) ≤ 0 := by omega
  have hp2 : 0 < A1 := by omega
  have hp3 : ¬ A1 = 0 := by omega
  obtain ⟨D, hD⟩ : ∃ D : Int, D = 4611686018427387904 - last := ⟨_, rfl⟩
  have hsub : IntKind.i64.wrap (4611686018427387904 - last) = D := by rw [IntKind.wrap_i64]; omega
  have HDD := Lib.hid hD
  have HA1 := Lib.hid hA1
  have HN := Lib.hid hn
  have hyD : ¬ D < (y : Int) := by omega
  have HUV := Lib.hid (take_lt hu)
  have HDR2 := Lib.hid (show l.drop (n - v0.length) = v0 from by
    have := take_drop (l := l) (k := A1) (r := v0) (n := n0) hA2 (by rw [hA1, hn, HDR.out]; exact hu)
    rw [hn]; exact this)
  rw [hu] at C2
  unfold tkRes at C2
  simp only at C2
  have hvl : v0.length < n := by have := HUV.out; omega
  obtain ⟨A2, hA3⟩ : ∃ A2, A2 = n - v0.length := ⟨_, rfl⟩
  rw [← hA3] at C2 HDR2
  have hr1 : ¬ (A2 : Int) ≤ 0 := by omega
  have hr2 : 0 < A2 := by omega
  have hr3 : ¬ A2 = 0 := by omega
  have HA2 := Lib.hid hA3
  have HVL := Lib.hid hvl
  obtain ⟨m, hm⟩ : ∃ m, m = v0.length := ⟨_, rfl⟩
  obtain ⟨x3, c3, hsl, hc3, hs3⟩ := src_from hs hcap A2 (by omega)
  rw [HDR2.out] at hs3
  obtain ⟨b, o, hx, hcb⟩ := src_some hs (by rw [hlt]; simp)
  obtain ⟨d, hd⟩ : ∃ d : Nat, d = c.toNat := ⟨_, rfl⟩
  have hd256 : d < 256 := by rw [hd]; exact c.toNat_lt
  have hwd : IntKind.i64.wrap (d : Int) = (d : Int) := by rw [IntKind.wrap_i64]; omega
  have HKC := Lib.hid (show (w.alloc (.cells rz.toArray 25)).cell? ⟨b, o, none⟩ = some (.int .u8 (d : Int)) from by
    have := hcb 0 (by omega)
    rw [hd]
    refine keep_cell HG0.out (this.trans ?_)
    simp [hlt])
  have HSL := Lib.hid (show Value.slice x3 m c3 = sliced x A2 n cap 1 from by rw [hm, hn, hsl]; congr 1; omega)
  have HS3 := Lib.hid (hs3.keptNone HG0.out)
  have HM1 := Lib.hid (show m ≤ 1000000 from by rw [hm]; omega)
  have HA2N := Lib.hid (show A2 ≤ n from by omega)
  obtain ⟨A, hA⟩ : ∃ A : Int, A = last + y := ⟨_, rfl⟩
  have hadd : IntKind.i64.wrap (last + (y : Int)) = A := by rw [IntKind.wrap_i64]; omega
  have hnb : ¬ (65535 : Int) < (n0 : Nat) := by omega
  have hRt : decide (Rt A d n0 m) = false := decide_eq_false (by rw [hA, hd, hm]; exact hR)
  have HAA := Lib.hid hA
  have HD := Lib.hid hd
  have HM := Lib.hid hm
  have HONE := Lib.hid (bs_one v0)
  have HBK := Lib.hid (HB0.out b o hx)
  clear HB0
  have hnp : 0 < n := by omega
  have e8 : ((d : Int) == 8) = true := by simp; omega
  have e9 : ((n0 : Int) == 0) = false := by simp; omega
  have HE := Lib.hid (And.intro h8 hn8)
  clear h8 hn8
  subst hx
  clear hy hu hn0 hR
  clear hm hsl hc3 hs3 hcb hd hA
  clear hvl hA3
  clear hul hA1 hA2 hD hn h3 hat ht' hlt ht hs hcap hl h0 h1
  go_enter Try.func39, Try.ntmps39
  go_wp2_with fail
  refine C1.mono ?_; rintro e w2 ⟨rfl, rfl⟩
  clear C1
  go_wp2_with fail
  refine C2.mono ?_; rintro e w2 ⟨rfl, rfl⟩
  clear C2
  go_wp2
  refine regx_open (fun k => w.heap.size + 1 ≤ k) (n := 16) rfl (by kernel_rfl) ?_
  refine regx_take 0 (some 42) (v := ?_) rfl rfl (by kernel_rfl) (by kernel_rfl) (by kernel_rfl) (fun _ _ _ h => h) (by rfl) ?_ ?_
  rotate_left
  · intro W hW; go_simp; first | done | with_reducible rfl
  try simp only [Act.put, List.setIfInBounds_toArray, List.set_cons_zero, List.set_cons_succ]
  refine regx_take 1 (some 43) (v := ?_) rfl rfl (by kernel_rfl) (by kernel_rfl) (by kernel_rfl) (fun _ _ _ h => h) (by rfl) ?_ ?_
  rotate_left
  · intro W hW; go_simp; first | done | with_reducible rfl
  try simp only [Act.put, List.setIfInBounds_toArray, List.set_cons_zero, List.set_cons_succ]
  refine regx_take 2 (some 44) (v := ?_) rfl rfl (by kernel_rfl) (by kernel_rfl) (by kernel_rfl) (fun _ _ _ h => h) (by rfl) ?_ ?_
  rotate_left
  · intro W hW; go_simp; first | done | with_reducible rfl
  try simp only [Act.put, List.setIfInBounds_toArray, List.set_cons_zero, List.set_cons_succ]
  refine regx_take 3 (some 45) (v := ?_) rfl rfl (by kernel_rfl) (by kernel_rfl) (by kernel_rfl) (fun _ _ _ h => h) (by rfl) ?_ ?_
  rotate_left
  · intro W hW; go_simp; first | done | with_reducible rfl
  try simp only [Act.put, List.setIfInBounds_toArray, List.set_cons_zero, List.set_cons_succ]
  refine regx_take 4 (some 46) (v := ?_) rfl rfl (by kernel_rfl) (by kernel_rfl) (by kernel_rfl) (fun _ _ _ h => h) (by rfl) ?_ ?_
  rotate_left
  · intro W hW; go_simp; first | done | with_reducible rfl
  try simp only [Act.put, List.setIfInBounds_toArray, List.set_cons_zero, List.set_cons_succ]
  refine regx_take 5 (some 47) (v := ?_) rfl rfl (by kernel_rfl) (by kernel_rfl) (by kernel_rfl) (fun _ _ _ h => h) (by rfl) ?_ ?_
  rotate_left
  · intro W hW; have k := keeps_cell hW (show (w.alloc (.cells rz.toArray 25)).drew.cell? ⟨b, o, none⟩ = some (.int .u8 (d : Int)) from HKC.out) (by have := HBK.out; simp; omega); go_simp; first | done | with_reducible rfl
  try simp only [Act.put, List.setIfInBounds_toArray, List.set_cons_zero, List.set_cons_succ]
  refine regx_take 6 (some 48) (v := ?_) rfl rfl (by kernel_rfl) (by kernel_rfl) (by kernel_rfl) (fun _ _ _ h => h) (by rfl) ?_ ?_
  rotate_left
  · intro W hW; go_simp; first | done | with_reducible rfl
  try simp only [Act.put, List.setIfInBounds_toArray, List.set_cons_zero, List.set_cons_succ]
  refine regx_take 7 (some 49) (v := ?_) rfl rfl (by kernel_rfl) (by kernel_rfl) (by kernel_rfl) (fun _ _ _ h => h) (by rfl) ?_ ?_
  rotate_left
  · intro W hW; go_simp; first | done | with_reducible rfl
  try simp only [Act.put, List.setIfInBounds_toArray, List.set_cons_zero, List.set_cons_succ]
  refine regx_take 9 (some 51) (v := ?_) rfl rfl (by kernel_rfl) (by kernel_rfl) (by kernel_rfl) (fun _ _ _ h => h) (by rfl) ?_ ?_
  rotate_left
  · intro W hW; go_simp; first | done | with_reducible rfl
  try simp only [Act.put, List.setIfInBounds_toArray, List.set_cons_zero, List.set_cons_succ]
  refine regx_take 10 (some 52) (v := ?_) rfl rfl (by kernel_rfl) (by kernel_rfl) (by kernel_rfl) (fun _ _ _ h => h) (by rfl) ?_ ?_
  rotate_left
  · intro W hW; go_simp; first | done | with_reducible rfl
  try simp only [Act.put, List.setIfInBounds_toArray, List.set_cons_zero, List.set_cons_succ]
  refine regx_take 11 (some 53) (v := ?_) rfl rfl (by kernel_rfl) (by kernel_rfl) (by kernel_rfl) (fun _ _ _ h => h) (by rfl) ?_ ?_
  rotate_left
  · intro W hW; refine exec_sl eB elemB (x := .tmp 51) (y := .tmp 52) ?_ (some ⟨b, o, none⟩) n cap A2 ?_ ?_ HA2N.out _ (.slice x3 m c3) HSL.out <;> rfl
  try simp only [Act.put, List.setIfInBounds_toArray, List.set_cons_zero, List.set_cons_succ]
  refine wpAnyH_ready (rs := [8, 14]) (by kernel_rfl) (by simp) ?_
  refine (AllReadyH.cons (o := { dst := some 50, op := Op.buildSlice 23 0 #[], type := 23, pos := "ref.go:127", after := #[], guard := none }) rfl (fun K hK => ?_) (AllReadyH.cons (o := { dst := some 10, op := Op.alloc 25, type := 0, pos := "ref.go:127", after := #[], guard := none }) rfl (fun K hK => ?_) AllReadyH.nil))
  · go_simp
    have hn5 := Gs.empty (w.alloc (.cells rz.toArray 25)).drew; simp at hn5; have hm5 := World.grownBy_alloc (w.alloc (.cells rz.toArray 25)).drew (.cells #[] 5) none; have hz5 := heap_alloc_new (w.alloc (.cells rz.toArray 25)).drew (.cells #[] 5); have hx5 : w.heap.size + 1 ≤ (w.alloc (.cells rz.toArray 25)).drew.heap.size := (by simp)
    refine regx_next hK (Keeps.keep hm5) ?_
    clear hK K
    try simp only [Act.put, List.setIfInBounds_toArray, List.set_cons_zero, List.set_cons_succ]
    refine wpAnyH_ready (rs := [12, 14]) (by kernel_rfl) (by simp) ?_
    refine (AllReadyH.cons (o := { dst := some 54, op := Op.call { callee := Callee.builtin Builtin.append, args := #[Operand.tmp 50, Operand.tmp 53], argTypes := #[23, 23] }, type := 23, pos := "ref.go:127", after := #[{ on := 8, ground := Ground.data }, { on := 11, ground := Ground.data }], guard := none }) rfl (fun K hK => ?_) (AllReadyH.cons (o := { dst := some 10, op := Op.alloc 25, type := 0, pos := "ref.go:127", after := #[], guard := none }) rfl (fun K hK => ?_) AllReadyH.nil))
    · first | refine wp_gs eB 23 (.tmp 50) (.tmp 53) rfl (.slice (some ⟨w.heap.size + 1, 0, none⟩) 0 0) _ 0 m [] (bsV v0) (by rfl) (by rfl) ?ggu118 (src_gon (c := c3) HM.out ?gsu118) HONE.out (by have := HM1.out; omega) ?_ | refine wp_gs eB 23 (.tmp 50) (.tmp 53) rfl (.slice (some ⟨w.heap.size + 1 + 1, 0, none⟩) 0 0) _ 0 m [] (bsV v0) (by rfl) (by rfl) ?ggu118 (src_gon (c := c3) HM.out ?gsu118) HONE.out (by have := HM1.out; omega) ?_
      case ggu118 => first | exact hn5 | exact hn5.keptNone ⟨rfl, rfl, rfl, by simp, fun k hk _ => heap_alloc_old _ _ (by simpa using hk)⟩
      case gsu118 => exact HS3.out.keptNone (drewl (Keeps.toGrown (X := fun k => w.heap.size + 1 ≤ k) (Keeps.keep hm5) (by intro i hi; simp at hi ⊢; omega)))
      intro v4 u4 hQ4 hg4 hr4
      obtain ⟨a4, c4, hv4, _⟩ := hQ4.shape
      rw [Nat.zero_add] at hv4
      subst hv4
      first | have hk54 : World.grownBy _ u4 (some (w.heap.size + 1)) := hg4 | have hk54 : World.grownBy _ u4 (some (w.heap.size + 1 + 1)) := hg4
      refine regx_next hK (Keeps.of hk54 (fun r e => by cases e; first | exact hx5 | (simp <;> omega))) ?_
      clear hK K
      try simp only [Act.put, List.setIfInBounds_toArray, List.set_cons_zero, List.set_cons_succ]
      refine regx_take 13 (some 55) (v := ?_) rfl rfl (by kernel_rfl) (by kernel_rfl) (by kernel_rfl) (fun _ _ _ h => h) (by rfl) ?_ ?_
      rotate_left
      · intro W hW; go_simp; first | done | with_reducible rfl
      try simp only [Act.put, List.setIfInBounds_toArray, List.set_cons_zero, List.set_cons_succ]
      refine wpAnyH_ready (rs := [14]) (by kernel_rfl) (by simp) ?_
      refine (AllReadyH.cons (o := { dst := some 10, op := Op.alloc 25, type := 0, pos := "ref.go:127", after := #[], guard := none }) rfl (fun K hK => ?_) AllReadyH.nil)
      go_simp
      have hn := heap_alloc_new u4 (.cells rz.toArray 25); have hm := World.grownBy_alloc u4 (.cells rz.toArray 25) none; have hx10 : w.heap.size + 1 ≤ u4.heap.size := (by first | simp | (have := hk54.size; simp at this; omega))
      refine regx_next hK (Keeps.keep hm) ?_
      clear hK K
      try simp only [Act.put, List.setIfInBounds_toArray, List.set_cons_zero, List.set_cons_succ]
      refine wpAnyH_ready (rs := [15]) (by kernel_rfl) (by simp) ?_
      refine (AllReadyH.cons (o := { dst := none, op := Op.store 25 (Operand.tmp 10) (Operand.tmp 55), type := 0, pos := "ref.go:127", after := #[{ on := 14, ground := Ground.data }, { on := 13, ground := Ground.data }, { on := 12, ground := Ground.chain }, { on := 0, ground := Ground.phase }, { on := 1, ground := Ground.phase }, { on := 2, ground := Ground.phase }, { on := 3, ground := Ground.phase }, { on := 4, ground := Ground.phase }, { on := 5, ground := Ground.phase }, { on := 6, ground := Ground.phase }, { on := 7, ground := Ground.phase }, { on := 8, ground := Ground.phase }, { on := 9, ground := Ground.phase }, { on := 10, ground := Ground.phase }, { on := 11, ground := Ground.phase }, { on := 12, ground := Ground.phase }, { on := 13, ground := Ground.phase }, { on := 14, ground := Ground.phase }], guard := none }) rfl (fun K hK => ?_) AllReadyH.nil)
      first | have hz9 : (u4.alloc (.cells rz.toArray 25)).heap[u4.heap.size]? = some (.cells rz.toArray 25 (0, 0)) := hn | have hz9 : u4.heap[w.heap.size + 1 + 1]? = some (.cells rz.toArray 25 (0, 0)) := (by have hz7 := hn; rw [show ((w.alloc (.cells rz.toArray 25)).drew.alloc (.cells #[] 5)).heap.size = w.heap.size + 1 + 1 from (World.size_alloc _ _).trans (congrArg (· + 1) (World.size_alloc w _))] at hz7; exact (hk54.block _ (by simp) (by simp)).trans hz7) | have hz9 : u4.heap[w.heap.size + 1]? = some (.cells rz.toArray 25 (0, 0)) := (by have hz7 := keep_blk hm5 hn; rw [show (w.alloc (.cells rz.toArray 25)).drew.heap.size = w.heap.size + 1 from World.size_alloc w _] at hz7; exact (hk54.block _ (by simp) (by simp)).trans hz7)
      refine wp_store_all 25 _ _ rfl ?bu122 ?csu122 ?hxu122 ?hyu122 rz 25 ?hzu122 ?hfu122 4 ?hnu122 Try.size25 ?h1u122 ?_
      case hyu122 => exact rfl
      case hxu122 => exact rfl
      case hzu122 => exact hz9
      case hfu122 => exact rfl
      case hnu122 => exact rfl
      case h1u122 => simp [allOne, Value.oneCell']
      intro u9 hb9 h9
      refine regx_next hK (Keeps.row h9 (by first | exact hx10 | (simp <;> omega))) ?_
      clear hK K
      try simp only [Act.put]
      refine wpAnyH_done (by kernel_rfl) ?_ _
      have hk9 : Keeps (fun k => w.heap.size + 1 ≤ k) (w.alloc (.cells rz.toArray 25)).drew u9 := ((Keeps.keep hm5).trans ((Keeps.of hk54 (fun r e => by cases e; first | exact hx5 | (simp <;> omega))).trans ((Keeps.keep hm).trans (Keeps.row h9 (by first | exact hx10 | (simp <;> omega))))))
      have HQ9 := Lib.hid (gs_end hQ4 (by first | exact World.grownBy.refl _ _ | exact World.grownBy_alloc _ _ _) hz9 h9)
      have HR9 := Lib.hid (show ∀ k, rowOf (.slice a4 m c4) = some k → w.heap.size ≤ k from fun k hk => by rcases hr4 with h | h <;> (rw [h] at hk; cases hk; simp <;> omega))
      have HB9 := Lib.hid hb9
      have HBN := Lib.hid (nb (S := w.heap.size) hb9 (by first | (simp <;> omega) | (have := hx10; omega)))
      have HS9 := Lib.hid ((hk9.block w.heap.size (by simp) (by simp)).trans HR0.out)
      have HG9 := Lib.hid (HG0.out.trans (drewl (hk9.toGrown (by intro i hi; simp at hi ⊢; omega))))
      have HKC9 := Lib.hid (keeps_cell hk9 (show (w.alloc (.cells rz.toArray 25)).drew.cell? ⟨b, o, none⟩ = some (.int .u8 (d : Int)) from HKC.out) (by have := HBK.out; simp; omega))
      clear hk9 hQ4 hr4 hb9 h9 hk54 hg4 hz9 hn hm hn5 hm5 hz5 hx5 hx10
      go_wp2
      refine regx_open (fun k => k = w.heap.size) (n := 22) rfl (by kernel_rfl) ?_
      refine regx_take 0 (some 56) (v := ?_) rfl rfl (by kernel_rfl) (by kernel_rfl) (by kernel_rfl) (fun _ _ _ h => h) (by rfl) ?_ ?_
      rotate_left
      · intro W hW; refine exec_ld25 (x := .tmp 10) ?_ ?_ (((hW).block _ (lt_of_block HB9.out) HBN.out).trans HB9.out) <;> rfl
      try simp only [Act.put, List.setIfInBounds_toArray, List.set_cons_zero, List.set_cons_succ]
      refine regx_take 1 (some 57) (v := ?_) rfl rfl (by kernel_rfl) (by kernel_rfl) (by kernel_rfl) (fun _ _ _ h => h) (by rfl) ?_ ?_
      rotate_left
      · intro W hW; refine exec_ld25 (x := .tmp 10) ?_ ?_ (((hW).block _ (lt_of_block HB9.out) HBN.out).trans HB9.out) <;> rfl
      try simp only [Act.put, List.setIfInBounds_toArray, List.set_cons_zero, List.set_cons_succ]
      refine wpAnyH_ready (rs := [2]) (by kernel_rfl) (by simp) ?_
      refine (AllReadyH.cons (o := { dst := some 58, op := Op.call { callee := Callee.value (Operand.func 12), args := #[Operand.tmp 57], argTypes := #[25] }, type := 4, pos := "ref.go:128", after := #[{ on := 1, ground := Ground.data }], guard := none }) rfl (fun K hK => ?_) AllReadyH.nil)
      go_simp
      refine (rright_any A d n0 a4 m c4 _).mono ?_; rintro e v1 ⟨rfl, hv1⟩
      simp only [hRt]
      refine regx_next hK (Keeps.keep hv1) ?_
      clear hK K
      try simp only [Act.put, List.setIfInBounds_toArray, List.set_cons_zero, List.set_cons_succ]
      refine regx_take 3 (some 59) (v := ?_) rfl rfl (by kernel_rfl) (by kernel_rfl) (by kernel_rfl) (fun _ _ _ h => h) (by rfl) ?_ ?_
      rotate_left
      · intro W hW; go_simp; first | done | with_reducible rfl
      try simp only [Act.put, List.setIfInBounds_toArray, List.set_cons_zero, List.set_cons_succ]
      refine regx_take 4 (some 60) (v := ?_) rfl rfl (by kernel_rfl) (by kernel_rfl) (by kernel_rfl) (fun _ _ _ h => h) (by rfl) ?_ ?_
      rotate_left
      · intro W hW; go_simp; first | done | with_reducible rfl
      try simp only [Act.put, List.setIfInBounds_toArray, List.set_cons_zero, List.set_cons_succ]
      refine regx_take 5 (some 61) (v := ?_) rfl rfl (by kernel_rfl) (by kernel_rfl) (by kernel_rfl) (fun _ _ _ h => h) (by rfl) ?_ ?_
      rotate_left
      · intro W hW; go_simp; first | done | with_reducible rfl
      try simp only [Act.put, List.setIfInBounds_toArray, List.set_cons_zero, List.set_cons_succ]
      refine regx_take 6 (some 62) (v := ?_) rfl rfl (by kernel_rfl) (by kernel_rfl) (by kernel_rfl) (fun _ _ _ h => h) (by rfl) ?_ ?_
      rotate_left
      · intro W hW; have k := keeps_cell ((Keeps.keep hv1).trans hW) (show u9.drew.cell? ⟨b, o, none⟩ = some (.int .u8 (d : Int)) from HKC9.out) (by have := HBK.out; simp; omega); go_simp; first | done | with_reducible rfl
      try simp only [Act.put, List.setIfInBounds_toArray, List.set_cons_zero, List.set_cons_succ]
      refine regx_take 7 (some 63) (v := ?_) rfl rfl (by kernel_rfl) (by kernel_rfl) (by kernel_rfl) (fun _ _ _ h => h) (by rfl) ?_ ?_
      rotate_left
      · intro W hW; go_simp; first | done | with_reducible rfl
      try simp only [Act.put, List.setIfInBounds_toArray, List.set_cons_zero, List.set_cons_succ]
      refine regx_take 8 (some 64) (v := ?_) rfl rfl (by kernel_rfl) (by kernel_rfl) (by kernel_rfl) (fun _ _ _ h => h) (by rfl) ?_ ?_
      rotate_left
      · intro W hW; go_simp; first | done | with_reducible rfl
      try simp only [Act.put, List.setIfInBounds_toArray, List.set_cons_zero, List.set_cons_succ]
      refine regx_take 9 (some 65) (v := ?_) rfl rfl (by kernel_rfl) (by kernel_rfl) (by kernel_rfl) (fun _ _ _ h => h) (by rfl) ?_ ?_
      rotate_left
      · intro W hW; go_simp; first | done | with_reducible rfl
      try simp only [Act.put, List.setIfInBounds_toArray, List.set_cons_zero, List.set_cons_succ]
      refine regx_take 10 (some 66) (v := ?_) rfl rfl (by kernel_rfl) (by kernel_rfl) (by kernel_rfl) (fun _ _ _ h => h) (by rfl) ?_ ?_
      rotate_left
      · intro W hW; go_simp; first | done | with_reducible rfl
      try simp only [Act.put, List.setIfInBounds_toArray, List.set_cons_zero, List.set_cons_succ]
      refine regx_take 11 (some 67) (v := ?_) rfl rfl (by kernel_rfl) (by kernel_rfl) (by kernel_rfl) (fun _ _ _ h => h) (by rfl) ?_ ?_
      rotate_left
      · intro W hW; go_simp; first | done | with_reducible rfl
      try simp only [Act.put, List.setIfInBounds_toArray, List.set_cons_zero, List.set_cons_succ]
      refine regx_take 12 (some 68) (v := ?_) rfl rfl (by kernel_rfl) (by kernel_rfl) (by kernel_rfl) (fun _ _ _ h => h) (by rfl) ?_ ?_
      rotate_left
      · intro W hW; go_simp; first | done | with_reducible rfl
      try simp only [Act.put, List.setIfInBounds_toArray, List.set_cons_zero, List.set_cons_succ]
      refine regx_take 13 (some 69) (v := ?_) rfl rfl (by kernel_rfl) (by kernel_rfl) (by kernel_rfl) (fun _ _ _ h => h) (by rfl) ?_ ?_
      rotate_left
      · intro W hW; go_simp; first | done | with_reducible rfl
      try simp only [Act.put, List.setIfInBounds_toArray, List.set_cons_zero, List.set_cons_succ]
      refine regx_skip 14 (some 70) rfl rfl (by kernel_rfl) (by kernel_rfl) (by kernel_rfl) (fun _ _ _ h => h) (by rfl) ?_
      try simp only [Act.put, List.setIfInBounds_toArray, List.set_cons_zero, List.set_cons_succ]
      refine regx_skip 15 (some 71) rfl rfl (by kernel_rfl) (by kernel_rfl) (by kernel_rfl) (fun _ _ _ h => h) (by rfl) ?_
      try simp only [Act.put, List.setIfInBounds_toArray, List.set_cons_zero, List.set_cons_succ]
      refine regx_skip 16 (some 72) rfl rfl (by kernel_rfl) (by kernel_rfl) (by kernel_rfl) (fun _ _ _ h => h) (by rfl) ?_
      try simp only [Act.put, List.setIfInBounds_toArray, List.set_cons_zero, List.set_cons_succ]
      refine regx_skip 17 (some 73) rfl rfl (by kernel_rfl) (by kernel_rfl) (by kernel_rfl) (fun _ _ _ h => h) (by rfl) ?_
      try simp only [Act.put, List.setIfInBounds_toArray, List.set_cons_zero, List.set_cons_succ]
      refine regx_take 18 (some 74) (v := ?_) rfl rfl (by kernel_rfl) (by kernel_rfl) (by kernel_rfl) (fun _ _ _ h => h) (by rfl) ?_ ?_
      rotate_left
      · intro W hW; go_simp; first | done | with_reducible rfl
      try simp only [Act.put, List.setIfInBounds_toArray, List.set_cons_zero, List.set_cons_succ]
      refine regx_take 19 (some 75) (v := ?_) rfl rfl (by kernel_rfl) (by kernel_rfl) (by kernel_rfl) (fun _ _ _ h => h) (by rfl) ?_ ?_
      rotate_left
      · intro W hW; go_simp; first | done | with_reducible rfl
      try simp only [Act.put, List.setIfInBounds_toArray, List.set_cons_zero, List.set_cons_succ]
      refine wpAnyH_ready (rs := [20]) (by kernel_rfl) (by simp) ?_
      refine (AllReadyH.cons (o := { dst := none, op := Op.store 25 (Operand.tmp 4) (Operand.tmp 56), type := 0, pos := "ref.go:128", after := #[{ on := 0, ground := Ground.data }, { on := 13, ground := Ground.chain }, { on := 0, ground := Ground.phase }, { on := 1, ground := Ground.textOnly Departure.lateStores }, { on := 2, ground := Ground.textOnly Departure.lateStoresUnsure }, { on := 3, ground := Ground.textOnly Departure.lateStores }, { on := 4, ground := Ground.textOnly Departure.lateStores }, { on := 5, ground := Ground.textOnly Departure.lateStores }, { on := 6, ground := Ground.textOnly Departure.lateStores }, { on := 7, ground := Ground.textOnly Departure.lateStores }, { on := 8, ground := Ground.textOnly Departure.lateStores }, { on := 9, ground := Ground.textOnly Departure.lateStores }, { on := 10, ground := Ground.textOnly Departure.lateStores }, { on := 11, ground := Ground.textOnly Departure.lateStores }, { on := 12, ground := Ground.textOnly Departure.lateStores }, { on := 13, ground := Ground.textOnly Departure.lateStores }, { on := 14, ground := Ground.textOnly Departure.lateStores }, { on := 15, ground := Ground.textOnly Departure.lateStores }, { on := 16, ground := Ground.textOnly Departure.lateStoresUnsure }, { on := 17, ground := Ground.textOnly Departure.lateStores }, { on := 18, ground := Ground.textOnly Departure.lateStores }, { on := 19, ground := Ground.textOnly Departure.lateStores }], guard := none }) rfl (fun K hK => ?_) AllReadyH.nil)
      refine wp_store_all 25 _ _ rfl w.heap.size ?csu124n ?hxu124n ?hyu124n rz 25 ?hzu124n ?hfu124n 4 ?hnu124n Try.size25 ?h1u124n ?_
      case hyu124n => exact rfl
      case hxu124n => exact rfl
      case hzu124n => exact (hv1.block _ (lt_of_block (show u9.drew.heap[w.heap.size]? = _ from HS9.out)) (by simp)).trans HS9.out
      case hfu124n => exact rfl
      case hnu124n => exact rfl
      case h1u124n => simp [allOne, Value.oneCell']
      intro v2 hb2 h2
      refine regx_next hK (Keeps.row h2 rfl) ?_
      clear hK K
      try simp only [Act.put]
      refine regx_take 21 (some 5) (v := ?_) rfl rfl (by kernel_rfl) (by kernel_rfl) (by kernel_rfl) (fun _ _ _ h => h) (by rfl) ?_ ?_
      rotate_left
      · intro W hW; go_simp; first | done | with_reducible rfl
      try simp only [Act.put, List.setIfInBounds_toArray, List.set_cons_zero, List.set_cons_succ]
      refine wpAnyH_done (by kernel_rfl) ?_ _
      have HB2 := Lib.hid hb2
      have HV2 := Lib.hid (grown_new (HG9.out.trans (drewl hv1)) h2 (Nat.le_refl _))
      have HV1 := Lib.hid (drewl hv1)
      have HS1 := Lib.hid (keep_blk hv1 HS9.out)
      have H2 := Lib.hid h2
      clear hv1 hb2 h2
      go_wp2
      refine bodyPost_ret (results_c25t rfl _ _ _ _ (by rfl) (by rfl) HB2.out) (by rfl) ?_
      exact bodyDo_no HO.out HV2.out
    · go_simp
      have hn := heap_alloc_new ((w.alloc (.cells rz.toArray 25)).drew.alloc (.cells #[] 5)) (.cells rz.toArray 25); have hm := World.grownBy_alloc ((w.alloc (.cells rz.toArray 25)).drew.alloc (.cells #[] 5)) (.cells rz.toArray 25) none; have hx10 : w.heap.size + 1 ≤ ((w.alloc (.cells rz.toArray 25)).drew.alloc (.cells #[] 5)).heap.size := (by first | simp | (have := hk54.size; simp at this; omega))
      refine regx_next hK (Keeps.keep hm) ?_
      clear hK K
      try simp only [Act.put, List.setIfInBounds_toArray, List.set_cons_zero, List.set_cons_succ]
      refine wpAnyH_ready (rs := [12]) (by kernel_rfl) (by simp) ?_
      refine (AllReadyH.cons (o := { dst := some 54, op := Op.call { callee := Callee.builtin Builtin.append, args := #[Operand.tmp 50, Operand.tmp 53], argTypes := #[23, 23] }, type := 23, pos := "ref.go:127", after := #[{ on := 8, ground := Ground.data }, { on := 11, ground := Ground.data }], guard := none }) rfl (fun K hK => ?_) AllReadyH.nil)
      first | refine wp_gs eB 23 (.tmp 50) (.tmp 53) rfl (.slice (some ⟨w.heap.size + 1, 0, none⟩) 0 0) _ 0 m [] (bsV v0) (by rfl) (by rfl) ?ggu127 (src_gon (c := c3) HM.out ?gsu127) HONE.out (by have := HM1.out; omega) ?_ | refine wp_gs eB 23 (.tmp 50) (.tmp 53) rfl (.slice (some ⟨w.heap.size + 1 + 1, 0, none⟩) 0 0) _ 0 m [] (bsV v0) (by rfl) (by rfl) ?ggu127 (src_gon (c := c3) HM.out ?gsu127) HONE.out (by have := HM1.out; omega) ?_
      case ggu127 => first | exact hn5 | exact hn5.keptNone ⟨rfl, rfl, rfl, by simp, fun k hk _ => heap_alloc_old _ _ (by simpa using hk)⟩
      case gsu127 => exact HS3.out.keptNone (drewl (Keeps.toGrown (X := fun k => w.heap.size + 1 ≤ k) ((Keeps.keep hm5).trans (Keeps.keep hm)) (by intro i hi; simp at hi ⊢; omega)))
      intro v4 u4 hQ4 hg4 hr4
      obtain ⟨a4, c4, hv4, _⟩ := hQ4.shape
      rw [Nat.zero_add] at hv4
      subst hv4
      first | have hk54 : World.grownBy _ u4 (some (w.heap.size + 1)) := hg4 | have hk54 : World.grownBy _ u4 (some (w.heap.size + 1 + 1)) := hg4
      refine regx_next hK (Keeps.of hk54 (fun r e => by cases e; first | exact hx5 | (simp <;> omega))) ?_
      clear hK K
      try simp only [Act.put, List.setIfInBounds_toArray, List.set_cons_zero, List.set_cons_succ]
      refine regx_take 13 (some 55) (v := ?_) rfl rfl (by kernel_rfl) (by kernel_rfl) (by kernel_rfl) (fun _ _ _ h => h) (by rfl) ?_ ?_
      rotate_left
      · intro W hW; go_simp; first | done | with_reducible rfl
      try simp only [Act.put, List.setIfInBounds_toArray, List.set_cons_zero, List.set_cons_succ]
      refine wpAnyH_ready (rs := [15]) (by kernel_rfl) (by simp) ?_
      refine (AllReadyH.cons (o := { dst := none, op := Op.store 25 (Operand.tmp 10) (Operand.tmp 55), type := 0, pos := "ref.go:127", after := #[{ on := 14, ground := Ground.data }, { on := 13, ground := Ground.data }, { on := 12, ground := Ground.chain }, { on := 0, ground := Ground.phase }, { on := 1, ground := Ground.phase }, { on := 2, ground := Ground.phase }, { on := 3, ground := Ground.phase }, { on := 4, ground := Ground.phase }, { on := 5, ground := Ground.phase }, { on := 6, ground := Ground.phase }, { on := 7, ground := Ground.phase }, { on := 8, ground := Ground.phase }, { on := 9, ground := Ground.phase }, { on := 10, ground := Ground.phase }, { on := 11, ground := Ground.phase }, { on := 12, ground := Ground.phase }, { on := 13, ground := Ground.phase }, { on := 14, ground := Ground.phase }], guard := none }) rfl (fun K hK => ?_) AllReadyH.nil)
      first | have hz9 : (u4.alloc (.cells rz.toArray 25)).heap[u4.heap.size]? = some (.cells rz.toArray 25 (0, 0)) := hn | have hz9 : u4.heap[w.heap.size + 1 + 1]? = some (.cells rz.toArray 25 (0, 0)) := (by have hz7 := hn; rw [show ((w.alloc (.cells rz.toArray 25)).drew.alloc (.cells #[] 5)).heap.size = w.heap.size + 1 + 1 from (World.size_alloc _ _).trans (congrArg (· + 1) (World.size_alloc w _))] at hz7; exact (hk54.block _ (by simp) (by simp)).trans hz7) | have hz9 : u4.heap[w.heap.size + 1]? = some (.cells rz.toArray 25 (0, 0)) := (by have hz7 := keep_blk hm5 hn; rw [show (w.alloc (.cells rz.toArray 25)).drew.heap.size = w.heap.size + 1 from World.size_alloc w _] at hz7; exact (hk54.block _ (by simp) (by simp)).trans hz7)
      refine wp_store_all 25 _ _ rfl ?bu129 ?csu129 ?hxu129 ?hyu129 rz 25 ?hzu129 ?hfu129 4 ?hnu129 Try.size25 ?h1u129 ?_
      case hyu129 => exact rfl
      case hxu129 => exact rfl
      case hzu129 => exact hz9
      case hfu129 => exact rfl
      case hnu129 => exact rfl
      case h1u129 => simp [allOne, Value.oneCell']
      intro u9 hb9 h9
      refine regx_next hK (Keeps.row h9 (by first | exact hx10 | (simp <;> omega))) ?_
      clear hK K
      try simp only [Act.put]
      refine wpAnyH_done (by kernel_rfl) ?_ _
      have hk9 : Keeps (fun k => w.heap.size + 1 ≤ k) (w.alloc (.cells rz.toArray 25)).drew u9 := ((Keeps.keep hm5).trans ((Keeps.keep hm).trans ((Keeps.of hk54 (fun r e => by cases e; first | exact hx5 | (simp <;> omega))).trans (Keeps.row h9 (by first | exact hx10 | (simp <;> omega))))))
      have HQ9 := Lib.hid (gs_end hQ4 (by first | exact World.grownBy.refl _ _ | exact World.grownBy_alloc _ _ _) hz9 h9)
      have HR9 := Lib.hid (show ∀ k, rowOf (.slice a4 m c4) = some k → w.heap.size ≤ k from fun k hk => by rcases hr4 with h | h <;> (rw [h] at hk; cases hk; simp <;> omega))
      have HB9 := Lib.hid hb9
      have HBN := Lib.hid (nb (S := w.heap.size) hb9 (by first | (simp <;> omega) | (have := hx10; omega)))
      have HS9 := Lib.hid ((hk9.block w.heap.size (by simp) (by simp)).trans HR0.out)
      have HG9 := Lib.hid (HG0.out.trans (drewl (hk9.toGrown (by intro i hi; simp at hi ⊢; omega))))
      have HKC9 := Lib.hid (keeps_cell hk9 (show (w.alloc (.cells rz.toArray 25)).drew.cell? ⟨b, o, none⟩ = some (.int .u8 (d : Int)) from HKC.out) (by have := HBK.out; simp; omega))
      clear hk9 hQ4 hr4 hb9 h9 hk54 hg4 hz9 hn hm hn5 hm5 hz5 hx5 hx10
      go_wp2
      refine regx_open (fun k => k = w.heap.size) (n := 22) rfl (by kernel_rfl) ?_
      refine regx_take 0 (some 56) (v := ?_) rfl rfl (by kernel_rfl) (by kernel_rfl) (by kernel_rfl) (fun _ _ _ h => h) (by rfl) ?_ ?_
      rotate_left
      · intro W hW; refine exec_ld25 (x := .tmp 10) ?_ ?_ (((hW).block _ (lt_of_block HB9.out) HBN.out).trans HB9.out) <;> rfl
      try simp only [Act.put, List.setIfInBounds_toArray, List.set_cons_zero, List.set_cons_succ]
      refine regx_take 1 (some 57) (v := ?_) rfl rfl (by kernel_rfl) (by kernel_rfl) (by kernel_rfl) (fun _ _ _ h => h) (by rfl) ?_ ?_
      rotate_left
      · intro W hW; refine exec_ld25 (x := .tmp 10) ?_ ?_ (((hW).block _ (lt_of_block HB9.out) HBN.out).trans HB9.out) <;> rfl
      try simp only [Act.put, List.setIfInBounds_toArray, List.set_cons_zero, List.set_cons_succ]
      refine wpAnyH_ready (rs := [2]) (by kernel_rfl) (by simp) ?_
      refine (AllReadyH.cons (o := { dst := some 58, op := Op.call { callee := Callee.value (Operand.func 12), args := #[Operand.tmp 57], argTypes := #[25] }, type := 4, pos := "ref.go:128", after := #[{ on := 1, ground := Ground.data }], guard := none }) rfl (fun K hK => ?_) AllReadyH.nil)
      go_simp
      refine (rright_any A d n0 a4 m c4 _).mono ?_; rintro e v1 ⟨rfl, hv1⟩
      simp only [hRt]
      refine regx_next hK (Keeps.keep hv1) ?_
      clear hK K
      try simp only [Act.put, List.setIfInBounds_toArray, List.set_cons_zero, List.set_cons_succ]
      refine regx_take 3 (some 59) (v := ?_) rfl rfl (by kernel_rfl) (by kernel_rfl) (by kernel_rfl) (fun _ _ _ h => h) (by rfl) ?_ ?_
      rotate_left
      · intro W hW; go_simp; first | done | with_reducible rfl
      try simp only [Act.put, List.setIfInBounds_toArray, List.set_cons_zero, List.set_cons_succ]
      refine regx_take 4 (some 60) (v := ?_) rfl rfl (by kernel_rfl) (by kernel_rfl) (by kernel_rfl) (fun _ _ _ h => h) (by rfl) ?_ ?_
      rotate_left
      · intro W hW; go_simp; first | done | with_reducible rfl
      try simp only [Act.put, List.setIfInBounds_toArray, List.set_cons_zero, List.set_cons_succ]
      refine regx_take 5 (some 61) (v := ?_) rfl rfl (by kernel_rfl) (by kernel_rfl) (by kernel_rfl) (fun _ _ _ h => h) (by rfl) ?_ ?_
      rotate_left
      · intro W hW; go_simp; first | done | with_reducible rfl
      try simp only [Act.put, List.setIfInBounds_toArray, List.set_cons_zero, List.set_cons_succ]
      refine regx_take 6 (some 62) (v := ?_) rfl rfl (by kernel_rfl) (by kernel_rfl) (by kernel_rfl) (fun _ _ _ h => h) (by rfl) ?_ ?_
      rotate_left
      · intro W hW; have k := keeps_cell ((Keeps.keep hv1).trans hW) (show u9.drew.cell? ⟨b, o, none⟩ = some (.int .u8 (d : Int)) from HKC9.out) (by have := HBK.out; simp; omega); go_simp; first | done | with_reducible rfl
      try simp only [Act.put, List.setIfInBounds_toArray, List.set_cons_zero, List.set_cons_succ]
      refine regx_take 7 (some 63) (v := ?_) rfl rfl (by kernel_rfl) (by kernel_rfl) (by kernel_rfl) (fun _ _ _ h => h) (by rfl) ?_ ?_
      rotate_left
      · intro W hW; go_simp; first | done | with_reducible rfl
      try simp only [Act.put, List.setIfInBounds_toArray, List.set_cons_zero, List.set_cons_succ]
      refine regx_take 8 (some 64) (v := ?_) rfl rfl (by kernel_rfl) (by kernel_rfl) (by kernel_rfl) (fun _ _ _ h => h) (by rfl) ?_ ?_
      rotate_left
      · intro W hW; go_simp; first | done | with_reducible rfl
      try simp only [Act.put, List.setIfInBounds_toArray, List.set_cons_zero, List.set_cons_succ]
      refine regx_take 9 (some 65) (v := ?_) rfl rfl (by kernel_rfl) (by kernel_rfl) (by kernel_rfl) (fun _ _ _ h => h) (by rfl) ?_ ?_
      rotate_left
      · intro W hW; go_simp; first | done | with_reducible rfl
      try simp only [Act.put, List.setIfInBounds_toArray, List.set_cons_zero, List.set_cons_succ]
      refine regx_take 10 (some 66) (v := ?_) rfl rfl (by kernel_rfl) (by kernel_rfl) (by kernel_rfl) (fun _ _ _ h => h) (by rfl) ?_ ?_
      rotate_left
      · intro W hW; go_simp; first | done | with_reducible rfl
      try simp only [Act.put, List.setIfInBounds_toArray, List.set_cons_zero, List.set_cons_succ]
      refine regx_take 11 (some 67) (v := ?_) rfl rfl (by kernel_rfl) (by kernel_rfl) (by kernel_rfl) (fun _ _ _ h => h) (by rfl) ?_ ?_
      rotate_left
      · intro W hW; go_simp; first | done | with_reducible rfl
      try simp only [Act.put, List.setIfInBounds_toArray, List.set_cons_zero, List.set_cons_succ]
      refine regx_take 12 (some 68) (v := ?_) rfl rfl (by kernel_rfl) (by kernel_rfl) (by kernel_rfl) (fun _ _ _ h => h) (by rfl) ?_ ?_
      rotate_left
      · intro W hW; go_simp; first | done | with_reducible rfl
      try simp only [Act.put, List.setIfInBounds_toArray, List.set_cons_zero, List.set_cons_succ]
      refine regx_take 13 (some 69) (v := ?_) rfl rfl (by kernel_rfl) (by kernel_rfl) (by kernel_rfl) (fun _ _ _ h => h) (by rfl) ?_ ?_
      rotate_left
      · intro W hW; go_simp; first | done | with_reducible rfl
      try simp only [Act.put, List.setIfInBounds_toArray, List.set_cons_zero, List.set_cons_succ]
      refine regx_skip 14 (some 70) rfl rfl (by kernel_rfl) (by kernel_rfl) (by kernel_rfl) (fun _ _ _ h => h) (by rfl) ?_
      try simp only [Act.put, List.setIfInBounds_toArray, List.set_cons_zero, List.set_cons_succ]
      refine regx_skip 15 (some 71) rfl rfl (by kernel_rfl) (by kernel_rfl) (by kernel_rfl) (fun _ _ _ h => h) (by rfl) ?_
      try simp only [Act.put, List.setIfInBounds_toArray, List.set_cons_zero, List.set_cons_succ]
      refine regx_skip 16 (some 72) rfl rfl (by kernel_rfl) (by kernel_rfl) (by kernel_rfl) (fun _ _ _ h => h) (by rfl) ?_
      try simp only [Act.put, List.setIfInBounds_toArray, List.set_cons_zero, List.set_cons_succ]
      refine regx_skip 17 (some 73) rfl rfl (by kernel_rfl) (by kernel_rfl) (by kernel_rfl) (fun _ _ _ h => h) (by rfl) ?_
      try simp only [Act.put, List.setIfInBounds_toArray, List.set_cons_zero, List.set_cons_succ]
      refine regx_take 18 (some 74) (v := ?_) rfl rfl (by kernel_rfl) (by kernel_rfl) (by kernel_rfl) (fun _ _ _ h => h) (by rfl) ?_ ?_
      rotate_left
      · intro W hW; go_simp; first | done | with_reducible rfl
      try simp only [Act.put, List.setIfInBounds_toArray, List.set_cons_zero, List.set_cons_succ]
      refine regx_take 19 (some 75) (v := ?_) rfl rfl (by kernel_rfl) (by kernel_rfl) (by kernel_rfl) (fun _ _ _ h => h) (by rfl) ?_ ?_
      rotate_left
      · intro W hW; go_simp; first | done | with_reducible rfl
      try simp only [Act.put, List.setIfInBounds_toArray, List.set_cons_zero, List.set_cons_succ]
      refine wpAnyH_ready (rs := [20]) (by kernel_rfl) (by simp) ?_
      refine (AllReadyH.cons (o := { dst := none, op := Op.store 25 (Operand.tmp 4) (Operand.tmp 56), type := 0, pos := "ref.go:128", after := #[{ on := 0, ground := Ground.data }, { on := 13, ground := Ground.chain }, { on := 0, ground := Ground.phase }, { on := 1, ground := Ground.textOnly Departure.lateStores }, { on := 2, ground := Ground.textOnly Departure.lateStoresUnsure }, { on := 3, ground := Ground.textOnly Departure.lateStores }, { on := 4, ground := Ground.textOnly Departure.lateStores }, { on := 5, ground := Ground.textOnly Departure.lateStores }, { on := 6, ground := Ground.textOnly Departure.lateStores }, { on := 7, ground := Ground.textOnly Departure.lateStores }, { on := 8, ground := Ground.textOnly Departure.lateStores }, { on := 9, ground := Ground.textOnly Departure.lateStores }, { on := 10, ground := Ground.textOnly Departure.lateStores }, { on := 11, ground := Ground.textOnly Departure.lateStores }, { on := 12, ground := Ground.textOnly Departure.lateStores }, { on := 13, ground := Ground.textOnly Departure.lateStores }, { on := 14, ground := Ground.textOnly Departure.lateStores }, { on := 15, ground := Ground.textOnly Departure.lateStores }, { on := 16, ground := Ground.textOnly Departure.lateStoresUnsure }, { on := 17, ground := Ground.textOnly Departure.lateStores }, { on := 18, ground := Ground.textOnly Departure.lateStores }, { on := 19, ground := Ground.textOnly Departure.lateStores }], guard := none }) rfl (fun K hK => ?_) AllReadyH.nil)
      refine wp_store_all 25 _ _ rfl w.heap.size ?csu131n ?hxu131n ?hyu131n rz 25 ?hzu131n ?hfu131n 4 ?hnu131n Try.size25 ?h1u131n ?_
      case hyu131n => exact rfl
      case hxu131n => exact rfl
      case hzu131n => exact (hv1.block _ (lt_of_block (show u9.drew.heap[w.heap.size]? = _ from HS9.out)) (by simp)).trans HS9.out
      case hfu131n => exact rfl
      case hnu131n => exact rfl
      case h1u131n => simp [allOne, Value.oneCell']
      intro v2 hb2 h2
      refine regx_next hK (Keeps.row h2 rfl) ?_
      clear hK K
      try simp only [Act.put]
      refine regx_take 21 (some 5) (v := ?_) rfl rfl (by kernel_rfl) (by kernel_rfl) (by kernel_rfl) (fun _ _ _ h => h) (by rfl) ?_ ?_
      rotate_left
      · intro W hW; go_simp; first | done | with_reducible rfl
      try simp only [Act.put, List.setIfInBounds_toArray, List.set_cons_zero, List.set_cons_succ]
      refine wpAnyH_done (by kernel_rfl) ?_ _
      have HB2 := Lib.hid hb2
      have HV2 := Lib.hid (grown_new (HG9.out.trans (drewl hv1)) h2 (Nat.le_refl _))
      have HV1 := Lib.hid (drewl hv1)
      have HS1 := Lib.hid (keep_blk hv1 HS9.out)
      have H2 := Lib.hid h2
      clear hv1 hb2 h2
      go_wp2
      refine bodyPost_ret (results_c25t rfl _ _ _ _ (by rfl) (by rfl) HB2.out) (by rfl) ?_
      exact bodyDo_no HO.out HV2.out
  · go_simp
    have hn := heap_alloc_new (w.alloc (.cells rz.toArray 25)).drew (.cells rz.toArray 25); have hm := World.grownBy_alloc (w.alloc (.cells rz.toArray 25)).drew (.cells rz.toArray 25) none; have hx10 : w.heap.size + 1 ≤ (w.alloc (.cells rz.toArray 25)).drew.heap.size := (by first | simp | (have := hk54.size; simp at this; omega))
    refine regx_next hK (Keeps.keep hm) ?_
    clear hK K
    try simp only [Act.put, List.setIfInBounds_toArray, List.set_cons_zero, List.set_cons_succ]
    refine wpAnyH_ready (rs := [8]) (by kernel_rfl) (by simp) ?_
    refine (AllReadyH.cons (o := { dst := some 50, op := Op.buildSlice 23 0 #[], type := 23, pos := "ref.go:127", after := #[], guard := none }) rfl (fun K hK => ?_) AllReadyH.nil)
    go_simp
    have hn5 := Gs.empty ((w.alloc (.cells rz.toArray 25)).drew.alloc (.cells rz.toArray 25)); simp at hn5; have hm5 := World.grownBy_alloc ((w.alloc (.cells rz.toArray 25)).drew.alloc (.cells rz.toArray 25)) (.cells #[] 5) none; have hz5 := heap_alloc_new ((w.alloc (.cells rz.toArray 25)).drew.alloc (.cells rz.toArray 25)) (.cells #[] 5); have hx5 : w.heap.size + 1 ≤ ((w.alloc (.cells rz.toArray 25)).drew.alloc (.cells rz.toArray 25)).heap.size := (by simp)
    refine regx_next hK (Keeps.keep hm5) ?_
    clear hK K
    try simp only [Act.put, List.setIfInBounds_toArray, List.set_cons_zero, List.set_cons_succ]
    refine wpAnyH_ready (rs := [12]) (by kernel_rfl) (by simp) ?_
    refine (AllReadyH.cons (o := { dst := some 54, op := Op.call { callee := Callee.builtin Builtin.append, args := #[Operand.tmp 50, Operand.tmp 53], argTypes := #[23, 23] }, type := 23, pos := "ref.go:127", after := #[{ on := 8, ground := Ground.data }, { on := 11, ground := Ground.data }], guard := none }) rfl (fun K hK => ?_) AllReadyH.nil)
    first | refine wp_gs eB 23 (.tmp 50) (.tmp 53) rfl (.slice (some ⟨w.heap.size + 1, 0, none⟩) 0 0) _ 0 m [] (bsV v0) (by rfl) (by rfl) ?ggu136 (src_gon (c := c3) HM.out ?gsu136) HONE.out (by have := HM1.out; omega) ?_ | refine wp_gs eB 23 (.tmp 50) (.tmp 53) rfl (.slice (some ⟨w.heap.size + 1 + 1, 0, none⟩) 0 0) _ 0 m [] (bsV v0) (by rfl) (by rfl) ?ggu136 (src_gon (c := c3) HM.out ?gsu136) HONE.out (by have := HM1.out; omega) ?_
    case ggu136 => first | exact hn5 | exact hn5.keptNone ⟨rfl, rfl, rfl, by simp, fun k hk _ => heap_alloc_old _ _ (by simpa using hk)⟩
    case gsu136 => exact HS3.out.keptNone (drewl (Keeps.toGrown (X := fun k => w.heap.size + 1 ≤ k) ((Keeps.keep hm).trans (Keeps.keep hm5)) (by intro i hi; simp at hi ⊢; omega)))
    intro v4 u4 hQ4 hg4 hr4
    obtain ⟨a4, c4, hv4, _⟩ := hQ4.shape
    rw [Nat.zero_add] at hv4
    subst hv4
    first | have hk54 : World.grownBy _ u4 (some (w.heap.size + 1)) := hg4 | have hk54 : World.grownBy _ u4 (some (w.heap.size + 1 + 1)) := hg4
    refine regx_next hK (Keeps.of hk54 (fun r e => by cases e; first | exact hx5 | (simp <;> omega))) ?_
    clear hK K
    try simp only [Act.put, List.setIfInBounds_toArray, List.set_cons_zero, List.set_cons_succ]
    refine regx_take 13 (some 55) (v := ?_) rfl rfl (by kernel_rfl) (by kernel_rfl) (by kernel_rfl) (fun _ _ _ h => h) (by rfl) ?_ ?_
    rotate_left
    · intro W hW; go_simp; first | done | with_reducible rfl
    try simp only [Act.put, List.setIfInBounds_toArray, List.set_cons_zero, List.set_cons_succ]
    refine wpAnyH_ready (rs := [15]) (by kernel_rfl) (by simp) ?_
    refine (AllReadyH.cons (o := { dst := none, op := Op.store 25 (Operand.tmp 10) (Operand.tmp 55), type := 0, pos := "ref.go:127", after := #[{ on := 14, ground := Ground.data }, { on := 13, ground := Ground.data }, { on := 12, ground := Ground.chain }, { on := 0, ground := Ground.phase }, { on := 1, ground := Ground.phase }, { on := 2, ground := Ground.phase }, { on := 3, ground := Ground.phase }, { on := 4, ground := Ground.phase }, { on := 5, ground := Ground.phase }, { on := 6, ground := Ground.phase }, { on := 7, ground := Ground.phase }, { on := 8, ground := Ground.phase }, { on := 9, ground := Ground.phase }, { on := 10, ground := Ground.phase }, { on := 11, ground := Ground.phase }, { on := 12, ground := Ground.phase }, { on := 13, ground := Ground.phase }, { on := 14, ground := Ground.phase }], guard := none }) rfl (fun K hK => ?_) AllReadyH.nil)
    first | have hz9 : (u4.alloc (.cells rz.toArray 25)).heap[u4.heap.size]? = some (.cells rz.toArray 25 (0, 0)) := hn | have hz9 : u4.heap[w.heap.size + 1 + 1]? = some (.cells rz.toArray 25 (0, 0)) := (by have hz7 := hn; rw [show ((w.alloc (.cells rz.toArray 25)).drew.alloc (.cells #[] 5)).heap.size = w.heap.size + 1 + 1 from (World.size_alloc _ _).trans (congrArg (· + 1) (World.size_alloc w _))] at hz7; exact (hk54.block _ (by simp) (by simp)).trans hz7) | have hz9 : u4.heap[w.heap.size + 1]? = some (.cells rz.toArray 25 (0, 0)) := (by have hz7 := keep_blk hm5 hn; rw [show (w.alloc (.cells rz.toArray 25)).drew.heap.size = w.heap.size + 1 from World.size_alloc w _] at hz7; exact (hk54.block _ (by simp) (by simp)).trans hz7)
    refine wp_store_all 25 _ _ rfl ?bu138 ?csu138 ?hxu138 ?hyu138 rz 25 ?hzu138 ?hfu138 4 ?hnu138 Try.size25 ?h1u138 ?_
    case hyu138 => exact rfl
    case hxu138 => exact rfl
    case hzu138 => exact hz9
    case hfu138 => exact rfl
    case hnu138 => exact rfl
    case h1u138 => simp [allOne, Value.oneCell']
    intro u9 hb9 h9
    refine regx_next hK (Keeps.row h9 (by first | exact hx10 | (simp <;> omega))) ?_
    clear hK K
    try simp only [Act.put]
    refine wpAnyH_done (by kernel_rfl) ?_ _
    have hk9 : Keeps (fun k => w.heap.size + 1 ≤ k) (w.alloc (.cells rz.toArray 25)).drew u9 := ((Keeps.keep hm).trans ((Keeps.keep hm5).trans ((Keeps.of hk54 (fun r e => by cases e; first | exact hx5 | (simp <;> omega))).trans (Keeps.row h9 (by first | exact hx10 | (simp <;> omega))))))
    have HQ9 := Lib.hid (gs_end hQ4 (by first | exact World.grownBy.refl _ _ | exact World.grownBy_alloc _ _ _) hz9 h9)
    have HR9 := Lib.hid (show ∀ k, rowOf (.slice a4 m c4) = some k → w.heap.size ≤ k from fun k hk => by rcases hr4 with h | h <;> (rw [h] at hk; cases hk; simp <;> omega))
    have HB9 := Lib.hid hb9
    have HBN := Lib.hid (nb (S := w.heap.size) hb9 (by first | (simp <;> omega) | (have := hx10; omega)))
    have HS9 := Lib.hid ((hk9.block w.heap.size (by simp) (by simp)).trans HR0.out)
    have HG9 := Lib.hid (HG0.out.trans (drewl (hk9.toGrown (by intro i hi; simp at hi ⊢; omega))))
    have HKC9 := Lib.hid (keeps_cell hk9 (show (w.alloc (.cells rz.toArray 25)).drew.cell? ⟨b, o, none⟩ = some (.int .u8 (d : Int)) from HKC.out) (by have := HBK.out; simp; omega))
    clear hk9 hQ4 hr4 hb9 h9 hk54 hg4 hz9 hn hm hn5 hm5 hz5 hx5 hx10
    go_wp2
    refine regx_open (fun k => k = w.heap.size) (n := 22) rfl (by kernel_rfl) ?_
    refine regx_take 0 (some 56) (v := ?_) rfl rfl (by kernel_rfl) (by kernel_rfl) (by kernel_rfl) (fun _ _ _ h => h) (by rfl) ?_ ?_
    rotate_left
    · intro W hW; refine exec_ld25 (x := .tmp 10) ?_ ?_ (((hW).block _ (lt_of_block HB9.out) HBN.out).trans HB9.out) <;> rfl
    try simp only [Act.put, List.setIfInBounds_toArray, List.set_cons_zero, List.set_cons_succ]
    refine regx_take 1 (some 57) (v := ?_) rfl rfl (by kernel_rfl) (by kernel_rfl) (by kernel_rfl) (fun _ _ _ h => h) (by rfl) ?_ ?_
    rotate_left
    · intro W hW; refine exec_ld25 (x := .tmp 10) ?_ ?_ (((hW).block _ (lt_of_block HB9.out) HBN.out).trans HB9.out) <;> rfl
    try simp only [Act.put, List.setIfInBounds_toArray, List.set_cons_zero, List.set_cons_succ]
    refine wpAnyH_ready (rs := [2]) (by kernel_rfl) (by simp) ?_
    refine (AllReadyH.cons (o := { dst := some 58, op := Op.call { callee := Callee.value (Operand.func 12), args := #[Operand.tmp 57], argTypes := #[25] }, type := 4, pos := "ref.go:128", after := #[{ on := 1, ground := Ground.data }], guard := none }) rfl (fun K hK => ?_) AllReadyH.nil)
    go_simp
    refine (rright_any A d n0 a4 m c4 _).mono ?_; rintro e v1 ⟨rfl, hv1⟩
    simp only [hRt]
    refine regx_next hK (Keeps.keep hv1) ?_
    clear hK K
    try simp only [Act.put, List.setIfInBounds_toArray, List.set_cons_zero, List.set_cons_succ]
    refine regx_take 3 (some 59) (v := ?_) rfl rfl (by kernel_rfl) (by kernel_rfl) (by kernel_rfl) (fun _ _ _ h => h) (by rfl) ?_ ?_
    rotate_left
    · intro W hW; go_simp; first | done | with_reducible rfl
    try simp only [Act.put, List.setIfInBounds_toArray, List.set_cons_zero, List.set_cons_succ]
    refine regx_take 4 (some 60) (v := ?_) rfl rfl (by kernel_rfl) (by kernel_rfl) (by kernel_rfl) (fun _ _ _ h => h) (by rfl) ?_ ?_
    rotate_left
    · intro W hW; go_simp; first | done | with_reducible rfl
    try simp only [Act.put, List.setIfInBounds_toArray, List.set_cons_zero, List.set_cons_succ]
    refine regx_take 5 (some 61) (v := ?_) rfl rfl (by kernel_rfl) (by kernel_rfl) (by kernel_rfl) (fun _ _ _ h => h) (by rfl) ?_ ?_
    rotate_left
    · intro W hW; go_simp; first | done | with_reducible rfl
    try simp only [Act.put, List.setIfInBounds_toArray, List.set_cons_zero, List.set_cons_succ]
    refine regx_take 6 (some 62) (v := ?_) rfl rfl (by kernel_rfl) (by kernel_rfl) (by kernel_rfl) (fun _ _ _ h => h) (by rfl) ?_ ?_
    rotate_left
    · intro W hW; have k := keeps_cell ((Keeps.keep hv1).trans hW) (show u9.drew.cell? ⟨b, o, none⟩ = some (.int .u8 (d : Int)) from HKC9.out) (by have := HBK.out; simp; omega); go_simp; first | done | with_reducible rfl
    try simp only [Act.put, List.setIfInBounds_toArray, List.set_cons_zero, List.set_cons_succ]
    refine regx_take 7 (some 63) (v := ?_) rfl rfl (by kernel_rfl) (by kernel_rfl) (by kernel_rfl) (fun _ _ _ h => h) (by rfl) ?_ ?_
    rotate_left
    · intro W hW; go_simp; first | done | with_reducible rfl
    try simp only [Act.put, List.setIfInBounds_toArray, List.set_cons_zero, List.set_cons_succ]
    refine regx_take 8 (some 64) (v := ?_) rfl rfl (by kernel_rfl) (by kernel_rfl) (by kernel_rfl) (fun _ _ _ h => h) (by rfl) ?_ ?_
    rotate_left
    · intro W hW; go_simp; first | done | with_reducible rfl
    try simp only [Act.put, List.setIfInBounds_toArray, List.set_cons_zero, List.set_cons_succ]
    refine regx_take 9 (some 65) (v := ?_) rfl rfl (by kernel_rfl) (by kernel_rfl) (by kernel_rfl) (fun _ _ _ h => h) (by rfl) ?_ ?_
    rotate_left
    · intro W hW; go_simp; first | done | with_reducible rfl
    try simp only [Act.put, List.setIfInBounds_toArray, List.set_cons_zero, List.set_cons_succ]
    refine regx_take 10 (some 66) (v := ?_) rfl rfl (by kernel_rfl) (by kernel_rfl) (by kernel_rfl) (fun _ _ _ h => h) (by rfl) ?_ ?_
    rotate_left
    · intro W hW; go_simp; first | done | with_reducible rfl
    try simp only [Act.put, List.setIfInBounds_toArray, List.set_cons_zero, List.set_cons_succ]
    refine regx_take 11 (some 67) (v := ?_) rfl rfl (by kernel_rfl) (by kernel_rfl) (by kernel_rfl) (fun _ _ _ h => h) (by rfl) ?_ ?_
    rotate_left
    · intro W hW; go_simp; first | done | with_reducible rfl
    try simp only [Act.put, List.setIfInBounds_toArray, List.set_cons_zero, List.set_cons_succ]
    refine regx_take 12 (some 68) (v := ?_) rfl rfl (by kernel_rfl) (by kernel_rfl) (by kernel_rfl) (fun _ _ _ h => h) (by rfl) ?_ ?_
    rotate_left
    · intro W hW; go_simp; first | done | with_reducible rfl
    try simp only [Act.put, List.setIfInBounds_toArray, List.set_cons_zero, List.set_cons_succ]
    refine regx_take 13 (some 69) (v := ?_) rfl rfl (by kernel_rfl) (by kernel_rfl) (by kernel_rfl) (fun _ _ _ h => h) (by rfl) ?_ ?_
    rotate_left
    · intro W hW; go_simp; first | done | with_reducible rfl
    try simp only [Act.put, List.setIfInBounds_toArray, List.set_cons_zero, List.set_cons_succ]
    refine regx_skip 14 (some 70) rfl rfl (by kernel_rfl) (by kernel_rfl) (by kernel_rfl) (fun _ _ _ h => h) (by rfl) ?_
    try simp only [Act.put, List.setIfInBounds_toArray, List.set_cons_zero, List.set_cons_succ]
    refine regx_skip 15 (some 71) rfl rfl (by kernel_rfl) (by kernel_rfl) (by kernel_rfl) (fun _ _ _ h => h) (by rfl) ?_
    try simp only [Act.put, List.setIfInBounds_toArray, List.set_cons_zero, List.set_cons_succ]
    refine regx_skip 16 (some 72) rfl rfl (by kernel_rfl) (by kernel_rfl) (by kernel_rfl) (fun _ _ _ h => h) (by rfl) ?_
    try simp only [Act.put, List.setIfInBounds_toArray, List.set_cons_zero, List.set_cons_succ]
    refine regx_skip 17 (some 73) rfl rfl (by kernel_rfl) (by kernel_rfl) (by kernel_rfl) (fun _ _ _ h => h) (by rfl) ?_
    try simp only [Act.put, List.setIfInBounds_toArray, List.set_cons_zero, List.set_cons_succ]
    refine regx_take 18 (some 74) (v := ?_) rfl rfl (by kernel_rfl) (by kernel_rfl) (by kernel_rfl) (fun _ _ _ h => h) (by rfl) ?_ ?_
    rotate_left
    · intro W hW; go_simp; first | done | with_reducible rfl
    try simp only [Act.put, List.setIfInBounds_toArray, List.set_cons_zero, List.set_cons_succ]
    refine regx_take 19 (some 75) (v := ?_) rfl rfl (by kernel_rfl) (by kernel_rfl) (by kernel_rfl) (fun _ _ _ h => h) (by rfl) ?_ ?_
    rotate_left
    · intro W hW; go_simp; first | done | with_reducible rfl
    try simp only [Act.put, List.setIfInBounds_toArray, List.set_cons_zero, List.set_cons_succ]
    refine wpAnyH_ready (rs := [20]) (by kernel_rfl) (by simp) ?_
    refine (AllReadyH.cons (o := { dst := none, op := Op.store 25 (Operand.tmp 4) (Operand.tmp 56), type := 0, pos := "ref.go:128", after := #[{ on := 0, ground := Ground.data }, { on := 13, ground := Ground.chain }, { on := 0, ground := Ground.phase }, { on := 1, ground := Ground.textOnly Departure.lateStores }, { on := 2, ground := Ground.textOnly Departure.lateStoresUnsure }, { on := 3, ground := Ground.textOnly Departure.lateStores }, { on := 4, ground := Ground.textOnly Departure.lateStores }, { on := 5, ground := Ground.textOnly Departure.lateStores }, { on := 6, ground := Ground.textOnly Departure.lateStores }, { on := 7, ground := Ground.textOnly Departure.lateStores }, { on := 8, ground := Ground.textOnly Departure.lateStores }, { on := 9, ground := Ground.textOnly Departure.lateStores }, { on := 10, ground := Ground.textOnly Departure.lateStores }, { on := 11, ground := Ground.textOnly Departure.lateStores }, { on := 12, ground := Ground.textOnly Departure.lateStores }, { on := 13, ground := Ground.textOnly Departure.lateStores }, { on := 14, ground := Ground.textOnly Departure.lateStores }, { on := 15, ground := Ground.textOnly Departure.lateStores }, { on := 16, ground := Ground.textOnly Departure.lateStoresUnsure }, { on := 17, ground := Ground.textOnly Departure.lateStores }, { on := 18, ground := Ground.textOnly Departure.lateStores }, { on := 19, ground := Ground.textOnly Departure.lateStores }], guard := none }) rfl (fun K hK => ?_) AllReadyH.nil)
    refine wp_store_all 25 _ _ rfl w.heap.size ?csu140n ?hxu140n ?hyu140n rz 25 ?hzu140n ?hfu140n 4 ?hnu140n Try.size25 ?h1u140n ?_
    case hyu140n => exact rfl
    case hxu140n => exact rfl
    case hzu140n => exact (hv1.block _ (lt_of_block (show u9.drew.heap[w.heap.size]? = _ from HS9.out)) (by simp)).trans HS9.out
    case hfu140n => exact rfl
    case hnu140n => exact rfl
    case h1u140n => simp [allOne, Value.oneCell']
    intro v2 hb2 h2
    refine regx_next hK (Keeps.row h2 rfl) ?_
    clear hK K
    try simp only [Act.put]
    refine regx_take 21 (some 5) (v := ?_) rfl rfl (by kernel_rfl) (by kernel_rfl) (by kernel_rfl) (fun _ _ _ h => h) (by rfl) ?_ ?_
    rotate_left
    · intro W hW; go_simp; first | done | with_reducible rfl
    try simp only [Act.put, List.setIfInBounds_toArray, List.set_cons_zero, List.set_cons_succ]
    refine wpAnyH_done (by kernel_rfl) ?_ _
    have HB2 := Lib.hid hb2
    have HV2 := Lib.hid (grown_new (HG9.out.trans (drewl hv1)) h2 (Nat.le_refl _))
    have HV1 := Lib.hid (drewl hv1)
    have HS1 := Lib.hid (keep_blk hv1 HS9.out)
    have H2 := Lib.hid h2
    clear hv1 hb2 h2
    go_wp2
    refine bodyPost_ret (results_c25t rfl _ _ _ _ (by rfl) (by rfl) HB2.out) (by rfl) ?_
    exact bodyDo_no HO.out HV2.out
set_option maxRecDepth 100000 in
set_option maxHeartbeats 4000000 in
theorem rbody_b4v (x : Option Addr) (cap : Nat) (l : List UInt8) (last : Int) (w : World) (hs : Go.Proofs.Ytpoifobhbmhelaa.Src w x l) (hcap : l.length ≤ cap) (hl : l.length ≤ 1000000) (h0 : 0 ≤ last) (h1 : last ≤ 4611686018427387904) (c : UInt8) (t : List UInt8) (hlt : l = c :: t) (h3 : ¬ l.length < 3) (y : Nat) (u : List UInt8) (ht : take t = .num y u) (hy : (y : Int) ≤ 4611686018427387904 - last) (n0 : Nat) (v0 : List UInt8) (hu : take u = .num n0 v0) (hn0 : n0 < 65536) (hR : ¬ Rt (last + y) c.toNat n0 v0.length) (h8 : c.toNat = 8) (hn8 : n0 = 0) (hv8 : ¬ v0.length = 0) : Calls Try.prog 39 #[.slice x l.length cap, .int .i64 last] w fun e w' => BodyDo w (decB l last) e w' := by
  have HO := Lib.hid (show decB l last = none from by rw [hlt]; exact decB_b3 ht hu (fun h => h.2.elim hR (fun k => hv8 k.2.2)))
  have HRT := Lib.hid hR
  have HB0 := Lib.hid (show ∀ b o, x = some ⟨b, o, none⟩ → b < w.heap.size from fun b o e => Go.Proofs.Ytpoifobhbmhelaa.Src.lt (e ▸ hs) (by rw [hlt]; simp))
  have HR0 := Lib.hid (heap_alloc_new w (.cells rz.toArray 25))
  have HG0 := Lib.hid (World.grownBy_alloc w (.cells rz.toArray 25) none)
  obtain ⟨n, hn⟩ : ∃ n, n = l.length := ⟨_, rfl⟩
  have hat : 1 ≤ l.length := by omega
  have ht' : take (l.drop 1) = .num y u := by rw [hlt]; exact ht
  have C1 := rtake_any x cap l 1 (w.alloc (.cells rz.toArray 25)) (hs.keptNone HG0.out) hat hl
  rw [ht'] at C1
  rw [← hn] at h3 ⊢ C1
  have h3' : ¬ (n : Int) < 3 := by omega
  have HYB := Lib.hid (take_inv ht).2
  have HDR := Lib.hid (take_drop hat ht')
  have hul : u.length < n := by have := take_lt ht; rw [hn, hlt]; simp; omega
  obtain ⟨A1, hA1⟩ : ∃ A1, A1 = n - u.length := ⟨_, rfl⟩
  have hA2 : A1 ≤ l.length := by omega
  have C2 := rtake_any x cap l A1 (w.alloc (.cells rz.toArray 25)) (hs.keptNone HG0.out) hA2 hl
  rw [show l.drop A1 = u from by rw [hA1, hn]; exact HDR.out, ← hn] at C2
  unfold tkRes at C1
  simp only at C1
  rw [← hA1] at C1
  have hp1 : ¬ (A1 : Int) ≤ 0 := by omega
  have hp2 : 0 < A1 := by omega
  have hp3 : ¬ A1 = 0 := by omega
  obtain ⟨D, hD⟩ : ∃ D : Int, D = 4611686018427387904 - last := ⟨_, rfl⟩
  have hsub : IntKind.i64.wrap (4611686018427387904 - last) = D := by rw [IntKind.wrap_i64]; omega
  have HDD := Lib.hid hD
  have HA1 := Lib.hid hA1
  have HN := Lib.hid hn
  have hyD : ¬ D < (y : Int) := by omega
  have HUV := Lib.hid (take_lt hu)
  have HDR2 := Lib.hid (show l.drop (n - v0.length) = v0 from by
    have := take_drop (l := l) (k := A1) (r := v0) (n := n0) hA2 (by rw [hA1, hn, HDR.out]; exact hu)
    rw [hn]; exact this)
  rw [hu] at C2
  unfold tkRes at C2
  simp only at C2
  have hvl : v0.length < n := by have := HUV.out; omega
  obtain ⟨A2, hA3⟩ : ∃ A2, A2 = n - v0.length := ⟨_, rfl⟩
  rw [← hA3] at C2 HDR2
  have hr1 : ¬ (A2 : Int) ≤ 0 := by omega
  have hr2 : 0 < A2 := by omega
  have hr3 : ¬ A2 = 0 := by omega
  have HA2 := Lib.hid hA3
  have HVL := Lib.hid hvl
  obtain ⟨m, hm⟩ : ∃ m, m = v0.length := ⟨_, rfl⟩
  obtain ⟨x3, c3, hsl, hc3, hs3⟩ := src_from hs hcap A2 (by omega)
  rw [HDR2.out] at hs3
  obtain ⟨b, o, hx, hcb⟩ := src_some hs (by rw [hlt]; simp)
  obtain ⟨d, hd⟩ : ∃ d : Nat, d = c.toNat := ⟨_, rfl⟩
  have hd256 : d < 256 := by rw [hd]; exact c.toNat_lt
  have hwd : IntKind.i64.wrap (d : Int) = (d : Int) := by rw [IntKind.wrap_i64]; omega
  have HKC := Lib.hid (show (w.alloc (.cells rz.toArray 25)).cell? ⟨b, o, none⟩ = some (.int .u8 (d : Int)) from by
    have := hcb 0 (by omega)
    rw [hd]
    refine keep_cell HG0.out (this.trans ?_)
    simp [hlt])
  have HSL := Lib.hid (show Value.slice x3 m c3 = sliced x A2 n cap 1 from by rw [hm, hn, hsl]; congr 1; omega)
  have HS3 := Lib.hid (hs3.keptNone HG0.out)
  have HM1 := Lib.hid (show m ≤ 1000000 from by rw [hm]; omega)
  have HA2N := Lib.hid (show A2 ≤ n from by omega)
  obtain ⟨A, hA⟩ : ∃ A : Int, A = last + y := ⟨_, rfl⟩
  have hadd : IntKind.i64.wrap (last + (y : Int)) = A := by rw [IntKind.wrap_i64]; omega
  have hnb : ¬ (65535 : Int) < (n0 : Nat) := by omega
  have hRt : decide (Rt A d n0 m) = false := decide_eq_false (by rw [hA, hd, hm]; exact hR)
  have HAA := Lib.hid hA
  have HD := Lib.hid hd
  have HM := Lib.hid hm
  have HONE := Lib.hid (bs_one v0)
  have HBK := Lib.hid (HB0.out b o hx)
  clear HB0
  have hnp : 0 < n := by omega
  have e8 : ((d : Int) == 8) = true := by simp; omega
  have e9 : ((n0 : Int) == 0) = true := by simp; omega
  have e10 : ((m : Int) == 0) = false := by simp; omega
  have HE := Lib.hid (And.intro h8 (And.intro hn8 hv8))
  clear h8 hn8 hv8
  subst hx
  clear hy hu hn0 hR
  clear hm hsl hc3 hs3 hcb hd hA
  clear hvl hA3
  clear hul hA1 hA2 hD hn h3 hat ht' hlt ht hs hcap hl h0 h1
  go_enter Try.func39, Try.ntmps39
  go_wp2_with fail
  refine C1.mono ?_; rintro e w2 ⟨rfl, rfl⟩
  clear C1
  go_wp2_with fail
  refine C2.mono ?_; rintro e w2 ⟨rfl, rfl⟩
  clear C2
  go_wp2
  refine regx_open (fun k => w.heap.size + 1 ≤ k) (n := 16) rfl (by kernel_rfl) ?_
  refine regx_take 0 (some 42) (v := ?_) rfl rfl (by kernel_rfl) (by kernel_rfl) (by kernel_rfl) (fun _ _ _ h => h) (by rfl) ?_ ?_
  rotate_left
  · intro W hW; go_simp; first | done | with_reducible rfl
  try simp only [Act.put, List.setIfInBounds_toArray, List.set_cons_zero, List.set_cons_succ]
  refine regx_take 1 (some 43) (v := ?_) rfl rfl (by kernel_rfl) (by kernel_rfl) (by kernel_rfl) (fun _ _ _ h => h) (by rfl) ?_ ?_
  rotate_left
  · intro W hW; go_simp; first | done | with_reducible rfl
  try simp only [Act.put, List.setIfInBounds_toArray, List.set_cons_zero, List.set_cons_succ]
  refine regx_take 2 (some 44) (v := ?_) rfl rfl (by kernel_rfl) (by kernel_rfl) (by kernel_rfl) (fun _ _ _ h => h) (by rfl) ?_ ?_
  rotate_left
  · intro W hW; go_simp; first | done | with_reducible rfl
  try simp only [Act.put, List.setIfInBounds_toArray, List.set_cons_zero, List.set_cons_succ]
  refine regx_take 3 (some 45) (v := ?_) rfl rfl (by kernel_rfl) (by kernel_rfl) (by kernel_rfl) (fun _ _ _ h => h) (by rfl) ?_ ?_
  rotate_left
  · intro W hW; go_simp; first | done | with_reducible rfl
  try simp only [Act.put, List.setIfInBounds_toArray, List.set_cons_zero, List.set_cons_succ]
  refine regx_take 4 (some 46) (v := ?_) rfl rfl (by kernel_rfl) (by kernel_rfl) (by kernel_rfl) (fun _ _ _ h => h) (by rfl) ?_ ?_
  rotate_left
  · intro W hW; go_simp; first | done | with_reducible rfl
  try simp only [Act.put, List.setIfInBounds_toArray, List.set_cons_zero, List.set_cons_succ]
  refine regx_take 5 (some 47) (v := ?_) rfl rfl (by kernel_rfl) (by kernel_rfl) (by kernel_rfl) (fun _ _ _ h => h) (by rfl) ?_ ?_
  rotate_left
  · intro W hW; have k := keeps_cell hW (show (w.alloc (.cells rz.toArray 25)).drew.cell? ⟨b, o, none⟩ = some (.int .u8 (d : Int)) from HKC.out) (by have := HBK.out; simp; omega); go_simp; first | done | with_reducible rfl
  try simp only [Act.put, List.setIfInBounds_toArray, List.set_cons_zero, List.set_cons_succ]
  refine regx_take 6 (some 48) (v := ?_) rfl rfl (by kernel_rfl) (by kernel_rfl) (by kernel_rfl) (fun _ _ _ h => h) (by rfl) ?_ ?_
  rotate_left
  · intro W hW; go_simp; first | done | with_reducible rfl
  try simp only [Act.put, List.setIfInBounds_toArray, List.set_cons_zero, List.set_cons_succ]
  refine regx_take 7 (some 49) (v := ?_) rfl rfl (by kernel_rfl) (by kernel_rfl) (by kernel_rfl) (fun _ _ _ h => h) (by rfl) ?_ ?_
  rotate_left
  · intro W hW; go_simp; first | done | with_reducible rfl
  try simp only [Act.put, List.setIfInBounds_toArray, List.set_cons_zero, List.set_cons_succ]
  refine regx_take 9 (some 51) (v := ?_) rfl rfl (by kernel_rfl) (by kernel_rfl) (by kernel_rfl) (fun _ _ _ h => h) (by rfl) ?_ ?_
  rotate_left
  · intro W hW; go_simp; first | done | with_reducible rfl
  try simp only [Act.put, List.setIfInBounds_toArray, List.set_cons_zero, List.set_cons_succ]
  refine regx_take 10 (some 52) (v := ?_) rfl rfl (by kernel_rfl) (by kernel_rfl) (by kernel_rfl) (fun _ _ _ h => h) (by rfl) ?_ ?_
  rotate_left
  · intro W hW; go_simp; first | done | with_reducible rfl
  try simp only [Act.put, List.setIfInBounds_toArray, List.set_cons_zero, List.set_cons_succ]
  refine regx_take 11 (some 53) (v := ?_) rfl rfl (by kernel_rfl) (by kernel_rfl) (by kernel_rfl) (fun _ _ _ h => h) (by rfl) ?_ ?_
  rotate_left
  · intro W hW; refine exec_sl eB elemB (x := .tmp 51) (y := .tmp 52) ?_ (some ⟨b, o, none⟩) n cap A2 ?_ ?_ HA2N.out _ (.slice x3 m c3) HSL.out <;> rfl
  try simp only [Act.put, List.setIfInBounds_toArray, List.set_cons_zero, List.set_cons_succ]
  refine wpAnyH_ready (rs := [8, 14]) (by kernel_rfl) (by simp) ?_
  refine (AllReadyH.cons (o := { dst := some 50, op := Op.buildSlice 23 0 #[], type := 23, pos := "ref.go:127", after := #[], guard := none }) rfl (fun K hK => ?_) (AllReadyH.cons (o := { dst := some 10, op := Op.alloc 25, type := 0, pos := "ref.go:127", after := #[], guard := none }) rfl (fun K hK => ?_) AllReadyH.nil))
  · go_simp
    have hn5 := Gs.empty (w.alloc (.cells rz.toArray 25)).drew; simp at hn5; have hm5 := World.grownBy_alloc (w.alloc (.cells rz.toArray 25)).drew (.cells #[] 5) none; have hz5 := heap_alloc_new (w.alloc (.cells rz.toArray 25)).drew (.cells #[] 5); have hx5 : w.heap.size + 1 ≤ (w.alloc (.cells rz.toArray 25)).drew.heap.size := (by simp)
    refine regx_next hK (Keeps.keep hm5) ?_
    clear hK K
    try simp only [Act.put, List.setIfInBounds_toArray, List.set_cons_zero, List.set_cons_succ]
    refine wpAnyH_ready (rs := [12, 14]) (by kernel_rfl) (by simp) ?_
    refine (AllReadyH.cons (o := { dst := some 54, op := Op.call { callee := Callee.builtin Builtin.append, args := #[Operand.tmp 50, Operand.tmp 53], argTypes := #[23, 23] }, type := 23, pos := "ref.go:127", after := #[{ on := 8, ground := Ground.data }, { on := 11, ground := Ground.data }], guard := none }) rfl (fun K hK => ?_) (AllReadyH.cons (o := { dst := some 10, op := Op.alloc 25, type := 0, pos := "ref.go:127", after := #[], guard := none }) rfl (fun K hK => ?_) AllReadyH.nil))
    · first | refine wp_gs eB 23 (.tmp 50) (.tmp 53) rfl (.slice (some ⟨w.heap.size + 1, 0, none⟩) 0 0) _ 0 m [] (bsV v0) (by rfl) (by rfl) ?ggu154 (src_gon (c := c3) HM.out ?gsu154) HONE.out (by have := HM1.out; omega) ?_ | refine wp_gs eB 23 (.tmp 50) (.tmp 53) rfl (.slice (some ⟨w.heap.size + 1 + 1, 0, none⟩) 0 0) _ 0 m [] (bsV v0) (by rfl) (by rfl) ?ggu154 (src_gon (c := c3) HM.out ?gsu154) HONE.out (by have := HM1.out; omega) ?_
      case ggu154 => first | exact hn5 | exact hn5.keptNone ⟨rfl, rfl, rfl, by simp, fun k hk _ => heap_alloc_old _ _ (by simpa using hk)⟩
      case gsu154 => exact HS3.out.keptNone (drewl (Keeps.toGrown (X := fun k => w.heap.size + 1 ≤ k) (Keeps.keep hm5) (by intro i hi; simp at hi ⊢; omega)))
      intro v4 u4 hQ4 hg4 hr4
      obtain ⟨a4, c4, hv4, _⟩ := hQ4.shape
      rw [Nat.zero_add] at hv4
      subst hv4
      first | have hk54 : World.grownBy _ u4 (some (w.heap.size + 1)) := hg4 | have hk54 : World.grownBy _ u4 (some (w.heap.size + 1 + 1)) := hg4
      refine regx_next hK (Keeps.of hk54 (fun r e => by cases e; first | exact hx5 | (simp <;> omega))) ?_
      clear hK K
      try simp only [Act.put, List.setIfInBounds_toArray, List.set_cons_zero, List.set_cons_succ]
      refine regx_take 13 (some 55) (v := ?_) rfl rfl (by kernel_rfl) (by kernel_rfl) (by kernel_rfl) (fun _ _ _ h => h) (by rfl) ?_ ?_
      rotate_left
      · intro W hW; go_simp; first | done | with_reducible rfl
      try simp only [Act.put, List.setIfInBounds_toArray, List.set_cons_zero, List.set_cons_succ]
      refine wpAnyH_ready (rs := [14]) (by kernel_rfl) (by simp) ?_
      refine (AllReadyH.cons (o := { dst := some 10, op := Op.alloc 25, type := 0, pos := "ref.go:127", after := #[], guard := none }) rfl (fun K hK => ?_) AllReadyH.nil)
      go_simp
      have hn := heap_alloc_new u4 (.cells rz.toArray 25); have hm := World.grownBy_alloc u4 (.cells rz.toArray 25) none; have hx10 : w.heap.size + 1 ≤ u4.heap.size := (by first | simp | (have := hk54.size; simp at this; omega))
      refine regx_next hK (Keeps.keep hm) ?_
      clear hK K
      try simp only [Act.put, List.setIfInBounds_toArray, List.set_cons_zero, List.set_cons_succ]
      refine wpAnyH_ready (rs := [15]) (by kernel_rfl) (by simp) ?_
      refine (AllReadyH.cons (o := { dst := none, op := Op.store 25 (Operand.tmp 10) (Operand.tmp 55), type := 0, pos := "ref.go:127", after := #[{ on := 14, ground := Ground.data }, { on := 13, ground := Ground.data }, { on := 12, ground := Ground.chain }, { on := 0, ground := Ground.phase }, { on := 1, ground := Ground.phase }, { on := 2, ground := Ground.phase }, { on := 3, ground := Ground.phase }, { on := 4, ground := Ground.phase }, { on := 5, ground := Ground.phase }, { on := 6, ground := Ground.phase }, { on := 7, ground := Ground.phase }, { on := 8, ground := Ground.phase }, { on := 9, ground := Ground.phase }, { on := 10, ground := Ground.phase }, { on := 11, ground := Ground.phase }, { on := 12, ground := Ground.phase }, { on := 13, ground := Ground.phase }, { on := 14, ground := Ground.phase }], guard := none }) rfl (fun K hK => ?_) AllReadyH.nil)
      first | have hz9 : (u4.alloc (.cells rz.toArray 25)).heap[u4.heap.size]? = some (.cells rz.toArray 25 (0, 0)) := hn | have hz9 : u4.heap[w.heap.size + 1 + 1]? = some (.cells rz.toArray 25 (0, 0)) := (by have hz7 := hn; rw [show ((w.alloc (.cells rz.toArray 25)).drew.alloc (.cells #[] 5)).heap.size = w.heap.size + 1 + 1 from (World.size_alloc _ _).trans (congrArg (· + 1) (World.size_alloc w _))] at hz7; exact (hk54.block _ (by simp) (by simp)).trans hz7) | have hz9 : u4.heap[w.heap.size + 1]? = some (.cells rz.toArray 25 (0, 0)) := (by have hz7 := keep_blk hm5 hn; rw [show (w.alloc (.cells rz.toArray 25)).drew.heap.size = w.heap.size + 1 from World.size_alloc w _] at hz7; exact (hk54.block _ (by simp) (by simp)).trans hz7)
      refine wp_store_all 25 _ _ rfl ?bu158 ?csu158 ?hxu158 ?hyu158 rz 25 ?hzu158 ?hfu158 4 ?hnu158 Try.size25 ?h1u158 ?_
      case hyu158 => exact rfl
      case hxu158 => exact rfl
      case hzu158 => exact hz9
      case hfu158 => exact rfl
      case hnu158 => exact rfl
      case h1u158 => simp [allOne, Value.oneCell']
      intro u9 hb9 h9
      refine regx_next hK (Keeps.row h9 (by first | exact hx10 | (simp <;> omega))) ?_
      clear hK K
      try simp only [Act.put]
      refine wpAnyH_done (by kernel_rfl) ?_ _
      have hk9 : Keeps (fun k => w.heap.size + 1 ≤ k) (w.alloc (.cells rz.toArray 25)).drew u9 := ((Keeps.keep hm5).trans ((Keeps.of hk54 (fun r e => by cases e; first | exact hx5 | (simp <;> omega))).trans ((Keeps.keep hm).trans (Keeps.row h9 (by first | exact hx10 | (simp <;> omega))))))
      have HQ9 := Lib.hid (gs_end hQ4 (by first | exact World.grownBy.refl _ _ | exact World.grownBy_alloc _ _ _) hz9 h9)
      have HR9 := Lib.hid (show ∀ k, rowOf (.slice a4 m c4) = some k → w.heap.size ≤ k from fun k hk => by rcases hr4 with h | h <;> (rw [h] at hk; cases hk; simp <;> omega))
      have HB9 := Lib.hid hb9
      have HBN := Lib.hid (nb (S := w.heap.size) hb9 (by first | (simp <;> omega) | (have := hx10; omega)))
      have HS9 := Lib.hid ((hk9.block w.heap.size (by simp) (by simp)).trans HR0.out)
      have HG9 := Lib.hid (HG0.out.trans (drewl (hk9.toGrown (by intro i hi; simp at hi ⊢; omega))))
      have HKC9 := Lib.hid (keeps_cell hk9 (show (w.alloc (.cells rz.toArray 25)).drew.cell? ⟨b, o, none⟩ = some (.int .u8 (d : Int)) from HKC.out) (by have := HBK.out; simp; omega))
      clear hk9 hQ4 hr4 hb9 h9 hk54 hg4 hz9 hn hm hn5 hm5 hz5 hx5 hx10
      go_wp2
      refine regx_open (fun k => k = w.heap.size) (n := 22) rfl (by kernel_rfl) ?_
      refine regx_take 0 (some 56) (v := ?_) rfl rfl (by kernel_rfl) (by kernel_rfl) (by kernel_rfl) (fun _ _ _ h => h) (by rfl) ?_ ?_
      rotate_left
      · intro W hW; refine exec_ld25 (x := .tmp 10) ?_ ?_ (((hW).block _ (lt_of_block HB9.out) HBN.out).trans HB9.out) <;> rfl
      try simp only [Act.put, List.setIfInBounds_toArray, List.set_cons_zero, List.set_cons_succ]
      refine regx_take 1 (some 57) (v := ?_) rfl rfl (by kernel_rfl) (by kernel_rfl) (by kernel_rfl) (fun _ _ _ h => h) (by rfl) ?_ ?_
      rotate_left
      · intro W hW; refine exec_ld25 (x := .tmp 10) ?_ ?_ (((hW).block _ (lt_of_block HB9.out) HBN.out).trans HB9.out) <;> rfl
      try simp only [Act.put, List.setIfInBounds_toArray, List.set_cons_zero, List.set_cons_succ]
      refine wpAnyH_ready (rs := [2]) (by kernel_rfl) (by simp) ?_
      refine (AllReadyH.cons (o := { dst := some 58, op := Op.call { callee := Callee.value (Operand.func 12), args := #[Operand.tmp 57], argTypes := #[25] }, type := 4, pos := "ref.go:128", after := #[{ on := 1, ground := Ground.data }], guard := none }) rfl (fun K hK => ?_) AllReadyH.nil)
      go_simp
      refine (rright_any A d n0 a4 m c4 _).mono ?_; rintro e v1 ⟨rfl, hv1⟩
      simp only [hRt]
      refine regx_next hK (Keeps.keep hv1) ?_
      clear hK K
      try simp only [Act.put, List.setIfInBounds_toArray, List.set_cons_zero, List.set_cons_succ]
      refine regx_take 3 (some 59) (v := ?_) rfl rfl (by kernel_rfl) (by kernel_rfl) (by kernel_rfl) (fun _ _ _ h => h) (by rfl) ?_ ?_
      rotate_left
      · intro W hW; go_simp; first | done | with_reducible rfl
      try simp only [Act.put, List.setIfInBounds_toArray, List.set_cons_zero, List.set_cons_succ]
      refine regx_take 4 (some 60) (v := ?_) rfl rfl (by kernel_rfl) (by kernel_rfl) (by kernel_rfl) (fun _ _ _ h => h) (by rfl) ?_ ?_
      rotate_left
      · intro W hW; go_simp; first | done | with_reducible rfl
      try simp only [Act.put, List.setIfInBounds_toArray, List.set_cons_zero, List.set_cons_succ]
      refine regx_take 5 (some 61) (v := ?_) rfl rfl (by kernel_rfl) (by kernel_rfl) (by kernel_rfl) (fun _ _ _ h => h) (by rfl) ?_ ?_
      rotate_left
      · intro W hW; go_simp; first | done | with_reducible rfl
      try simp only [Act.put, List.setIfInBounds_toArray, List.set_cons_zero, List.set_cons_succ]
      refine regx_take 6 (some 62) (v := ?_) rfl rfl (by kernel_rfl) (by kernel_rfl) (by kernel_rfl) (fun _ _ _ h => h) (by rfl) ?_ ?_
      rotate_left
      · intro W hW; have k := keeps_cell ((Keeps.keep hv1).trans hW) (show u9.drew.cell? ⟨b, o, none⟩ = some (.int .u8 (d : Int)) from HKC9.out) (by have := HBK.out; simp; omega); go_simp; first | done | with_reducible rfl
      try simp only [Act.put, List.setIfInBounds_toArray, List.set_cons_zero, List.set_cons_succ]
      refine regx_take 7 (some 63) (v := ?_) rfl rfl (by kernel_rfl) (by kernel_rfl) (by kernel_rfl) (fun _ _ _ h => h) (by rfl) ?_ ?_
      rotate_left
      · intro W hW; go_simp; first | done | with_reducible rfl
      try simp only [Act.put, List.setIfInBounds_toArray, List.set_cons_zero, List.set_cons_succ]
      refine regx_take 8 (some 64) (v := ?_) rfl rfl (by kernel_rfl) (by kernel_rfl) (by kernel_rfl) (fun _ _ _ h => h) (by rfl) ?_ ?_
      rotate_left
      · intro W hW; go_simp; first | done | with_reducible rfl
      try simp only [Act.put, List.setIfInBounds_toArray, List.set_cons_zero, List.set_cons_succ]
      refine regx_take 9 (some 65) (v := ?_) rfl rfl (by kernel_rfl) (by kernel_rfl) (by kernel_rfl) (fun _ _ _ h => h) (by rfl) ?_ ?_
      rotate_left
      · intro W hW; go_simp; first | done | with_reducible rfl
      try simp only [Act.put, List.setIfInBounds_toArray, List.set_cons_zero, List.set_cons_succ]
      refine regx_take 10 (some 66) (v := ?_) rfl rfl (by kernel_rfl) (by kernel_rfl) (by kernel_rfl) (fun _ _ _ h => h) (by rfl) ?_ ?_
      rotate_left
      · intro W hW; go_simp; first | done | with_reducible rfl
      try simp only [Act.put, List.setIfInBounds_toArray, List.set_cons_zero, List.set_cons_succ]
      refine regx_take 11 (some 67) (v := ?_) rfl rfl (by kernel_rfl) (by kernel_rfl) (by kernel_rfl) (fun _ _ _ h => h) (by rfl) ?_ ?_
      rotate_left
      · intro W hW; go_simp; first | done | with_reducible rfl
      try simp only [Act.put, List.setIfInBounds_toArray, List.set_cons_zero, List.set_cons_succ]
      refine regx_take 12 (some 68) (v := ?_) rfl rfl (by kernel_rfl) (by kernel_rfl) (by kernel_rfl) (fun _ _ _ h => h) (by rfl) ?_ ?_
      rotate_left
      · intro W hW; go_simp; first | done | with_reducible rfl
      try simp only [Act.put, List.setIfInBounds_toArray, List.set_cons_zero, List.set_cons_succ]
      refine regx_take 13 (some 69) (v := ?_) rfl rfl (by kernel_rfl) (by kernel_rfl) (by kernel_rfl) (fun _ _ _ h => h) (by rfl) ?_ ?_
      rotate_left
      · intro W hW; go_simp; first | done | with_reducible rfl
      try simp only [Act.put, List.setIfInBounds_toArray, List.set_cons_zero, List.set_cons_succ]
      refine regx_take 14 (some 70) (v := ?_) rfl rfl (by kernel_rfl) (by kernel_rfl) (by kernel_rfl) (fun _ _ _ h => h) (by rfl) ?_ ?_
      rotate_left
      · intro W hW; go_simp; first | done | with_reducible rfl
      try simp only [Act.put, List.setIfInBounds_toArray, List.set_cons_zero, List.set_cons_succ]
      refine regx_take 15 (some 71) (v := ?_) rfl rfl (by kernel_rfl) (by kernel_rfl) (by kernel_rfl) (fun _ _ _ h => h) (by rfl) ?_ ?_
      rotate_left
      · intro W hW; have k := keeps_cell ((Keeps.keep hv1).trans hW) (show u9.drew.cell? _ = some (.slice a4 m c4) from cells_all HB9.out 3) HBN.out; go_simp; first | done | with_reducible rfl
      try simp only [Act.put, List.setIfInBounds_toArray, List.set_cons_zero, List.set_cons_succ]
      refine regx_take 16 (some 72) (v := ?_) rfl rfl (by kernel_rfl) (by kernel_rfl) (by kernel_rfl) (fun _ _ _ h => h) (by rfl) ?_ ?_
      rotate_left
      · intro W hW; go_simp; first | done | with_reducible rfl
      try simp only [Act.put, List.setIfInBounds_toArray, List.set_cons_zero, List.set_cons_succ]
      refine regx_take 17 (some 73) (v := ?_) rfl rfl (by kernel_rfl) (by kernel_rfl) (by kernel_rfl) (fun _ _ _ h => h) (by rfl) ?_ ?_
      rotate_left
      · intro W hW; go_simp; first | done | with_reducible rfl
      try simp only [Act.put, List.setIfInBounds_toArray, List.set_cons_zero, List.set_cons_succ]
      refine regx_take 18 (some 74) (v := ?_) rfl rfl (by kernel_rfl) (by kernel_rfl) (by kernel_rfl) (fun _ _ _ h => h) (by rfl) ?_ ?_
      rotate_left
      · intro W hW; go_simp; first | done | with_reducible rfl
      try simp only [Act.put, List.setIfInBounds_toArray, List.set_cons_zero, List.set_cons_succ]
      refine regx_take 19 (some 75) (v := ?_) rfl rfl (by kernel_rfl) (by kernel_rfl) (by kernel_rfl) (fun _ _ _ h => h) (by rfl) ?_ ?_
      rotate_left
      · intro W hW; go_simp; first | done | with_reducible rfl
      try simp only [Act.put, List.setIfInBounds_toArray, List.set_cons_zero, List.set_cons_succ]
      refine wpAnyH_ready (rs := [20]) (by kernel_rfl) (by simp) ?_
      refine (AllReadyH.cons (o := { dst := none, op := Op.store 25 (Operand.tmp 4) (Operand.tmp 56), type := 0, pos := "ref.go:128", after := #[{ on := 0, ground := Ground.data }, { on := 13, ground := Ground.chain }, { on := 0, ground := Ground.phase }, { on := 1, ground := Ground.textOnly Departure.lateStores }, { on := 2, ground := Ground.textOnly Departure.lateStoresUnsure }, { on := 3, ground := Ground.textOnly Departure.lateStores }, { on := 4, ground := Ground.textOnly Departure.lateStores }, { on := 5, ground := Ground.textOnly Departure.lateStores }, { on := 6, ground := Ground.textOnly Departure.lateStores }, { on := 7, ground := Ground.textOnly Departure.lateStores }, { on := 8, ground := Ground.textOnly Departure.lateStores }, { on := 9, ground := Ground.textOnly Departure.lateStores }, { on := 10, ground := Ground.textOnly Departure.lateStores }, { on := 11, ground := Ground.textOnly Departure.lateStores }, { on := 12, ground := Ground.textOnly Departure.lateStores }, { on := 13, ground := Ground.textOnly Departure.lateStores }, { on := 14, ground := Ground.textOnly Departure.lateStores }, { on := 15, ground := Ground.textOnly Departure.lateStores }, { on := 16, ground := Ground.textOnly Departure.lateStoresUnsure }, { on := 17, ground := Ground.textOnly Departure.lateStores }, { on := 18, ground := Ground.textOnly Departure.lateStores }, { on := 19, ground := Ground.textOnly Departure.lateStores }], guard := none }) rfl (fun K hK => ?_) AllReadyH.nil)
      refine wp_store_all 25 _ _ rfl w.heap.size ?csu160n ?hxu160n ?hyu160n rz 25 ?hzu160n ?hfu160n 4 ?hnu160n Try.size25 ?h1u160n ?_
      case hyu160n => exact rfl
      case hxu160n => exact rfl
      case hzu160n => exact (hv1.block _ (lt_of_block (show u9.drew.heap[w.heap.size]? = _ from HS9.out)) (by simp)).trans HS9.out
      case hfu160n => exact rfl
      case hnu160n => exact rfl
      case h1u160n => simp [allOne, Value.oneCell']
      intro v2 hb2 h2
      refine regx_next hK (Keeps.row h2 rfl) ?_
      clear hK K
      try simp only [Act.put]
      refine regx_take 21 (some 5) (v := ?_) rfl rfl (by kernel_rfl) (by kernel_rfl) (by kernel_rfl) (fun _ _ _ h => h) (by rfl) ?_ ?_
      rotate_left
      · intro W hW; go_simp; first | done | with_reducible rfl
      try simp only [Act.put, List.setIfInBounds_toArray, List.set_cons_zero, List.set_cons_succ]
      refine wpAnyH_done (by kernel_rfl) ?_ _
      have HB2 := Lib.hid hb2
      have HV2 := Lib.hid (grown_new (HG9.out.trans (drewl hv1)) h2 (Nat.le_refl _))
      have HV1 := Lib.hid (drewl hv1)
      have HS1 := Lib.hid (keep_blk hv1 HS9.out)
      have H2 := Lib.hid h2
      clear hv1 hb2 h2
      go_wp2
      refine bodyPost_ret (results_c25t rfl _ _ _ _ (by rfl) (by rfl) HB2.out) (by rfl) ?_
      exact bodyDo_no HO.out HV2.out
    · go_simp
      have hn := heap_alloc_new ((w.alloc (.cells rz.toArray 25)).drew.alloc (.cells #[] 5)) (.cells rz.toArray 25); have hm := World.grownBy_alloc ((w.alloc (.cells rz.toArray 25)).drew.alloc (.cells #[] 5)) (.cells rz.toArray 25) none; have hx10 : w.heap.size + 1 ≤ ((w.alloc (.cells rz.toArray 25)).drew.alloc (.cells #[] 5)).heap.size := (by first | simp | (have := hk54.size; simp at this; omega))
      refine regx_next hK (Keeps.keep hm) ?_
      clear hK K
      try simp only [Act.put, List.setIfInBounds_toArray, List.set_cons_zero, List.set_cons_succ]
      refine wpAnyH_ready (rs := [12]) (by kernel_rfl) (by simp) ?_
      refine (AllReadyH.cons (o := { dst := some 54, op := Op.call { callee := Callee.builtin Builtin.append, args := #[Operand.tmp 50, Operand.tmp 53], argTypes := #[23, 23] }, type := 23, pos := "ref.go:127", after := #[{ on := 8, ground := Ground.data }, { on := 11, ground := Ground.data }], guard := none }) rfl (fun K hK => ?_) AllReadyH.nil)
      first | refine wp_gs eB 23 (.tmp 50) (.tmp 53) rfl (.slice (some ⟨w.heap.size + 1, 0, none⟩) 0 0) _ 0 m [] (bsV v0) (by rfl) (by rfl) ?ggu163 (src_gon (c := c3) HM.out ?gsu163) HONE.out (by have := HM1.out; omega) ?_ | refine wp_gs eB 23 (.tmp 50) (.tmp 53) rfl (.slice (some ⟨w.heap.size + 1 + 1, 0, none⟩) 0 0) _ 0 m [] (bsV v0) (by rfl) (by rfl) ?ggu163 (src_gon (c := c3) HM.out ?gsu163) HONE.out (by have := HM1.out; omega) ?_
      case ggu163 => first | exact hn5 | exact hn5.keptNone ⟨rfl, rfl, rfl, by simp, fun k hk _ => heap_alloc_old _ _ (by simpa using hk)⟩
      case gsu163 => exact HS3.out.keptNone (drewl (Keeps.toGrown (X := fun k => w.heap.size + 1 ≤ k) ((Keeps.keep hm5).trans (Keeps.keep hm)) (by intro i hi; simp at hi ⊢; omega)))
      intro v4 u4 hQ4 hg4 hr4
      obtain ⟨a4, c4, hv4, _⟩ := hQ4.shape
      rw [Nat.zero_add] at hv4
      subst hv4
      first | have hk54 : World.grownBy _ u4 (some (w.heap.size + 1)) := hg4 | have hk54 : World.grownBy _ u4 (some (w.heap.size + 1 + 1)) := hg4
      refine regx_next hK (Keeps.of hk54 (fun r e => by cases e; first | exact hx5 | (simp <;> omega))) ?_
      clear hK K
      try simp only [Act.put, List.setIfInBounds_toArray, List.set_cons_zero, List.set_cons_succ]
      refine regx_take 13 (some 55) (v := ?_) rfl rfl (by kernel_rfl) (by kernel_rfl) (by kernel_rfl) (fun _ _ _ h => h) (by rfl) ?_ ?_
      rotate_left
      · intro W hW; go_simp; first | done | with_reducible rfl
      try simp only [Act.put, List.setIfInBounds_toArray, List.set_cons_zero, List.set_cons_succ]
      refine wpAnyH_ready (rs := [15]) (by kernel_rfl) (by simp) ?_
      refine (AllReadyH.cons (o := { dst := none, op := Op.store 25 (Operand.tmp 10) (Operand.tmp 55), type := 0, pos := "ref.go:127", after := #[{ on := 14, ground := Ground.data }, { on := 13, ground := Ground.data }, { on := 12, ground := Ground.chain }, { on := 0, ground := Ground.phase }, { on := 1, ground := Ground.phase }, { on := 2, ground := Ground.phase }, { on := 3, ground := Ground.phase }, { on := 4, ground := Ground.phase }, { on := 5, ground := Ground.phase }, { on := 6, ground := Ground.phase }, { on := 7, ground := Ground.phase }, { on := 8, ground := Ground.phase }, { on := 9, ground := Ground.phase }, { on := 10, ground := Ground.phase }, { on := 11, ground := Ground.phase }, { on := 12, ground := Ground.phase }, { on := 13, ground := Ground.phase }, { on := 14, ground := Ground.phase }], guard := none }) rfl (fun K hK => ?_) AllReadyH.nil)
      first | have hz9 : (u4.alloc (.cells rz.toArray 25)).heap[u4.heap.size]? = some (.cells rz.toArray 25 (0, 0)) := hn | have hz9 : u4.heap[w.heap.size + 1 + 1]? = some (.cells rz.toArray 25 (0, 0)) := (by have hz7 := hn; rw [show ((w.alloc (.cells rz.toArray 25)).drew.alloc (.cells #[] 5)).heap.size = w.heap.size + 1 + 1 from (World.size_alloc _ _).trans (congrArg (· + 1) (World.size_alloc w _))] at hz7; exact (hk54.block _ (by simp) (by simp)).trans hz7) | have hz9 : u4.heap[w.heap.size + 1]? = some (.cells rz.toArray 25 (0, 0)) := (by have hz7 := keep_blk hm5 hn; rw [show (w.alloc (.cells rz.toArray 25)).drew.heap.size = w.heap.size + 1 from World.size_alloc w _] at hz7; exact (hk54.block _ (by simp) (by simp)).trans hz7)
      refine wp_store_all 25 _ _ rfl ?bu165 ?csu165 ?hxu165 ?hyu165 rz 25 ?hzu165 ?hfu165 4 ?hnu165 Try.size25 ?h1u165 ?_
      case hyu165 => exact rfl
      case hxu165 => exact rfl
      case hzu165 => exact hz9
      case hfu165 => exact rfl
      case hnu165 => exact rfl
      case h1u165 => simp [allOne, Value.oneCell']
      intro u9 hb9 h9
      refine regx_next hK (Keeps.row h9 (by first | exact hx10 | (simp <;> omega))) ?_
      clear hK K
      try simp only [Act.put]
      refine wpAnyH_done (by kernel_rfl) ?_ _
      have hk9 : Keeps (fun k => w.heap.size + 1 ≤ k) (w.alloc (.cells rz.toArray 25)).drew u9 := ((Keeps.keep hm5).trans ((Keeps.keep hm).trans ((Keeps.of hk54 (fun r e => by cases e; first | exact hx5 | (simp <;> omega))).trans (Keeps.row h9 (by first | exact hx10 | (simp <;> omega))))))
      have HQ9 := Lib.hid (gs_end hQ4 (by first | exact World.grownBy.refl _ _ | exact World.grownBy_alloc _ _ _) hz9 h9)
      have HR9 := Lib.hid (show ∀ k, rowOf (.slice a4 m c4) = some k → w.heap.size ≤ k from fun k hk => by rcases hr4 with h | h <;> (rw [h] at hk; cases hk; simp <;> omega))
      have HB9 := Lib.hid hb9
      have HBN := Lib.hid (nb (S := w.heap.size) hb9 (by first | (simp <;> omega) | (have := hx10; omega)))
      have HS9 := Lib.hid ((hk9.block w.heap.size (by simp) (by simp)).trans HR0.out)
      have HG9 := Lib.hid (HG0.out.trans (drewl (hk9.toGrown (by intro i hi; simp at hi ⊢; omega))))
      have HKC9 := Lib.hid (keeps_cell hk9 (show (w.alloc (.cells rz.toArray 25)).drew.cell? ⟨b, o, none⟩ = some (.int .u8 (d : Int)) from HKC.out) (by have := HBK.out; simp; omega))
      clear hk9 hQ4 hr4 hb9 h9 hk54 hg4 hz9 hn hm hn5 hm5 hz5 hx5 hx10
      go_wp2
      refine regx_open (fun k => k = w.heap.size) (n := 22) rfl (by kernel_rfl) ?_
      refine regx_take 0 (some 56) (v := ?_) rfl rfl (by kernel_rfl) (by kernel_rfl) (by kernel_rfl) (fun _ _ _ h => h) (by rfl) ?_ ?_
      rotate_left
      · intro W hW; refine exec_ld25 (x := .tmp 10) ?_ ?_ (((hW).block _ (lt_of_block HB9.out) HBN.out).trans HB9.out) <;> rfl
      try simp only [Act.put, List.setIfInBounds_toArray, List.set_cons_zero, List.set_cons_succ]
      refine regx_take 1 (some 57) (v := ?_) rfl rfl (by kernel_rfl) (by kernel_rfl) (by kernel_rfl) (fun _ _ _ h => h) (by rfl) ?_ ?_
      rotate_left
      · intro W hW; refine exec_ld25 (x := .tmp 10) ?_ ?_ (((hW).block _ (lt_of_block HB9.out) HBN.out).trans HB9.out) <;> rfl
      try simp only [Act.put, List.setIfInBounds_toArray, List.set_cons_zero, List.set_cons_succ]
      refine wpAnyH_ready (rs := [2]) (by kernel_rfl) (by simp) ?_
      refine (AllReadyH.cons (o := { dst := some 58, op := Op.call { callee := Callee.value (Operand.func 12), args := #[Operand.tmp 57], argTypes := #[25] }, type := 4, pos := "ref.go:128", after := #[{ on := 1, ground := Ground.data }], guard := none }) rfl (fun K hK => ?_) AllReadyH.nil)
      go_simp
      refine (rright_any A d n0 a4 m c4 _).mono ?_; rintro e v1 ⟨rfl, hv1⟩
      simp only [hRt]
      refine regx_next hK (Keeps.keep hv1) ?_
      clear hK K
      try simp only [Act.put, List.setIfInBounds_toArray, List.set_cons_zero, List.set_cons_succ]
      refine regx_take 3 (some 59) (v := ?_) rfl rfl (by kernel_rfl) (by kernel_rfl) (by kernel_rfl) (fun _ _ _ h => h) (by rfl) ?_ ?_
      rotate_left
      · intro W hW; go_simp; first | done | with_reducible rfl
      try simp only [Act.put, List.setIfInBounds_toArray, List.set_cons_zero, List.set_cons_succ]
      refine regx_take 4 (some 60) (v := ?_) rfl rfl (by kernel_rfl) (by kernel_rfl) (by kernel_rfl) (fun _ _ _ h => h) (by rfl) ?_ ?_
      rotate_left
      · intro W hW; go_simp; first | done | with_reducible rfl
      try simp only [Act.put, List.setIfInBounds_toArray, List.set_cons_zero, List.set_cons_succ]
      refine regx_take 5 (some 61) (v := ?_) rfl rfl (by kernel_rfl) (by kernel_rfl) (by kernel_rfl) (fun _ _ _ h => h) (by rfl) ?_ ?_
      rotate_left
      · intro W hW; go_simp; first | done | with_reducible rfl
      try simp only [Act.put, List.setIfInBounds_toArray, List.set_cons_zero, List.set_cons_succ]
      refine regx_take 6 (some 62) (v := ?_) rfl rfl (by kernel_rfl) (by kernel_rfl) (by kernel_rfl) (fun _ _ _ h => h) (by rfl) ?_ ?_
      rotate_left
      · intro W hW; have k := keeps_cell ((Keeps.keep hv1).trans hW) (show u9.drew.cell? ⟨b, o, none⟩ = some (.int .u8 (d : Int)) from HKC9.out) (by have := HBK.out; simp; omega); go_simp; first | done | with_reducible rfl
      try simp only [Act.put, List.setIfInBounds_toArray, List.set_cons_zero, List.set_cons_succ]
      refine regx_take 7 (some 63) (v := ?_) rfl rfl (by kernel_rfl) (by kernel_rfl) (by kernel_rfl) (fun _ _ _ h => h) (by rfl) ?_ ?_
      rotate_left
      · intro W hW; go_simp; first | done | with_reducible rfl
      try simp only [Act.put, List.setIfInBounds_toArray, List.set_cons_zero, List.set_cons_succ]
      refine regx_take 8 (some 64) (v := ?_) rfl rfl (by kernel_rfl) (by kernel_rfl) (by kernel_rfl) (fun _ _ _ h => h) (by rfl) ?_ ?_
      rotate_left
      · intro W hW; go_simp; first | done | with_reducible rfl
      try simp only [Act.put, List.setIfInBounds_toArray, List.set_cons_zero, List.set_cons_succ]
      refine regx_take 9 (some 65) (v := ?_) rfl rfl (by kernel_rfl) (by kernel_rfl) (by kernel_rfl) (fun _ _ _ h => h) (by rfl) ?_ ?_
      rotate_left
      · intro W hW; go_simp; first | done | with_reducible rfl
      try simp only [Act.put, List.setIfInBounds_toArray, List.set_cons_zero, List.set_cons_succ]
      refine regx_take 10 (some 66) (v := ?_) rfl rfl (by kernel_rfl) (by kernel_rfl) (by kernel_rfl) (fun _ _ _ h => h) (by rfl) ?_ ?_
      rotate_left
      · intro W hW; go_simp; first | done | with_reducible rfl
      try simp only [Act.put, List.setIfInBounds_toArray, List.set_cons_zero, List.set_cons_succ]
      refine regx_take 11 (some 67) (v := ?_) rfl rfl (by kernel_rfl) (by kernel_rfl) (by kernel_rfl) (fun _ _ _ h => h) (by rfl) ?_ ?_
      rotate_left
      · intro W hW; go_simp; first | done | with_reducible rfl
      try simp only [Act.put, List.setIfInBounds_toArray, List.set_cons_zero, List.set_cons_succ]
      refine regx_take 12 (some 68) (v := ?_) rfl rfl (by kernel_rfl) (by kernel_rfl) (by kernel_rfl) (fun _ _ _ h => h) (by rfl) ?_ ?_
      rotate_left
      · intro W hW; go_simp; first | done | with_reducible rfl
      try simp only [Act.put, List.setIfInBounds_toArray, List.set_cons_zero, List.set_cons_succ]
      refine regx_take 13 (some 69) (v := ?_) rfl rfl (by kernel_rfl) (by kernel_rfl) (by kernel_rfl) (fun _ _ _ h => h) (by rfl) ?_ ?_
      rotate_left
      · intro W hW; go_simp; first | done | with_reducible rfl
      try simp only [Act.put, List.setIfInBounds_toArray, List.set_cons_zero, List.set_cons_succ]
      refine regx_take 14 (some 70) (v := ?_) rfl rfl (by kernel_rfl) (by kernel_rfl) (by kernel_rfl) (fun _ _ _ h => h) (by rfl) ?_ ?_
      rotate_left
      · intro W hW; go_simp; first | done | with_reducible rfl
      try simp only [Act.put, List.setIfInBounds_toArray, List.set_cons_zero, List.set_cons_succ]
      refine regx_take 15 (some 71) (v := ?_) rfl rfl (by kernel_rfl) (by kernel_rfl) (by kernel_rfl) (fun _ _ _ h => h) (by rfl) ?_ ?_
      rotate_left
      · intro W hW; have k := keeps_cell ((Keeps.keep hv1).trans hW) (show u9.drew.cell? _ = some (.slice a4 m c4) from cells_all HB9.out 3) HBN.out; go_simp; first | done | with_reducible rfl
      try simp only [Act.put, List.setIfInBounds_toArray, List.set_cons_zero, List.set_cons_succ]
      refine regx_take 16 (some 72) (v := ?_) rfl rfl (by kernel_rfl) (by kernel_rfl) (by kernel_rfl) (fun _ _ _ h => h) (by rfl) ?_ ?_
      rotate_left
      · intro W hW; go_simp; first | done | with_reducible rfl
      try simp only [Act.put, List.setIfInBounds_toArray, List.set_cons_zero, List.set_cons_succ]
      refine regx_take 17 (some 73) (v := ?_) rfl rfl (by kernel_rfl) (by kernel_rfl) (by kernel_rfl) (fun _ _ _ h => h) (by rfl) ?_ ?_
      rotate_left
      · intro W hW; go_simp; first | done | with_reducible rfl
      try simp only [Act.put, List.setIfInBounds_toArray, List.set_cons_zero, List.set_cons_succ]
      refine regx_take 18 (some 74) (v := ?_) rfl rfl (by kernel_rfl) (by kernel_rfl) (by kernel_rfl) (fun _ _ _ h => h) (by rfl) ?_ ?_
      rotate_left
      · intro W hW; go_simp; first | done | with_reducible rfl
      try simp only [Act.put, List.setIfInBounds_toArray, List.set_cons_zero, List.set_cons_succ]
      refine regx_take 19 (some 75) (v := ?_) rfl rfl (by kernel_rfl) (by kernel_rfl) (by kernel_rfl) (fun _ _ _ h => h) (by rfl) ?_ ?_
      rotate_left
      · intro W hW; go_simp; first | done | with_reducible rfl
      try simp only [Act.put, List.setIfInBounds_toArray, List.set_cons_zero, List.set_cons_succ]
      refine wpAnyH_ready (rs := [20]) (by kernel_rfl) (by simp) ?_
      refine (AllReadyH.cons (o := { dst := none, op := Op.store 25 (Operand.tmp 4) (Operand.tmp 56), type := 0, pos := "ref.go:128", after := #[{ on := 0, ground := Ground.data }, { on := 13, ground := Ground.chain }, { on := 0, ground := Ground.phase }, { on := 1, ground := Ground.textOnly Departure.lateStores }, { on := 2, ground := Ground.textOnly Departure.lateStoresUnsure }, { on := 3, ground := Ground.textOnly Departure.lateStores }, { on := 4, ground := Ground.textOnly Departure.lateStores }, { on := 5, ground := Ground.textOnly Departure.lateStores }, { on := 6, ground := Ground.textOnly Departure.lateStores }, { on := 7, ground := Ground.textOnly Departure.lateStores }, { on := 8, ground := Ground.textOnly Departure.lateStores }, { on := 9, ground := Ground.textOnly Departure.lateStores }, { on := 10, ground := Ground.textOnly Departure.lateStores }, { on := 11, ground := Ground.textOnly Departure.lateStores }, { on := 12, ground := Ground.textOnly Departure.lateStores }, { on := 13, ground := Ground.textOnly Departure.lateStores }, { on := 14, ground := Ground.textOnly Departure.lateStores }, { on := 15, ground := Ground.textOnly Departure.lateStores }, { on := 16, ground := Ground.textOnly Departure.lateStoresUnsure }, { on := 17, ground := Ground.textOnly Departure.lateStores }, { on := 18, ground := Ground.textOnly Departure.lateStores }, { on := 19, ground := Ground.textOnly Departure.lateStores }], guard := none }) rfl (fun K hK => ?_) AllReadyH.nil)
      refine wp_store_all 25 _ _ rfl w.heap.size ?csu167n ?hxu167n ?hyu167n rz 25 ?hzu167n ?hfu167n 4 ?hnu167n Try.size25 ?h1u167n ?_
      case hyu167n => exact rfl
      case hxu167n => exact rfl
      case hzu167n => exact (hv1.block _ (lt_of_block (show u9.drew.heap[w.heap.size]? = _ from HS9.out)) (by simp)).trans HS9.out
      case hfu167n => exact rfl
      case hnu167n => exact rfl
      case h1u167n => simp [allOne, Value.oneCell']
      intro v2 hb2 h2
      refine regx_next hK (Keeps.row h2 rfl) ?_
      clear hK K
      try simp only [Act.put]
      refine regx_take 21 (some 5) (v := ?_) rfl rfl (by kernel_rfl) (by kernel_rfl) (by kernel_rfl) (fun _ _ _ h => h) (by rfl) ?_ ?_
      rotate_left
      · intro W hW; go_simp; first | done | with_reducible rfl
      try simp only [Act.put, List.setIfInBounds_toArray, List.set_cons_zero, List.set_cons_succ]
      refine wpAnyH_done (by kernel_rfl) ?_ _
      have HB2 := Lib.hid hb2
      have HV2 := Lib.hid (grown_new (HG9.out.trans (drewl hv1)) h2 (Nat.le_refl _))
      have HV1 := Lib.hid (drewl hv1)
      have HS1 := Lib.hid (keep_blk hv1 HS9.out)
      have H2 := Lib.hid h2
      clear hv1 hb2 h2
      go_wp2
      refine bodyPost_ret (results_c25t rfl _ _ _ _ (by rfl) (by rfl) HB2.out) (by rfl) ?_
      exact bodyDo_no HO.out HV2.out
  · go_simp
    have hn := heap_alloc_new (w.alloc (.cells rz.toArray 25)).drew (.cells rz.toArray 25); have hm := World.grownBy_alloc (w.alloc (.cells rz.toArray 25)).drew (.cells rz.toArray 25) none; have hx10 : w.heap.size + 1 ≤ (w.alloc (.cells rz.toArray 25)).drew.heap.size := (by first | simp | (have := hk54.size; simp at this; omega))
    refine regx_next hK (Keeps.keep hm) ?_
    clear hK K
    try simp only [Act.put, List.setIfInBounds_toArray, List.set_cons_zero, List.set_cons_succ]
    refine wpAnyH_ready (rs := [8]) (by kernel_rfl) (by simp) ?_
    refine (AllReadyH.cons (o := { dst := some 50, op := Op.buildSlice 23 0 #[], type := 23, pos := "ref.go:127", after := #[], guard := none }) rfl (fun K hK => ?_) AllReadyH.nil)
    go_simp
    have hn5 := Gs.empty ((w.alloc (.cells rz.toArray 25)).drew.alloc (.cells rz.toArray 25)); simp at hn5; have hm5 := World.grownBy_alloc ((w.alloc (.cells rz.toArray 25)).drew.alloc (.cells rz.toArray 25)) (.cells #[] 5) none; have hz5 := heap_alloc_new ((w.alloc (.cells rz.toArray 25)).drew.alloc (.cells rz.toArray 25)) (.cells #[] 5); have hx5 : w.heap.size + 1 ≤ ((w.alloc (.cells rz.toArray 25)).drew.alloc (.cells rz.toArray 25)).heap.size := (by simp)
    refine regx_next hK (Keeps.keep hm5) ?_
    clear hK K
    try simp only [Act.put, List.setIfInBounds_toArray, List.set_cons_zero, List.set_cons_succ]
    refine wpAnyH_ready (rs := [12]) (by kernel_rfl) (by simp) ?_
    refine (AllReadyH.cons (o := { dst := some 54, op := Op.call { callee := Callee.builtin Builtin.append, args := #[Operand.tmp 50, Operand.tmp 53], argTypes := #[23, 23] }, type := 23, pos := "ref.go:127", after := #[{ on := 8, ground := Ground.data }, { on := 11, ground := Ground.data }], guard := none }) rfl (fun K hK => ?_) AllReadyH.nil)
    first | refine wp_gs eB 23 (.tmp 50) (.tmp 53) rfl (.slice (some ⟨w.heap.size + 1, 0, none⟩) 0 0) _ 0 m [] (bsV v0) (by rfl) (by rfl) ?ggu172 (src_gon (c := c3) HM.out ?gsu172) HONE.out (by have := HM1.out; omega) ?_ | refine wp_gs eB 23 (.tmp 50) (.tmp 53) rfl (.slice (some ⟨w.heap.size + 1 + 1, 0, none⟩) 0 0) _ 0 m [] (bsV v0) (by rfl) (by rfl) ?ggu172 (src_gon (c := c3) HM.out ?gsu172) HONE.out (by have := HM1.out; omega) ?_
    case ggu172 => first | exact hn5 | exact hn5.keptNone ⟨rfl, rfl, rfl, by simp, fun k hk _ => heap_alloc_old _ _ (by simpa using hk)⟩
    case gsu172 => exact HS3.out.keptNone (drewl (Keeps.toGrown (X := fun k => w.heap.size + 1 ≤ k) ((Keeps.keep hm).trans (Keeps.keep hm5)) (by intro i hi; simp at hi ⊢; omega)))
    intro v4 u4 hQ4 hg4 hr4
    obtain ⟨a4, c4, hv4, _⟩ := hQ4.shape
    rw [Nat.zero_add] at hv4
    subst hv4
    first | have hk54 : World.grownBy _ u4 (some (w.heap.size + 1)) := hg4 | have hk54 : World.grownBy _ u4 (some (w.heap.size + 1 + 1)) := hg4
    refine regx_next hK (Keeps.of hk54 (fun r e => by cases e; first | exact hx5 | (simp <;> omega))) ?_
    clear hK K
    try simp only [Act.put, List.setIfInBounds_toArray, List.set_cons_zero, List.set_cons_succ]
    refine regx_take 13 (some 55) (v := ?_) rfl rfl (by kernel_rfl) (by kernel_rfl) (by kernel_rfl) (fun _ _ _ h => h) (by rfl) ?_ ?_
    rotate_left
    · intro W hW; go_simp; first | done | with_reducible rfl
    try simp only [Act.put, List.setIfInBounds_toArray, List.set_cons_zero, List.set_cons_succ]
    refine wpAnyH_ready (rs := [15]) (by kernel_rfl) (by simp) ?_
    refine (AllReadyH.cons (o := { dst := none, op := Op.store 25 (Operand.tmp 10) (Operand.tmp 55), type := 0, pos := "ref.go:127", after := #[{ on := 14, ground := Ground.data }, { on := 13, ground := Ground.data }, { on := 12, ground := Ground.chain }, { on := 0, ground := Ground.phase }, { on := 1, ground := Ground.phase }, { on := 2, ground := Ground.phase }, { on := 3, ground := Ground.phase }, { on := 4, ground := Ground.phase }, { on := 5, ground := Ground.phase }, { on := 6, ground := Ground.phase }, { on := 7, ground := Ground.phase }, { on := 8, ground := Ground.phase }, { on := 9, ground := Ground.phase }, { on := 10, ground := Ground.phase }, { on := 11, ground := Ground.phase }, { on := 12, ground := Ground.phase }, { on := 13, ground := Ground.phase }, { on := 14, ground := Ground.phase }], guard := none }) rfl (fun K hK => ?_) AllReadyH.nil)
    first | have hz9 : (u4.alloc (.cells rz.toArray 25)).heap[u4.heap.size]? = some (.cells rz.toArray 25 (0, 0)) := hn | have hz9 : u4.heap[w.heap.size + 1 + 1]? = some (.cells rz.toArray 25 (0, 0)) := (by have hz7 := hn; rw [show ((w.alloc (.cells rz.toArray 25)).drew.alloc (.cells #[] 5)).heap.size = w.heap.size + 1 + 1 from (World.size_alloc _ _).trans (congrArg (· + 1) (World.size_alloc w _))] at hz7; exact (hk54.block _ (by simp) (by simp)).trans hz7) | have hz9 : u4.heap[w.heap.size + 1]? = some (.cells rz.toArray 25 (0, 0)) := (by have hz7 := keep_blk hm5 hn; rw [show (w.alloc (.cells rz.toArray 25)).drew.heap.size = w.heap.size + 1 from World.size_alloc w _] at hz7; exact (hk54.block _ (by simp) (by simp)).trans hz7)
    refine wp_store_all 25 _ _ rfl ?bu174 ?csu174 ?hxu174 ?hyu174 rz 25 ?hzu174 ?hfu174 4 ?hnu174 Try.size25 ?h1u174 ?_
    case hyu174 => exact rfl
    case hxu174 => exact rfl
    case hzu174 => exact hz9
    case hfu174 => exact rfl
    case hnu174 => exact rfl
    case h1u174 => simp [allOne, Value.oneCell']
    intro u9 hb9 h9
    refine regx_next hK (Keeps.row h9 (by first | exact hx10 | (simp <;> omega))) ?_
    clear hK K
    try simp only [Act.put]
    refine wpAnyH_done (by kernel_rfl) ?_ _
    have hk9 : Keeps (fun k => w.heap.size + 1 ≤ k) (w.alloc (.cells rz.toArray 25)).drew u9 := ((Keeps.keep hm).trans ((Keeps.keep hm5).trans ((Keeps.of hk54 (fun r e => by cases e; first | exact hx5 | (simp <;> omega))).trans (Keeps.row h9 (by first | exact hx10 | (simp <;> omega))))))
    have HQ9 := Lib.hid (gs_end hQ4 (by first | exact World.grownBy.refl _ _ | exact World.grownBy_alloc _ _ _) hz9 h9)
    have HR9 := Lib.hid (show ∀ k, rowOf (.slice a4 m c4) = some k → w.heap.size ≤ k from fun k hk => by rcases hr4 with h | h <;> (rw [h] at hk; cases hk; simp <;> omega))
    have HB9 := Lib.hid hb9
    have HBN := Lib.hid (nb (S := w.heap.size) hb9 (by first | (simp <;> omega) | (have := hx10; omega)))
    have HS9 := Lib.hid ((hk9.block w.heap.size (by simp) (by simp)).trans HR0.out)
    have HG9 := Lib.hid (HG0.out.trans (drewl (hk9.toGrown (by intro i hi; simp at hi ⊢; omega))))
    have HKC9 := Lib.hid (keeps_cell hk9 (show (w.alloc (.cells rz.toArray 25)).drew.cell? ⟨b, o, none⟩ = some (.int .u8 (d : Int)) from HKC.out) (by have := HBK.out; simp; omega))
    clear hk9 hQ4 hr4 hb9 h9 hk54 hg4 hz9 hn hm hn5 hm5 hz5 hx5 hx10
    go_wp2
    refine regx_open (fun k => k = w.heap.size) (n := 22) rfl (by kernel_rfl) ?_
    refine regx_take 0 (some 56) (v := ?_) rfl rfl (by kernel_rfl) (by kernel_rfl) (by kernel_rfl) (fun _ _ _ h => h) (by rfl) ?_ ?_
    rotate_left
    · intro W hW; refine exec_ld25 (x := .tmp 10) ?_ ?_ (((hW).block _ (lt_of_block HB9.out) HBN.out).trans HB9.out) <;> rfl
    try simp only [Act.put, List.setIfInBounds_toArray, List.set_cons_zero, List.set_cons_succ]
    refine regx_take 1 (some 57) (v := ?_) rfl rfl (by kernel_rfl) (by kernel_rfl) (by kernel_rfl) (fun _ _ _ h => h) (by rfl) ?_ ?_
    rotate_left
    · intro W hW; refine exec_ld25 (x := .tmp 10) ?_ ?_ (((hW).block _ (lt_of_block HB9.out) HBN.out).trans HB9.out) <;> rfl
    try simp only [Act.put, List.setIfInBounds_toArray, List.set_cons_zero, List.set_cons_succ]
    refine wpAnyH_ready (rs := [2]) (by kernel_rfl) (by simp) ?_
    refine (AllReadyH.cons (o := { dst := some 58, op := Op.call { callee := Callee.value (Operand.func 12), args := #[Operand.tmp 57], argTypes := #[25] }, type := 4, pos := "ref.go:128", after := #[{ on := 1, ground := Ground.data }], guard := none }) rfl (fun K hK => ?_) AllReadyH.nil)
    go_simp
    refine (rright_any A d n0 a4 m c4 _).mono ?_; rintro e v1 ⟨rfl, hv1⟩
    simp only [hRt]
    refine regx_next hK (Keeps.keep hv1) ?_
    clear hK K
    try simp only [Act.put, List.setIfInBounds_toArray, List.set_cons_zero, List.set_cons_succ]
    refine regx_take 3 (some 59) (v := ?_) rfl rfl (by kernel_rfl) (by kernel_rfl) (by kernel_rfl) (fun _ _ _ h => h) (by rfl) ?_ ?_
    rotate_left
    · intro W hW; go_simp; first | done | with_reducible rfl
    try simp only [Act.put, List.setIfInBounds_toArray, List.set_cons_zero, List.set_cons_succ]
    refine regx_take 4 (some 60) (v := ?_) rfl rfl (by kernel_rfl) (by kernel_rfl) (by kernel_rfl) (fun _ _ _ h => h) (by rfl) ?_ ?_
    rotate_left
    · intro W hW; go_simp; first | done | with_reducible rfl
    try simp only [Act.put, List.setIfInBounds_toArray, List.set_cons_zero, List.set_cons_succ]
    refine regx_take 5 (some 61) (v := ?_) rfl rfl (by kernel_rfl) (by kernel_rfl) (by kernel_rfl) (fun _ _ _ h => h) (by rfl) ?_ ?_
    rotate_left
    · intro W hW; go_simp; first | done | with_reducible rfl
    try simp only [Act.put, List.setIfInBounds_toArray, List.set_cons_zero, List.set_cons_succ]
    refine regx_take 6 (some 62) (v := ?_) rfl rfl (by kernel_rfl) (by kernel_rfl) (by kernel_rfl) (fun _ _ _ h => h) (by rfl) ?_ ?_
    rotate_left
    · intro W hW; have k := keeps_cell ((Keeps.keep hv1).trans hW) (show u9.drew.cell? ⟨b, o, none⟩ = some (.int .u8 (d : Int)) from HKC9.out) (by have := HBK.out; simp; omega); go_simp; first | done | with_reducible rfl
    try simp only [Act.put, List.setIfInBounds_toArray, List.set_cons_zero, List.set_cons_succ]
    refine regx_take 7 (some 63) (v := ?_) rfl rfl (by kernel_rfl) (by kernel_rfl) (by kernel_rfl) (fun _ _ _ h => h) (by rfl) ?_ ?_
    rotate_left
    · intro W hW; go_simp; first | done | with_reducible rfl
    try simp only [Act.put, List.setIfInBounds_toArray, List.set_cons_zero, List.set_cons_succ]
    refine regx_take 8 (some 64) (v := ?_) rfl rfl (by kernel_rfl) (by kernel_rfl) (by kernel_rfl) (fun _ _ _ h => h) (by rfl) ?_ ?_
    rotate_left
    · intro W hW; go_simp; first | done | with_reducible rfl
    try simp only [Act.put, List.setIfInBounds_toArray, List.set_cons_zero, List.set_cons_succ]
    refine regx_take 9 (some 65) (v := ?_) rfl rfl (by kernel_rfl) (by kernel_rfl) (by kernel_rfl) (fun _ _ _ h => h) (by rfl) ?_ ?_
    rotate_left
    · intro W hW; go_simp; first | done | with_reducible rfl
    try simp only [Act.put, List.setIfInBounds_toArray, List.set_cons_zero, List.set_cons_succ]
    refine regx_take 10 (some 66) (v := ?_) rfl rfl (by kernel_rfl) (by kernel_rfl) (by kernel_rfl) (fun _ _ _ h => h) (by rfl) ?_ ?_
    rotate_left
    · intro W hW; go_simp; first | done | with_reducible rfl
    try simp only [Act.put, List.setIfInBounds_toArray, List.set_cons_zero, List.set_cons_succ]
    refine regx_take 11 (some 67) (v := ?_) rfl rfl (by kernel_rfl) (by kernel_rfl) (by kernel_rfl) (fun _ _ _ h => h) (by rfl) ?_ ?_
    rotate_left
    · intro W hW; go_simp; first | done | with_reducible rfl
    try simp only [Act.put, List.setIfInBounds_toArray, List.set_cons_zero, List.set_cons_succ]
    refine regx_take 12 (some 68) (v := ?_) rfl rfl (by kernel_rfl) (by kernel_rfl) (by kernel_rfl) (fun _ _ _ h => h) (by rfl) ?_ ?_
    rotate_left
    · intro W hW; go_simp; first | done | with_reducible rfl
    try simp only [Act.put, List.setIfInBounds_toArray, List.set_cons_zero, List.set_cons_succ]
    refine regx_take 13 (some 69) (v := ?_) rfl rfl (by kernel_rfl) (by kernel_rfl) (by kernel_rfl) (fun _ _ _ h => h) (by rfl) ?_ ?_
    rotate_left
    · intro W hW; go_simp; first | done | with_reducible rfl
    try simp only [Act.put, List.setIfInBounds_toArray, List.set_cons_zero, List.set_cons_succ]
    refine regx_take 14 (some 70) (v := ?_) rfl rfl (by kernel_rfl) (by kernel_rfl) (by kernel_rfl) (fun _ _ _ h => h) (by rfl) ?_ ?_
    rotate_left
    · intro W hW; go_simp; first | done | with_reducible rfl
    try simp only [Act.put, List.setIfInBounds_toArray, List.set_cons_zero, List.set_cons_succ]
    refine regx_take 15 (some 71) (v := ?_) rfl rfl (by kernel_rfl) (by kernel_rfl) (by kernel_rfl) (fun _ _ _ h => h) (by rfl) ?_ ?_
    rotate_left
    · intro W hW; have k := keeps_cell ((Keeps.keep hv1).trans hW) (show u9.drew.cell? _ = some (.slice a4 m c4) from cells_all HB9.out 3) HBN.out; go_simp; first | done | with_reducible rfl
    try simp only [Act.put, List.setIfInBounds_toArray, List.set_cons_zero, List.set_cons_succ]
    refine regx_take 16 (some 72) (v := ?_) rfl rfl (by kernel_rfl) (by kernel_rfl) (by kernel_rfl) (fun _ _ _ h => h) (by rfl) ?_ ?_
    rotate_left
    · intro W hW; go_simp; first | done | with_reducible rfl
    try simp only [Act.put, List.setIfInBounds_toArray, List.set_cons_zero, List.set_cons_succ]
    refine regx_take 17 (some 73) (v := ?_) rfl rfl (by kernel_rfl) (by kernel_rfl) (by kernel_rfl) (fun _ _ _ h => h) (by rfl) ?_ ?_
    rotate_left
    · intro W hW; go_simp; first | done | with_reducible rfl
    try simp only [Act.put, List.setIfInBounds_toArray, List.set_cons_zero, List.set_cons_succ]
    refine regx_take 18 (some 74) (v := ?_) rfl rfl (by kernel_rfl) (by kernel_rfl) (by kernel_rfl) (fun _ _ _ h => h) (by rfl) ?_ ?_
    rotate_left
    · intro W hW; go_simp; first | done | with_reducible rfl
    try simp only [Act.put, List.setIfInBounds_toArray, List.set_cons_zero, List.set_cons_succ]
    refine regx_take 19 (some 75) (v := ?_) rfl rfl (by kernel_rfl) (by kernel_rfl) (by kernel_rfl) (fun _ _ _ h => h) (by rfl) ?_ ?_
    rotate_left
    · intro W hW; go_simp; first | done | with_reducible rfl
    try simp only [Act.put, List.setIfInBounds_toArray, List.set_cons_zero, List.set_cons_succ]
    refine wpAnyH_ready (rs := [20]) (by kernel_rfl) (by simp) ?_
    refine (AllReadyH.cons (o := { dst := none, op := Op.store 25 (Operand.tmp 4) (Operand.tmp 56), type := 0, pos := "ref.go:128", after := #[{ on := 0, ground := Ground.data }, { on := 13, ground := Ground.chain }, { on := 0, ground := Ground.phase }, { on := 1, ground := Ground.textOnly Departure.lateStores }, { on := 2, ground := Ground.textOnly Departure.lateStoresUnsure }, { on := 3, ground := Ground.textOnly Departure.lateStores }, { on := 4, ground := Ground.textOnly Departure.lateStores }, { on := 5, ground := Ground.textOnly Departure.lateStores }, { on := 6, ground := Ground.textOnly Departure.lateStores }, { on := 7, ground := Ground.textOnly Departure.lateStores }, { on := 8, ground := Ground.textOnly Departure.lateStores }, { on := 9, ground := Ground.textOnly Departure.lateStores }, { on := 10, ground := Ground.textOnly Departure.lateStores }, { on := 11, ground := Ground.textOnly Departure.lateStores }, { on := 12, ground := Ground.textOnly Departure.lateStores }, { on := 13, ground := Ground.textOnly Departure.lateStores }, { on := 14, ground := Ground.textOnly Departure.lateStores }, { on := 15, ground := Ground.textOnly Departure.lateStores }, { on := 16, ground := Ground.textOnly Departure.lateStoresUnsure }, { on := 17, ground := Ground.textOnly Departure.lateStores }, { on := 18, ground := Ground.textOnly Departure.lateStores }, { on := 19, ground := Ground.textOnly Departure.lateStores }], guard := none }) rfl (fun K hK => ?_) AllReadyH.nil)
    refine wp_store_all 25 _ _ rfl w.heap.size ?csu176n ?hxu176n ?hyu176n rz 25 ?hzu176n ?hfu176n 4 ?hnu176n Try.size25 ?h1u176n ?_
    case hyu176n => exact rfl
    case hxu176n => exact rfl
    case hzu176n => exact (hv1.block _ (lt_of_block (show u9.drew.heap[w.heap.size]? = _ from HS9.out)) (by simp)).trans HS9.out
    case hfu176n => exact rfl
    case hnu176n => exact rfl
    case h1u176n => simp [allOne, Value.oneCell']
    intro v2 hb2 h2
    refine regx_next hK (Keeps.row h2 rfl) ?_
    clear hK K
    try simp only [Act.put]
    refine regx_take 21 (some 5) (v := ?_) rfl rfl (by kernel_rfl) (by kernel_rfl) (by kernel_rfl) (fun _ _ _ h => h) (by rfl) ?_ ?_
    rotate_left
    · intro W hW; go_simp; first | done | with_reducible rfl
    try simp only [Act.put, List.setIfInBounds_toArray, List.set_cons_zero, List.set_cons_succ]
    refine wpAnyH_done (by kernel_rfl) ?_ _
    have HB2 := Lib.hid hb2
    have HV2 := Lib.hid (grown_new (HG9.out.trans (drewl hv1)) h2 (Nat.le_refl _))
    have HV1 := Lib.hid (drewl hv1)
    have HS1 := Lib.hid (keep_blk hv1 HS9.out)
    have H2 := Lib.hid h2
    clear hv1 hb2 h2
    go_wp2
    refine bodyPost_ret (results_c25t rfl _ _ _ _ (by rfl) (by rfl) HB2.out) (by rfl) ?_
    exact bodyDo_no HO.out HV2.out
end Go.Proofs.Ytpoifobhbmhelaa
