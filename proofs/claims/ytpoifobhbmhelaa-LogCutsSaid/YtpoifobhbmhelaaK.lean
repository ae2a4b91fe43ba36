import Derived.Test.YtpoifobhbmhelaaJ
set_option linter.unusedVariables false
set_option linter.unusedSimpArgs false
namespace Go.Proofs.Ytpoifobhbmhelaa
open Go.RowKit
theorem rowOf_n (a : Option Addr) (n n' c c' : Nat) : rowOf (.slice a n c) = rowOf (.slice a n' c') := by cases a <;> rfl
theorem nb {W : World} {B S : Nat} {o : Obj} (h : W.heap[B]? = some o) (hne : B ≠ S) : ¬ B = S := hne
theorem bodyDo_ok {w u v V : World} {o : Option Rc} {S : Nat} {a k n : Int} {m : Nat} {l : List UInt8} {x : Option Addr} {c : Nat} {cs : Array Value} (ho : o = some ⟨a, k, n, l⟩) (hm : m = l.length) (hQ : Gs eB u (.slice x m c) m (bsV l)) (hv : u.grownBy v none) (hS : v.heap[S]? = some (.cells cs 25 (0, 0))) (h2 : v.grownBy V (some S)) (hg : w.grownBy V none) (hr : ∀ g, rowOf (.slice x m c) = some g → w.heap.size ≤ g) :
    BodyDo w o (.returned (.tuple #[rV a k n x m c, .bool true])) V := by
  subst ho hm
  have q := hQ.keptNone hv
  exact ⟨x, c, rfl, q.kept h2 (fun g e1 e2 => by cases e2; exact q.ne hS (by decide) e1), hg, hr⟩
theorem bodyDo_no {w V : World} {o : Option Rc} {a k n : Int} {m c : Nat} {x : Option Addr} (ho : o = none) (hg : w.grownBy V none) : BodyDo w o (.returned (.tuple #[rV a k n x m c, .bool false])) V := by
  subst ho
  exact ⟨a, k, n, x, m, c, rfl, hg⟩
theorem gs_end {u V W : World} {v : Value} {m B : Nat} {l : List UInt8} {cs : Array Value} (hQ : Gs eB u v (0 + m) ([] ++ bsV l)) (hV : u.grownBy V none) (hB : V.heap[B]? = some (.cells cs 25 (0, 0))) (h9 : V.grownBy W (some B)) : Gs eB W v m (bsV l) := by
  have q : Gs eB u v m (bsV l) := by simpa using hQ
  have q2 := q.keptNone hV
  exact q2.kept h9 (fun g e1 e2 => by cases e2; exact q2.ne hB (by decide) e1)
theorem drew_both {a b : World} {row : Option Nat} (h : a.grownBy b row) : a.drew.grownBy b.drew row := ⟨h.os, h.tape, h.output, h.size, h.block⟩
theorem exec_ld25 {op : Oper} {ρ : Operand → Value} {W : World} {x : Operand} {b : Nat} {c0 c1 c2 c3 : Value} {fz : Nat × Nat} (ho : op.op = .load 25 x) (hx : ρ x = .pointer (some ⟨b, 0, none⟩)) (hb : W.heap[b]? = some (.cells ([c0, c1, c2, c3] : List Value).toArray 25 fz)) :
    (execOp ρ op).run Try.prog W = .ok (.value (.agg #[c0, c1, c2, c3])) W :=
  exec_ldm 25 ho b 0 hx [c0, c1, c2, c3] _ (fun j v hj => by rw [cells_all hb]; simpa using hj) Try.underlying25 rfl Try.size25
set_option maxRecDepth 100000 in
set_option maxHeartbeats 4000000 in
theorem rbody_okR (x : Option Addr) (cap : Nat) (l : List UInt8) (last : Int) (w : World) (hs : Go.Proofs.Ytpoifobhbmhelaa.Src w x l) (hcap : l.length ≤ cap) (hl : l.length ≤ 1000000) (h0 : 0 ≤ last) (h1 : last ≤ 4611686018427387904) (c : UInt8) (t : List UInt8) (hlt : l = c :: t) (h3 : ¬ l.length < 3) (y : Nat) (u : List UInt8) (ht : take t = .num y u) (hy : (y : Int) ≤ 4611686018427387904 - last) (n0 : Nat) (v0 : List UInt8) (hu : take u = .num n0 v0) (hn0 : n0 < 65536) (hR : Rt (last + y) c.toNat n0 v0.length) : Calls Try.prog 39 #[.slice x l.length cap, .int .i64 last] w fun e w' => BodyDo w (decB l last) e w' := by
  have HO := Lib.hid (show decB l last = some ⟨last + y, c.toNat, n0, v0⟩ from by rw [hlt]; exact decB_ok ht hu ⟨⟨hy, hn0⟩, .inl hR⟩)
  have HRT := Lib.hid hR
  have HB0 := Lib.hid (show ∀ b o, x = some ⟨b, o, none⟩ → b < w.heap.size from fun b o e => Go.Proofs.Ytpoifobhbmhelaa.Src.lt (e ▸ hs) (by rw [hlt]; simp))
  have HR0 := Lib.hid (heap_alloc_new w (.cells rz.toArray 25))
  have HG0 := Lib.hid (World.grownBy_alloc w (.cells rz.toArray 25) none)
  obtain ⟨n, hn⟩ : ∃ n, n = l.length := ⟨_, rfl⟩
  have hat : 1 ≤ l.length := by omega
  have ht' : take (l.drop 1) = .num y u := by rw [hlt]; exact ht
  have C1 := rtake_any x cap l 1 (w.alloc (.cells rz.toArray 25)) (hs.keptNone HG0.out) hat hl
  rw [ht'] at C1
  rw [← hn] at h3 ⊢ C1
  have h3' : ¬ (n : Int) < 3 := by omega
  have HYB := Lib.hid (take_inv ht).2
  have HDR := Lib.hid (take_drop hat ht')
  have hul : u.length < n := by have := take_lt ht; rw [hn, hlt]; simp; omega
  obtain ⟨A1, hA1⟩ : ∃ A1, A1 = n - u.length := ⟨_, rfl⟩
  have hA2 : A1 ≤ l.length := by omega
  have C2 := rtake_any x cap l A1 (w.alloc (.cells rz.toArray 25)) (hs.keptNone HG0.out) hA2 hl
  rw [show l.drop A1 = u from by rw [hA1, hn]; exact HDR.out, ← hn] at C2
  unfold tkRes at C1
  simp only at C1
  rw [← hA1] at C1
  have hp1 : ¬ (A1 : Int) ≤ 0 := by omega
  have hp2 : 0 < A1 := by omega
  have hp3 : ¬ A1 = 0 := by omega
  obtain ⟨D, hD⟩ : ∃ D : Int, D = 4611686018427387904 - last := ⟨_, rfl⟩
  have hsub : IntKind.i64.wrap (4611686018427387904 - last) = D := by rw [IntKind.wrap_i64]; omega
  have HDD := Lib.hid hD
  have HA1 := Lib.hid hA1
  have HN := Lib.hid hn
  have hyD : ¬ D < (y : Int) := by omega
  have HUV := Lib.hid (take_lt hu)
  have HDR2 := Lib.hid (show l.drop (n - v0.length) = v0 from by
    have := take_drop (l := l) (k := A1) (r := v0) (n := n0) hA2 (by rw [hA1, hn, HDR.out]; exact hu)
    rw [hn]; exact this)
  rw [hu] at C2
  unfold tkRes at C2
  simp only at C2
  have hvl : v0.length < n := by have := HUV.out; omega
  obtain ⟨A2, hA3⟩ : ∃ A2, A2 = n - v0.length := ⟨_, rfl⟩
  rw [← hA3] at C2 HDR2
  have hr1 : ¬ (A2 : Int) ≤ 0 := by omega
  have hr2 : 0 < A2 := by omega
  have hr3 : ¬ A2 = 0 := by omega
  have HA2 := Lib.hid hA3
  have HVL := Lib.hid hvl
  obtain ⟨m, hm⟩ : ∃ m, m = v0.length := ⟨_, rfl⟩
  obtain ⟨x3, c3, hsl, hc3, hs3⟩ := src_from hs hcap A2 (by omega)
  rw [HDR2.out] at hs3
  obtain ⟨b, o, hx, hcb⟩ := src_some hs (by rw [hlt]; simp)
  obtain ⟨d, hd⟩ : ∃ d : Nat, d = c.toNat := ⟨_, rfl⟩
  have hd256 : d < 256 := by rw [hd]; exact c.toNat_lt
  have hwd : IntKind.i64.wrap (d : Int) = (d : Int) := by rw [IntKind.wrap_i64]; omega
  have HKC := Lib.hid (show (w.alloc (.cells rz.toArray 25)).cell? ⟨b, o, none⟩ = some (.int .u8 (d : Int)) from by
    have := hcb 0 (by omega)
    rw [hd]
    refine keep_cell HG0.out (this.trans ?_)
    simp [hlt])
  have HSL := Lib.hid (show Value.slice x3 m c3 = sliced x A2 n cap 1 from by rw [hm, hn, hsl]; congr 1; omega)
  have HS3 := Lib.hid (hs3.keptNone HG0.out)
  have HM1 := Lib.hid (show m ≤ 1000000 from by rw [hm]; omega)
  have HA2N := Lib.hid (show A2 ≤ n from by omega)
  obtain ⟨A, hA⟩ : ∃ A : Int, A = last + y := ⟨_, rfl⟩
  have hadd : IntKind.i64.wrap (last + (y : Int)) = A := by rw [IntKind.wrap_i64]; omega
  have hnb : ¬ (65535 : Int) < (n0 : Nat) := by omega
  have hRt : decide (Rt A d n0 m) = true := decide_eq_true (by rw [hA, hd, hm]; exact hR)
  have HAA := Lib.hid hA
  have HD := Lib.hid hd
  have HM := Lib.hid hm
  have HONE := Lib.hid (bs_one v0)
  have HBK := Lib.hid (HB0.out b o hx)
  clear HB0
  have hnp : 0 < n := by omega
  subst hx
  clear hy hu hn0 hR
  clear hm hsl hc3 hs3 hcb hd hA
  clear hvl hA3
  clear hul hA1 hA2 hD hn h3 hat ht' hlt ht hs hcap hl h0 h1
  go_enter Try.func39, Try.ntmps39
  go_wp2_with fail
  refine C1.mono ?_; rintro e w2 ⟨rfl, rfl⟩
  clear C1
  go_wp2_with fail
  refine C2.mono ?_; rintro e w2 ⟨rfl, rfl⟩
  clear C2
  go_wp2
  refine regx_open (fun k => w.heap.size + 1 ≤ k) (n := 16) rfl (by kernel_rfl) ?_
  refine regx_take 0 (some 42) (v := ?_) rfl rfl (by kernel_rfl) (by kernel_rfl) (by kernel_rfl) (fun _ _ _ h => h) (by rfl) ?_ ?_
  rotate_left
  · intro W hW; go_simp; first | done | with_reducible rfl
  try simp only [Act.put, List.setIfInBounds_toArray, List.set_cons_zero, List.set_cons_succ]
  refine regx_take 1 (some 43) (v := ?_) rfl rfl (by kernel_rfl) (by kernel_rfl) (by kernel_rfl) (fun _ _ _ h => h) (by rfl) ?_ ?_
  rotate_left
  · intro W hW; go_simp; first | done | with_reducible rfl
  try simp only [Act.put, List.setIfInBounds_toArray, List.set_cons_zero, List.set_cons_succ]
  refine regx_take 2 (some 44) (v := ?_) rfl rfl (by kernel_rfl) (by kernel_rfl) (by kernel_rfl) (fun _ _ _ h => h) (by rfl) ?_ ?_
  rotate_left
  · intro W hW; go_simp; first | done | with_reducible rfl
  try simp only [Act.put, List.setIfInBounds_toArray, List.set_cons_zero, List.set_cons_succ]
  refine regx_take 3 (some 45) (v := ?_) rfl rfl (by kernel_rfl) (by kernel_rfl) (by kernel_rfl) (fun _ _ _ h => h) (by rfl) ?_ ?_
  rotate_left
  · intro W hW; go_simp; first | done | with_reducible rfl
  try simp only [Act.put, List.setIfInBounds_toArray, List.set_cons_zero, List.set_cons_succ]
  refine regx_take 4 (some 46) (v := ?_) rfl rfl (by kernel_rfl) (by kernel_rfl) (by kernel_rfl) (fun _ _ _ h => h) (by rfl) ?_ ?_
  rotate_left
  · intro W hW; go_simp; first | done | with_reducible rfl
  try simp only [Act.put, List.setIfInBounds_toArray, List.set_cons_zero, List.set_cons_succ]
  refine regx_take 5 (some 47) (v := ?_) rfl rfl (by kernel_rfl) (by kernel_rfl) (by kernel_rfl) (fun _ _ _ h => h) (by rfl) ?_ ?_
  rotate_left
  · intro W hW; have k := keeps_cell hW (show (w.alloc (.cells rz.toArray 25)).drew.cell? ⟨b, o, none⟩ = some (.int .u8 (d : Int)) from HKC.out) (by have := HBK.out; simp; omega); go_simp; first | done | with_reducible rfl
  try simp only [Act.put, List.setIfInBounds_toArray, List.set_cons_zero, List.set_cons_succ]
  refine regx_take 6 (some 48) (v := ?_) rfl rfl (by kernel_rfl) (by kernel_rfl) (by kernel_rfl) (fun _ _ _ h => h) (by rfl) ?_ ?_
  rotate_left
  · intro W hW; go_simp; first | done | with_reducible rfl
  try simp only [Act.put, List.setIfInBounds_toArray, List.set_cons_zero, List.set_cons_succ]
  refine regx_take 7 (some 49) (v := ?_) rfl rfl (by kernel_rfl) (by kernel_rfl) (by kernel_rfl) (fun _ _ _ h => h) (by rfl) ?_ ?_
  rotate_left
  · intro W hW; go_simp; first | done | with_reducible rfl
  try simp only [Act.put, List.setIfInBounds_toArray, List.set_cons_zero, List.set_cons_succ]
  refine regx_take 9 (some 51) (v := ?_) rfl rfl (by kernel_rfl) (by kernel_rfl) (by kernel_rfl) (fun _ _ _ h => h) (by rfl) ?_ ?_
  rotate_left
  · intro W hW; go_simp; first | done | with_reducible rfl
  try simp only [Act.put, List.setIfInBounds_toArray, List.set_cons_zero, List.set_cons_succ]
  refine regx_take 10 (some 52) (v := ?_) rfl rfl (by kernel_rfl) (by kernel_rfl) (by kernel_rfl) (fun _ _ _ h => h) (by rfl) ?_ ?_
  rotate_left
  · intro W hW; go_simp; first | done | with_reducible rfl
  try simp only [Act.put, List.setIfInBounds_toArray, List.set_cons_zero, List.set_cons_succ]
  refine regx_take 11 (some 53) (v := ?_) rfl rfl (by kernel_rfl) (by kernel_rfl) (by kernel_rfl) (fun _ _ _ h => h) (by rfl) ?_ ?_
  rotate_left
  · intro W hW; refine exec_sl eB elemB (x := .tmp 51) (y := .tmp 52) ?_ (some ⟨b, o, none⟩) n cap A2 ?_ ?_ HA2N.out _ (.slice x3 m c3) HSL.out <;> rfl
  try simp only [Act.put, List.setIfInBounds_toArray, List.set_cons_zero, List.set_cons_succ]
  refine wpAnyH_ready (rs := [8, 14]) (by kernel_rfl) (by simp) ?_
  refine (AllReadyH.cons (o := { dst := some 50, op := Op.buildSlice 23 0 #[], type := 23, pos := "ref.go:127", after := #[], guard := none }) rfl (fun K hK => ?_) (AllReadyH.cons (o := { dst := some 10, op := Op.alloc 25, type := 0, pos := "ref.go:127", after := #[], guard := none }) rfl (fun K hK => ?_) AllReadyH.nil))
  · go_simp
    have hn5 := Gs.empty (w.alloc (.cells rz.toArray 25)).drew; simp at hn5; have hm5 := World.grownBy_alloc (w.alloc (.cells rz.toArray 25)).drew (.cells #[] 5) none; have hz5 := heap_alloc_new (w.alloc (.cells rz.toArray 25)).drew (.cells #[] 5); have hx5 : w.heap.size + 1 ≤ (w.alloc (.cells rz.toArray 25)).drew.heap.size := (by simp)
    refine regx_next hK (Keeps.keep hm5) ?_
    clear hK K
    try simp only [Act.put, List.setIfInBounds_toArray, List.set_cons_zero, List.set_cons_succ]
    refine wpAnyH_ready (rs := [12, 14]) (by kernel_rfl) (by simp) ?_
    refine (AllReadyH.cons (o := { dst := some 54, op := Op.call { callee := Callee.builtin Builtin.append, args := #[Operand.tmp 50, Operand.tmp 53], argTypes := #[23, 23] }, type := 23, pos := "ref.go:127", after := #[{ on := 8, ground := Ground.data }, { on := 11, ground := Ground.data }], guard := none }) rfl (fun K hK => ?_) (AllReadyH.cons (o := { dst := some 10, op := Op.alloc 25, type := 0, pos := "ref.go:127", after := #[], guard := none }) rfl (fun K hK => ?_) AllReadyH.nil))
    · first | refine wp_gs eB 23 (.tmp 50) (.tmp 53) rfl (.slice (some ⟨w.heap.size + 1, 0, none⟩) 0 0) _ 0 m [] (bsV v0) (by rfl) (by rfl) ?ggu12 (src_gon (c := c3) HM.out ?gsu12) HONE.out (by have := HM1.out; omega) ?_ | refine wp_gs eB 23 (.tmp 50) (.tmp 53) rfl (.slice (some ⟨w.heap.size + 1 + 1, 0, none⟩) 0 0) _ 0 m [] (bsV v0) (by rfl) (by rfl) ?ggu12 (src_gon (c := c3) HM.out ?gsu12) HONE.out (by have := HM1.out; omega) ?_
      case ggu12 => first | exact hn5 | exact hn5.keptNone ⟨rfl, rfl, rfl, by simp, fun k hk _ => heap_alloc_old _ _ (by simpa using hk)⟩
      case gsu12 => exact HS3.out.keptNone (drewl (Keeps.toGrown (X := fun k => w.heap.size + 1 ≤ k) (Keeps.keep hm5) (by intro i hi; simp at hi ⊢; omega)))
      intro v4 u4 hQ4 hg4 hr4
      obtain ⟨a4, c4, hv4, _⟩ := hQ4.shape
      rw [Nat.zero_add] at hv4
      subst hv4
      first | have hk54 : World.grownBy _ u4 (some (w.heap.size + 1)) := hg4 | have hk54 : World.grownBy _ u4 (some (w.heap.size + 1 + 1)) := hg4
      refine regx_next hK (Keeps.of hk54 (fun r e => by cases e; first | exact hx5 | (simp <;> omega))) ?_
      clear hK K
      try simp only [Act.put, List.setIfInBounds_toArray, List.set_cons_zero, List.set_cons_succ]
      refine regx_take 13 (some 55) (v := ?_) rfl rfl (by kernel_rfl) (by kernel_rfl) (by kernel_rfl) (fun _ _ _ h => h) (by rfl) ?_ ?_
      rotate_left
      · intro W hW; go_simp; first | done | with_reducible rfl
      try simp only [Act.put, List.setIfInBounds_toArray, List.set_cons_zero, List.set_cons_succ]
      refine wpAnyH_ready (rs := [14]) (by kernel_rfl) (by simp) ?_
      refine (AllReadyH.cons (o := { dst := some 10, op := Op.alloc 25, type := 0, pos := "ref.go:127", after := #[], guard := none }) rfl (fun K hK => ?_) AllReadyH.nil)
      go_simp
      have hn := heap_alloc_new u4 (.cells rz.toArray 25); have hm := World.grownBy_alloc u4 (.cells rz.toArray 25) none; have hx10 : w.heap.size + 1 ≤ u4.heap.size := (by first | simp | (have := hk54.size; simp at this; omega))
      refine regx_next hK (Keeps.keep hm) ?_
      clear hK K
      try simp only [Act.put, List.setIfInBounds_toArray, List.set_cons_zero, List.set_cons_succ]
      refine wpAnyH_ready (rs := [15]) (by kernel_rfl) (by simp) ?_
      refine (AllReadyH.cons (o := { dst := none, op := Op.store 25 (Operand.tmp 10) (Operand.tmp 55), type := 0, pos := "ref.go:127", after := #[{ on := 14, ground := Ground.data }, { on := 13, ground := Ground.data }, { on := 12, ground := Ground.chain }, { on := 0, ground := Ground.phase }, { on := 1, ground := Ground.phase }, { on := 2, ground := Ground.phase }, { on := 3, ground := Ground.phase }, { on := 4, ground := Ground.phase }, { on := 5, ground := Ground.phase }, { on := 6, ground := Ground.phase }, { on := 7, ground := Ground.phase }, { on := 8, ground := Ground.phase }, { on := 9, ground := Ground.phase }, { on := 10, ground := Ground.phase }, { on := 11, ground := Ground.phase }, { on := 12, ground := Ground.phase }, { on := 13, ground := Ground.phase }, { on := 14, ground := Ground.phase }], guard := none }) rfl (fun K hK => ?_) AllReadyH.nil)
      first | have hz9 : (u4.alloc (.cells rz.toArray 25)).heap[u4.heap.size]? = some (.cells rz.toArray 25 (0, 0)) := hn | have hz9 : u4.heap[w.heap.size + 1 + 1]? = some (.cells rz.toArray 25 (0, 0)) := (by have hz7 := hn; rw [show ((w.alloc (.cells rz.toArray 25)).drew.alloc (.cells #[] 5)).heap.size = w.heap.size + 1 + 1 from (World.size_alloc _ _).trans (congrArg (· + 1) (World.size_alloc w _))] at hz7; exact (hk54.block _ (by simp) (by simp)).trans hz7) | have hz9 : u4.heap[w.heap.size + 1]? = some (.cells rz.toArray 25 (0, 0)) := (by have hz7 := keep_blk hm5 hn; rw [show (w.alloc (.cells rz.toArray 25)).drew.heap.size = w.heap.size + 1 from World.size_alloc w _] at hz7; exact (hk54.block _ (by simp) (by simp)).trans hz7)
      refine wp_store_all 25 _ _ rfl ?bu16 ?csu16 ?hxu16 ?hyu16 rz 25 ?hzu16 ?hfu16 4 ?hnu16 Try.size25 ?h1u16 ?_
      case hyu16 => exact rfl
      case hxu16 => exact rfl
      case hzu16 => exact hz9
      case hfu16 => exact rfl
      case hnu16 => exact rfl
      case h1u16 => simp [allOne, Value.oneCell']
      intro u9 hb9 h9
      refine regx_next hK (Keeps.row h9 (by first | exact hx10 | (simp <;> omega))) ?_
      clear hK K
      try simp only [Act.put]
      refine wpAnyH_done (by kernel_rfl) ?_ _
      have hk9 : Keeps (fun k => w.heap.size + 1 ≤ k) (w.alloc (.cells rz.toArray 25)).drew u9 := ((Keeps.keep hm5).trans ((Keeps.of hk54 (fun r e => by cases e; first | exact hx5 | (simp <;> omega))).trans ((Keeps.keep hm).trans (Keeps.row h9 (by first | exact hx10 | (simp <;> omega))))))
      have HQ9 := Lib.hid (gs_end hQ4 (by first | exact World.grownBy.refl _ _ | exact World.grownBy_alloc _ _ _) hz9 h9)
      have HR9 := Lib.hid (show ∀ k, rowOf (.slice a4 m c4) = some k → w.heap.size ≤ k from fun k hk => by rcases hr4 with h | h <;> (rw [h] at hk; cases hk; simp <;> omega))
      have HB9 := Lib.hid hb9
      have HBN := Lib.hid (nb (S := w.heap.size) hb9 (by first | (simp <;> omega) | (have := hx10; omega)))
      have HS9 := Lib.hid ((hk9.block w.heap.size (by simp) (by simp)).trans HR0.out)
      have HG9 := Lib.hid (HG0.out.trans (drewl (hk9.toGrown (by intro i hi; simp at hi ⊢; omega))))
      have HKC9 := Lib.hid (keeps_cell hk9 (show (w.alloc (.cells rz.toArray 25)).drew.cell? ⟨b, o, none⟩ = some (.int .u8 (d : Int)) from HKC.out) (by have := HBK.out; simp; omega))
      clear hk9 hQ4 hr4 hb9 h9 hk54 hg4 hz9 hn hm hn5 hm5 hz5 hx5 hx10
      go_wp2
      refine regx_open (fun k => k = w.heap.size) (n := 22) rfl (by kernel_rfl) ?_
      refine regx_take 0 (some 56) (v := ?_) rfl rfl (by kernel_rfl) (by kernel_rfl) (by kernel_rfl) (fun _ _ _ h => h) (by rfl) ?_ ?_
      rotate_left
      · intro W hW; refine exec_ld25 (x := .tmp 10) ?_ ?_ (((hW).block _ (lt_of_block HB9.out) HBN.out).trans HB9.out) <;> rfl
      try simp only [Act.put, List.setIfInBounds_toArray, List.set_cons_zero, List.set_cons_succ]
      refine regx_take 1 (some 57) (v := ?_) rfl rfl (by kernel_rfl) (by kernel_rfl) (by kernel_rfl) (fun _ _ _ h => h) (by rfl) ?_ ?_
      rotate_left
      · intro W hW; refine exec_ld25 (x := .tmp 10) ?_ ?_ (((hW).block _ (lt_of_block HB9.out) HBN.out).trans HB9.out) <;> rfl
      try simp only [Act.put, List.setIfInBounds_toArray, List.set_cons_zero, List.set_cons_succ]
      refine wpAnyH_ready (rs := [2]) (by kernel_rfl) (by simp) ?_
      refine (AllReadyH.cons (o := { dst := some 58, op := Op.call { callee := Callee.value (Operand.func 12), args := #[Operand.tmp 57], argTypes := #[25] }, type := 4, pos := "ref.go:128", after := #[{ on := 1, ground := Ground.data }], guard := none }) rfl (fun K hK => ?_) AllReadyH.nil)
      go_simp
      refine (rright_any A d n0 a4 m c4 _).mono ?_; rintro e v1 ⟨rfl, hv1⟩
      simp only [hRt]
      refine regx_next hK (Keeps.keep hv1) ?_
      clear hK K
      try simp only [Act.put, List.setIfInBounds_toArray, List.set_cons_zero, List.set_cons_succ]
      refine regx_take 3 (some 59) (v := ?_) rfl rfl (by kernel_rfl) (by kernel_rfl) (by kernel_rfl) (fun _ _ _ h => h) (by rfl) ?_ ?_
      rotate_left
      · intro W hW; go_simp; first | done | with_reducible rfl
      try simp only [Act.put, List.setIfInBounds_toArray, List.set_cons_zero, List.set_cons_succ]
      refine regx_skip 4 (some 60) rfl rfl (by kernel_rfl) (by kernel_rfl) (by kernel_rfl) (fun _ _ _ h => h) (by rfl) ?_
      try simp only [Act.put, List.setIfInBounds_toArray, List.set_cons_zero, List.set_cons_succ]
      refine regx_skip 5 (some 61) rfl rfl (by kernel_rfl) (by kernel_rfl) (by kernel_rfl) (fun _ _ _ h => h) (by rfl) ?_
      try simp only [Act.put, List.setIfInBounds_toArray, List.set_cons_zero, List.set_cons_succ]
      refine regx_skip 6 (some 62) rfl rfl (by kernel_rfl) (by kernel_rfl) (by kernel_rfl) (fun _ _ _ h => h) (by rfl) ?_
      try simp only [Act.put, List.setIfInBounds_toArray, List.set_cons_zero, List.set_cons_succ]
      refine regx_skip 7 (some 63) rfl rfl (by kernel_rfl) (by kernel_rfl) (by kernel_rfl) (fun _ _ _ h => h) (by rfl) ?_
      try simp only [Act.put, List.setIfInBounds_toArray, List.set_cons_zero, List.set_cons_succ]
      refine regx_skip 8 (some 64) rfl rfl (by kernel_rfl) (by kernel_rfl) (by kernel_rfl) (fun _ _ _ h => h) (by rfl) ?_
      try simp only [Act.put, List.setIfInBounds_toArray, List.set_cons_zero, List.set_cons_succ]
      refine regx_skip 9 (some 65) rfl rfl (by kernel_rfl) (by kernel_rfl) (by kernel_rfl) (fun _ _ _ h => h) (by rfl) ?_
      try simp only [Act.put, List.setIfInBounds_toArray, List.set_cons_zero, List.set_cons_succ]
      refine regx_skip 10 (some 66) rfl rfl (by kernel_rfl) (by kernel_rfl) (by kernel_rfl) (fun _ _ _ h => h) (by rfl) ?_
      try simp only [Act.put, List.setIfInBounds_toArray, List.set_cons_zero, List.set_cons_succ]
      refine regx_skip 11 (some 67) rfl rfl (by kernel_rfl) (by kernel_rfl) (by kernel_rfl) (fun _ _ _ h => h) (by rfl) ?_
      try simp only [Act.put, List.setIfInBounds_toArray, List.set_cons_zero, List.set_cons_succ]
      refine regx_skip 12 (some 68) rfl rfl (by kernel_rfl) (by kernel_rfl) (by kernel_rfl) (fun _ _ _ h => h) (by rfl) ?_
      try simp only [Act.put, List.setIfInBounds_toArray, List.set_cons_zero, List.set_cons_succ]
      refine regx_skip 13 (some 69) rfl rfl (by kernel_rfl) (by kernel_rfl) (by kernel_rfl) (fun _ _ _ h => h) (by rfl) ?_
      try simp only [Act.put, List.setIfInBounds_toArray, List.set_cons_zero, List.set_cons_succ]
      refine regx_skip 14 (some 70) rfl rfl (by kernel_rfl) (by kernel_rfl) (by kernel_rfl) (fun _ _ _ h => h) (by rfl) ?_
      try simp only [Act.put, List.setIfInBounds_toArray, List.set_cons_zero, List.set_cons_succ]
      refine regx_skip 15 (some 71) rfl rfl (by kernel_rfl) (by kernel_rfl) (by kernel_rfl) (fun _ _ _ h => h) (by rfl) ?_
      try simp only [Act.put, List.setIfInBounds_toArray, List.set_cons_zero, List.set_cons_succ]
      refine regx_skip 16 (some 72) rfl rfl (by kernel_rfl) (by kernel_rfl) (by kernel_rfl) (fun _ _ _ h => h) (by rfl) ?_
      try simp only [Act.put, List.setIfInBounds_toArray, List.set_cons_zero, List.set_cons_succ]
      refine regx_skip 17 (some 73) rfl rfl (by kernel_rfl) (by kernel_rfl) (by kernel_rfl) (fun _ _ _ h => h) (by rfl) ?_
      try simp only [Act.put, List.setIfInBounds_toArray, List.set_cons_zero, List.set_cons_succ]
      refine regx_skip 18 (some 74) rfl rfl (by kernel_rfl) (by kernel_rfl) (by kernel_rfl) (fun _ _ _ h => h) (by rfl) ?_
      try simp only [Act.put, List.setIfInBounds_toArray, List.set_cons_zero, List.set_cons_succ]
      refine regx_take 19 (some 75) (v := ?_) rfl rfl (by kernel_rfl) (by kernel_rfl) (by kernel_rfl) (fun _ _ _ h => h) (by rfl) ?_ ?_
      rotate_left
      · intro W hW; go_simp; first | done | with_reducible rfl
      try simp only [Act.put, List.setIfInBounds_toArray, List.set_cons_zero, List.set_cons_succ]
      refine wpAnyH_ready (rs := [20]) (by kernel_rfl) (by simp) ?_
      refine (AllReadyH.cons (o := { dst := none, op := Op.store 25 (Operand.tmp 4) (Operand.tmp 56), type := 0, pos := "ref.go:128", after := #[{ on := 0, ground := Ground.data }, { on := 13, ground := Ground.chain }, { on := 0, ground := Ground.phase }, { on := 1, ground := Ground.textOnly Departure.lateStores }, { on := 2, ground := Ground.textOnly Departure.lateStoresUnsure }, { on := 3, ground := Ground.textOnly Departure.lateStores }, { on := 4, ground := Ground.textOnly Departure.lateStores }, { on := 5, ground := Ground.textOnly Departure.lateStores }, { on := 6, ground := Ground.textOnly Departure.lateStores }, { on := 7, ground := Ground.textOnly Departure.lateStores }, { on := 8, ground := Ground.textOnly Departure.lateStores }, { on := 9, ground := Ground.textOnly Departure.lateStores }, { on := 10, ground := Ground.textOnly Departure.lateStores }, { on := 11, ground := Ground.textOnly Departure.lateStores }, { on := 12, ground := Ground.textOnly Departure.lateStores }, { on := 13, ground := Ground.textOnly Departure.lateStores }, { on := 14, ground := Ground.textOnly Departure.lateStores }, { on := 15, ground := Ground.textOnly Departure.lateStores }, { on := 16, ground := Ground.textOnly Departure.lateStoresUnsure }, { on := 17, ground := Ground.textOnly Departure.lateStores }, { on := 18, ground := Ground.textOnly Departure.lateStores }, { on := 19, ground := Ground.textOnly Departure.lateStores }], guard := none }) rfl (fun K hK => ?_) AllReadyH.nil)
      refine wp_store_all 25 _ _ rfl w.heap.size ?csu18n ?hxu18n ?hyu18n rz 25 ?hzu18n ?hfu18n 4 ?hnu18n Try.size25 ?h1u18n ?_
      case hyu18n => exact rfl
      case hxu18n => exact rfl
      case hzu18n => exact (hv1.block _ (lt_of_block (show u9.drew.heap[w.heap.size]? = _ from HS9.out)) (by simp)).trans HS9.out
      case hfu18n => exact rfl
      case hnu18n => exact rfl
      case h1u18n => simp [allOne, Value.oneCell']
      intro v2 hb2 h2
      refine regx_next hK (Keeps.row h2 rfl) ?_
      clear hK K
      try simp only [Act.put]
      refine regx_take 21 (some 5) (v := ?_) rfl rfl (by kernel_rfl) (by kernel_rfl) (by kernel_rfl) (fun _ _ _ h => h) (by rfl) ?_ ?_
      rotate_left
      · intro W hW; go_simp; first | done | with_reducible rfl
      try simp only [Act.put, List.setIfInBounds_toArray, List.set_cons_zero, List.set_cons_succ]
      refine wpAnyH_done (by kernel_rfl) ?_ _
      have HB2 := Lib.hid hb2
      have HV2 := Lib.hid (grown_new (HG9.out.trans (drewl hv1)) h2 (Nat.le_refl _))
      have HV1 := Lib.hid (drewl hv1)
      have HS1 := Lib.hid (keep_blk hv1 HS9.out)
      have H2 := Lib.hid h2
      clear hv1 hb2 h2
      go_wp2
      refine bodyPost_ret (results_c25t rfl _ _ _ _ (by rfl) (by rfl) HB2.out) (by rfl) ?_
      exact bodyDo_ok (HAA.out ▸ HD.out ▸ HO.out) HM.out HQ9.out HV1.out HS1.out H2.out HV2.out HR9.out
    · go_simp
      have hn := heap_alloc_new ((w.alloc (.cells rz.toArray 25)).drew.alloc (.cells #[] 5)) (.cells rz.toArray 25); have hm := World.grownBy_alloc ((w.alloc (.cells rz.toArray 25)).drew.alloc (.cells #[] 5)) (.cells rz.toArray 25) none; have hx10 : w.heap.size + 1 ≤ ((w.alloc (.cells rz.toArray 25)).drew.alloc (.cells #[] 5)).heap.size := (by first | simp | (have := hk54.size; simp at this; omega))
      refine regx_next hK (Keeps.keep hm) ?_
      clear hK K
      try simp only [Act.put, List.setIfInBounds_toArray, List.set_cons_zero, List.set_cons_succ]
      refine wpAnyH_ready (rs := [12]) (by kernel_rfl) (by simp) ?_
      refine (AllReadyH.cons (o := { dst := some 54, op := Op.call { callee := Callee.builtin Builtin.append, args := #[Operand.tmp 50, Operand.tmp 53], argTypes := #[23, 23] }, type := 23, pos := "ref.go:127", after := #[{ on := 8, ground := Ground.data }, { on := 11, ground := Ground.data }], guard := none }) rfl (fun K hK => ?_) AllReadyH.nil)
      first | refine wp_gs eB 23 (.tmp 50) (.tmp 53) rfl (.slice (some ⟨w.heap.size + 1, 0, none⟩) 0 0) _ 0 m [] (bsV v0) (by rfl) (by rfl) ?ggu21 (src_gon (c := c3) HM.out ?gsu21) HONE.out (by have := HM1.out; omega) ?_ | refine wp_gs eB 23 (.tmp 50) (.tmp 53) rfl (.slice (some ⟨w.heap.size + 1 + 1, 0, none⟩) 0 0) _ 0 m [] (bsV v0) (by rfl) (by rfl) ?ggu21 (src_gon (c := c3) HM.out ?gsu21) HONE.out (by have := HM1.out; omega) ?_
      case ggu21 => first | exact hn5 | exact hn5.keptNone ⟨rfl, rfl, rfl, by simp, fun k hk _ => heap_alloc_old _ _ (by simpa using hk)⟩
      case gsu21 => exact HS3.out.keptNone (drewl (Keeps.toGrown (X := fun k => w.heap.size + 1 ≤ k) ((Keeps.keep hm5).trans (Keeps.keep hm)) (by intro i hi; simp at hi ⊢; omega)))
      intro v4 u4 hQ4 hg4 hr4
      obtain ⟨a4, c4, hv4, _⟩ := hQ4.shape
      rw [Nat.zero_add] at hv4
      subst hv4
      first | have hk54 : World.grownBy _ u4 (some (w.heap.size + 1)) := hg4 | have hk54 : World.grownBy _ u4 (some (w.heap.size + 1 + 1)) := hg4
      refine regx_next hK (Keeps.of hk54 (fun r e => by cases e; first | exact hx5 | (simp <;> omega))) ?_
      clear hK K
      try simp only [Act.put, List.setIfInBounds_toArray, List.set_cons_zero, List.set_cons_succ]
      refine regx_take 13 (some 55) (v := ?_) rfl rfl (by kernel_rfl) (by kernel_rfl) (by kernel_rfl) (fun _ _ _ h => h) (by rfl) ?_ ?_
      rotate_left
      · intro W hW; go_simp; first | done | with_reducible rfl
      try simp only [Act.put, List.setIfInBounds_toArray, List.set_cons_zero, List.set_cons_succ]
      refine wpAnyH_ready (rs := [15]) (by kernel_rfl) (by simp) ?_
      refine (AllReadyH.cons (o := { dst := none, op := Op.store 25 (Operand.tmp 10) (Operand.tmp 55), type := 0, pos := "ref.go:127", after := #[{ on := 14, ground := Ground.data }, { on := 13, ground := Ground.data }, { on := 12, ground := Ground.chain }, { on := 0, ground := Ground.phase }, { on := 1, ground := Ground.phase }, { on := 2, ground := Ground.phase }, { on := 3, ground := Ground.phase }, { on := 4, ground := Ground.phase }, { on := 5, ground := Ground.phase }, { on := 6, ground := Ground.phase }, { on := 7, ground := Ground.phase }, { on := 8, ground := Ground.phase }, { on := 9, ground := Ground.phase }, { on := 10, ground := Ground.phase }, { on := 11, ground := Ground.phase }, { on := 12, ground := Ground.phase }, { on := 13, ground := Ground.phase }, { on := 14, ground := Ground.phase }], guard := none }) rfl (fun K hK => ?_) AllReadyH.nil)
      first | have hz9 : (u4.alloc (.cells rz.toArray 25)).heap[u4.heap.size]? = some (.cells rz.toArray 25 (0, 0)) := hn | have hz9 : u4.heap[w.heap.size + 1 + 1]? = some (.cells rz.toArray 25 (0, 0)) := (by have hz7 := hn; rw [show ((w.alloc (.cells rz.toArray 25)).drew.alloc (.cells #[] 5)).heap.size = w.heap.size + 1 + 1 from (World.size_alloc _ _).trans (congrArg (· + 1) (World.size_alloc w _))] at hz7; exact (hk54.block _ (by simp) (by simp)).trans hz7) | have hz9 : u4.heap[w.heap.size + 1]? = some (.cells rz.toArray 25 (0, 0)) := (by have hz7 := keep_blk hm5 hn; rw [show (w.alloc (.cells rz.toArray 25)).drew.heap.size = w.heap.size + 1 from World.size_alloc w _] at hz7; exact (hk54.block _ (by simp) (by simp)).trans hz7)
      refine wp_store_all 25 _ _ rfl ?bu23 ?csu23 ?hxu23 ?hyu23 rz 25 ?hzu23 ?hfu23 4 ?hnu23 Try.size25 ?h1u23 ?_
      case hyu23 => exact rfl
      case hxu23 => exact rfl
      case hzu23 => exact hz9
      case hfu23 => exact rfl
      case hnu23 => exact rfl
      case h1u23 => simp [allOne, Value.oneCell']
      intro u9 hb9 h9
      refine regx_next hK (Keeps.row h9 (by first | exact hx10 | (simp <;> omega))) ?_
      clear hK K
      try simp only [Act.put]
      refine wpAnyH_done (by kernel_rfl) ?_ _
      have hk9 : Keeps (fun k => w.heap.size + 1 ≤ k) (w.alloc (.cells rz.toArray 25)).drew u9 := ((Keeps.keep hm5).trans ((Keeps.keep hm).trans ((Keeps.of hk54 (fun r e => by cases e; first | exact hx5 | (simp <;> omega))).trans (Keeps.row h9 (by first | exact hx10 | (simp <;> omega))))))
      have HQ9 := Lib.hid (gs_end hQ4 (by first | exact World.grownBy.refl _ _ | exact World.grownBy_alloc _ _ _) hz9 h9)
      have HR9 := Lib.hid (show ∀ k, rowOf (.slice a4 m c4) = some k → w.heap.size ≤ k from fun k hk => by rcases hr4 with h | h <;> (rw [h] at hk; cases hk; simp <;> omega))
      have HB9 := Lib.hid hb9
      have HBN := Lib.hid (nb (S := w.heap.size) hb9 (by first | (simp <;> omega) | (have := hx10; omega)))
      have HS9 := Lib.hid ((hk9.block w.heap.size (by simp) (by simp)).trans HR0.out)
      have HG9 := Lib.hid (HG0.out.trans (drewl (hk9.toGrown (by intro i hi; simp at hi ⊢; omega))))
      have HKC9 := Lib.hid (keeps_cell hk9 (show (w.alloc (.cells rz.toArray 25)).drew.cell? ⟨b, o, none⟩ = some (.int .u8 (d : Int)) from HKC.out) (by have := HBK.out; simp; omega))
      clear hk9 hQ4 hr4 hb9 h9 hk54 hg4 hz9 hn hm hn5 hm5 hz5 hx5 hx10
      go_wp2
      refine regx_open (fun k => k = w.heap.size) (n := 22) rfl (by kernel_rfl) ?_
      refine regx_take 0 (some 56) (v := ?_) rfl rfl (by kernel_rfl) (by kernel_rfl) (by kernel_rfl) (fun _ _ _ h => h) (by rfl) ?_ ?_
      rotate_left
      · intro W hW; refine exec_ld25 (x := .tmp 10) ?_ ?_ (((hW).block _ (lt_of_block HB9.out) HBN.out).trans HB9.out) <;> rfl
      try simp only [Act.put, List.setIfInBounds_toArray, List.set_cons_zero, List.set_cons_succ]
      refine regx_take 1 (some 57) (v := ?_) rfl rfl (by kernel_rfl) (by kernel_rfl) (by kernel_rfl) (fun _ _ _ h => h) (by rfl) ?_ ?_
      rotate_left
      · intro W hW; refine exec_ld25 (x := .tmp 10) ?_ ?_ (((hW).block _ (lt_of_block HB9.out) HBN.out).trans HB9.out) <;> rfl
      try simp only [Act.put, List.setIfInBounds_toArray, List.set_cons_zero, List.set_cons_succ]
      refine wpAnyH_ready (rs := [2]) (by kernel_rfl) (by simp) ?_
      refine (AllReadyH.cons (o := { dst := some 58, op := Op.call { callee := Callee.value (Operand.func 12), args := #[Operand.tmp 57], argTypes := #[25] }, type := 4, pos := "ref.go:128", after := #[{ on := 1, ground := Ground.data }], guard := none }) rfl (fun K hK => ?_) AllReadyH.nil)
      go_simp
      refine (rright_any A d n0 a4 m c4 _).mono ?_; rintro e v1 ⟨rfl, hv1⟩
      simp only [hRt]
      refine regx_next hK (Keeps.keep hv1) ?_
      clear hK K
      try simp only [Act.put, List.setIfInBounds_toArray, List.set_cons_zero, List.set_cons_succ]
      refine regx_take 3 (some 59) (v := ?_) rfl rfl (by kernel_rfl) (by kernel_rfl) (by kernel_rfl) (fun _ _ _ h => h) (by rfl) ?_ ?_
      rotate_left
      · intro W hW; go_simp; first | done | with_reducible rfl
      try simp only [Act.put, List.setIfInBounds_toArray, List.set_cons_zero, List.set_cons_succ]
      refine regx_skip 4 (some 60) rfl rfl (by kernel_rfl) (by kernel_rfl) (by kernel_rfl) (fun _ _ _ h => h) (by rfl) ?_
      try simp only [Act.put, List.setIfInBounds_toArray, List.set_cons_zero, List.set_cons_succ]
      refine regx_skip 5 (some 61) rfl rfl (by kernel_rfl) (by kernel_rfl) (by kernel_rfl) (fun _ _ _ h => h) (by rfl) ?_
      try simp only [Act.put, List.setIfInBounds_toArray, List.set_cons_zero, List.set_cons_succ]
      refine regx_skip 6 (some 62) rfl rfl (by kernel_rfl) (by kernel_rfl) (by kernel_rfl) (fun _ _ _ h => h) (by rfl) ?_
      try simp only [Act.put, List.setIfInBounds_toArray, List.set_cons_zero, List.set_cons_succ]
      refine regx_skip 7 (some 63) rfl rfl (by kernel_rfl) (by kernel_rfl) (by kernel_rfl) (fun _ _ _ h => h) (by rfl) ?_
      try simp only [Act.put, List.setIfInBounds_toArray, List.set_cons_zero, List.set_cons_succ]
      refine regx_skip 8 (some 64) rfl rfl (by kernel_rfl) (by kernel_rfl) (by kernel_rfl) (fun _ _ _ h => h) (by rfl) ?_
      try simp only [Act.put, List.setIfInBounds_toArray, List.set_cons_zero, List.set_cons_succ]
      refine regx_skip 9 (some 65) rfl rfl (by kernel_rfl) (by kernel_rfl) (by kernel_rfl) (fun _ _ _ h => h) (by rfl) ?_
      try simp only [Act.put, List.setIfInBounds_toArray, List.set_cons_zero, List.set_cons_succ]
      refine regx_skip 10 (some 66) rfl rfl (by kernel_rfl) (by kernel_rfl) (by kernel_rfl) (fun _ _ _ h => h) (by rfl) ?_
      try simp only [Act.put, List.setIfInBounds_toArray, List.set_cons_zero, List.set_cons_succ]
      refine regx_skip 11 (some 67) rfl rfl (by kernel_rfl) (by kernel_rfl) (by kernel_rfl) (fun _ _ _ h => h) (by rfl) ?_
      try simp only [Act.put, List.setIfInBounds_toArray, List.set_cons_zero, List.set_cons_succ]
      refine regx_skip 12 (some 68) rfl rfl (by kernel_rfl) (by kernel_rfl) (by kernel_rfl) (fun _ _ _ h => h) (by rfl) ?_
      try simp only [Act.put, List.setIfInBounds_toArray, List.set_cons_zero, List.set_cons_succ]
      refine regx_skip 13 (some 69) rfl rfl (by kernel_rfl) (by kernel_rfl) (by kernel_rfl) (fun _ _ _ h => h) (by rfl) ?_
      try simp only [Act.put, List.setIfInBounds_toArray, List.set_cons_zero, List.set_cons_succ]
      refine regx_skip 14 (some 70) rfl rfl (by kernel_rfl) (by kernel_rfl) (by kernel_rfl) (fun _ _ _ h => h) (by rfl) ?_
      try simp only [Act.put, List.setIfInBounds_toArray, List.set_cons_zero, List.set_cons_succ]
      refine regx_skip 15 (some 71) rfl rfl (by kernel_rfl) (by kernel_rfl) (by kernel_rfl) (fun _ _ _ h => h) (by rfl) ?_
      try simp only [Act.put, List.setIfInBounds_toArray, List.set_cons_zero, List.set_cons_succ]
      refine regx_skip 16 (some 72) rfl rfl (by kernel_rfl) (by kernel_rfl) (by kernel_rfl) (fun _ _ _ h => h) (by rfl) ?_
      try simp only [Act.put, List.setIfInBounds_toArray, List.set_cons_zero, List.set_cons_succ]
      refine regx_skip 17 (some 73) rfl rfl (by kernel_rfl) (by kernel_rfl) (by kernel_rfl) (fun _ _ _ h => h) (by rfl) ?_
      try simp only [Act.put, List.setIfInBounds_toArray, List.set_cons_zero, List.set_cons_succ]
      refine regx_skip 18 (some 74) rfl rfl (by kernel_rfl) (by kernel_rfl) (by kernel_rfl) (fun _ _ _ h => h) (by rfl) ?_
      try simp only [Act.put, List.setIfInBounds_toArray, List.set_cons_zero, List.set_cons_succ]
      refine regx_take 19 (some 75) (v := ?_) rfl rfl (by kernel_rfl) (by kernel_rfl) (by kernel_rfl) (fun _ _ _ h => h) (by rfl) ?_ ?_
      rotate_left
      · intro W hW; go_simp; first | done | with_reducible rfl
      try simp only [Act.put, List.setIfInBounds_toArray, List.set_cons_zero, List.set_cons_succ]
      refine wpAnyH_ready (rs := [20]) (by kernel_rfl) (by simp) ?_
      refine (AllReadyH.cons (o := { dst := none, op := Op.store 25 (Operand.tmp 4) (Operand.tmp 56), type := 0, pos := "ref.go:128", after := #[{ on := 0, ground := Ground.data }, { on := 13, ground := Ground.chain }, { on := 0, ground := Ground.phase }, { on := 1, ground := Ground.textOnly Departure.lateStores }, { on := 2, ground := Ground.textOnly Departure.lateStoresUnsure }, { on := 3, ground := Ground.textOnly Departure.lateStores }, { on := 4, ground := Ground.textOnly Departure.lateStores }, { on := 5, ground := Ground.textOnly Departure.lateStores }, { on := 6, ground := Ground.textOnly Departure.lateStores }, { on := 7, ground := Ground.textOnly Departure.lateStores }, { on := 8, ground := Ground.textOnly Departure.lateStores }, { on := 9, ground := Ground.textOnly Departure.lateStores }, { on := 10, ground := Ground.textOnly Departure.lateStores }, { on := 11, ground := Ground.textOnly Departure.lateStores }, { on := 12, ground := Ground.textOnly Departure.lateStores }, { on := 13, ground := Ground.textOnly Departure.lateStores }, { on := 14, ground := Ground.textOnly Departure.lateStores }, { on := 15, ground := Ground.textOnly Departure.lateStores }, { on := 16, ground := Ground.textOnly Departure.lateStoresUnsure }, { on := 17, ground := Ground.textOnly Departure.lateStores }, { on := 18, ground := Ground.textOnly Departure.lateStores }, { on := 19, ground := Ground.textOnly Departure.lateStores }], guard := none }) rfl (fun K hK => ?_) AllReadyH.nil)
      refine wp_store_all 25 _ _ rfl w.heap.size ?csu25n ?hxu25n ?hyu25n rz 25 ?hzu25n ?hfu25n 4 ?hnu25n Try.size25 ?h1u25n ?_
      case hyu25n => exact rfl
      case hxu25n => exact rfl
      case hzu25n => exact (hv1.block _ (lt_of_block (show u9.drew.heap[w.heap.size]? = _ from HS9.out)) (by simp)).trans HS9.out
      case hfu25n => exact rfl
      case hnu25n => exact rfl
      case h1u25n => simp [allOne, Value.oneCell']
      intro v2 hb2 h2
      refine regx_next hK (Keeps.row h2 rfl) ?_
      clear hK K
      try simp only [Act.put]
      refine regx_take 21 (some 5) (v := ?_) rfl rfl (by kernel_rfl) (by kernel_rfl) (by kernel_rfl) (fun _ _ _ h => h) (by rfl) ?_ ?_
      rotate_left
      · intro W hW; go_simp; first | done | with_reducible rfl
      try simp only [Act.put, List.setIfInBounds_toArray, List.set_cons_zero, List.set_cons_succ]
      refine wpAnyH_done (by kernel_rfl) ?_ _
      have HB2 := Lib.hid hb2
      have HV2 := Lib.hid (grown_new (HG9.out.trans (drewl hv1)) h2 (Nat.le_refl _))
      have HV1 := Lib.hid (drewl hv1)
      have HS1 := Lib.hid (keep_blk hv1 HS9.out)
      have H2 := Lib.hid h2
      clear hv1 hb2 h2
      go_wp2
      refine bodyPost_ret (results_c25t rfl _ _ _ _ (by rfl) (by rfl) HB2.out) (by rfl) ?_
      exact bodyDo_ok (HAA.out ▸ HD.out ▸ HO.out) HM.out HQ9.out HV1.out HS1.out H2.out HV2.out HR9.out
  · go_simp
    have hn := heap_alloc_new (w.alloc (.cells rz.toArray 25)).drew (.cells rz.toArray 25); have hm := World.grownBy_alloc (w.alloc (.cells rz.toArray 25)).drew (.cells rz.toArray 25) none; have hx10 : w.heap.size + 1 ≤ (w.alloc (.cells rz.toArray 25)).drew.heap.size := (by first | simp | (have := hk54.size; simp at this; omega))
    refine regx_next hK (Keeps.keep hm) ?_
    clear hK K
    try simp only [Act.put, List.setIfInBounds_toArray, List.set_cons_zero, List.set_cons_succ]
    refine wpAnyH_ready (rs := [8]) (by kernel_rfl) (by simp) ?_
    refine (AllReadyH.cons (o := { dst := some 50, op := Op.buildSlice 23 0 #[], type := 23, pos := "ref.go:127", after := #[], guard := none }) rfl (fun K hK => ?_) AllReadyH.nil)
    go_simp
    have hn5 := Gs.empty ((w.alloc (.cells rz.toArray 25)).drew.alloc (.cells rz.toArray 25)); simp at hn5; have hm5 := World.grownBy_alloc ((w.alloc (.cells rz.toArray 25)).drew.alloc (.cells rz.toArray 25)) (.cells #[] 5) none; have hz5 := heap_alloc_new ((w.alloc (.cells rz.toArray 25)).drew.alloc (.cells rz.toArray 25)) (.cells #[] 5); have hx5 : w.heap.size + 1 ≤ ((w.alloc (.cells rz.toArray 25)).drew.alloc (.cells rz.toArray 25)).heap.size := (by simp)
    refine regx_next hK (Keeps.keep hm5) ?_
    clear hK K
    try simp only [Act.put, List.setIfInBounds_toArray, List.set_cons_zero, List.set_cons_succ]
    refine wpAnyH_ready (rs := [12]) (by kernel_rfl) (by simp) ?_
    refine (AllReadyH.cons (o := { dst := some 54, op := Op.call { callee := Callee.builtin Builtin.append, args := #[Operand.tmp 50, Operand.tmp 53], argTypes := #[23, 23] }, type := 23, pos := "ref.go:127", after := #[{ on := 8, ground := Ground.data }, { on := 11, ground := Ground.data }], guard := none }) rfl (fun K hK => ?_) AllReadyH.nil)
    first | refine wp_gs eB 23 (.tmp 50) (.tmp 53) rfl (.slice (some ⟨w.heap.size + 1, 0, none⟩) 0 0) _ 0 m [] (bsV v0) (by rfl) (by rfl) ?ggu30 (src_gon (c := c3) HM.out ?gsu30) HONE.out (by have := HM1.out; omega) ?_ | refine wp_gs eB 23 (.tmp 50) (.tmp 53) rfl (.slice (some ⟨w.heap.size + 1 + 1, 0, none⟩) 0 0) _ 0 m [] (bsV v0) (by rfl) (by rfl) ?ggu30 (src_gon (c := c3) HM.out ?gsu30) HONE.out (by have := HM1.out; omega) ?_
    case ggu30 => first | exact hn5 | exact hn5.keptNone ⟨rfl, rfl, rfl, by simp, fun k hk _ => heap_alloc_old _ _ (by simpa using hk)⟩
    case gsu30 => exact HS3.out.keptNone (drewl (Keeps.toGrown (X := fun k => w.heap.size + 1 ≤ k) ((Keeps.keep hm).trans (Keeps.keep hm5)) (by intro i hi; simp at hi ⊢; omega)))
    intro v4 u4 hQ4 hg4 hr4
    obtain ⟨a4, c4, hv4, _⟩ := hQ4.shape
    rw [Nat.zero_add] at hv4
    subst hv4
    first | have hk54 : World.grownBy _ u4 (some (w.heap.size + 1)) := hg4 | have hk54 : World.grownBy _ u4 (some (w.heap.size + 1 + 1)) := hg4
    refine regx_next hK (Keeps.of hk54 (fun r e => by cases e; first | exact hx5 | (simp <;> omega))) ?_
    clear hK K
    try simp only [Act.put, List.setIfInBounds_toArray, List.set_cons_zero, List.set_cons_succ]
    refine regx_take 13 (some 55) (v := ?_) rfl rfl (by kernel_rfl) (by kernel_rfl) (by kernel_rfl) (fun _ _ _ h => h) (by rfl) ?_ ?_
    rotate_left
    · intro W hW; go_simp; first | done | with_reducible rfl
    try simp only [Act.put, List.setIfInBounds_toArray, List.set_cons_zero, List.set_cons_succ]
    refine wpAnyH_ready (rs := [15]) (by kernel_rfl) (by simp) ?_
    refine (AllReadyH.cons (o := { dst := none, op := Op.store 25 (Operand.tmp 10) (Operand.tmp 55), type := 0, pos := "ref.go:127", after := #[{ on := 14, ground := Ground.data }, { on := 13, ground := Ground.data }, { on := 12, ground := Ground.chain }, { on := 0, ground := Ground.phase }, { on := 1, ground := Ground.phase }, { on := 2, ground := Ground.phase }, { on := 3, ground := Ground.phase }, { on := 4, ground := Ground.phase }, { on := 5, ground := Ground.phase }, { on := 6, ground := Ground.phase }, { on := 7, ground := Ground.phase }, { on := 8, ground := Ground.phase }, { on := 9, ground := Ground.phase }, { on := 10, ground := Ground.phase }, { on := 11, ground := Ground.phase }, { on := 12, ground := Ground.phase }, { on := 13, ground := Ground.phase }, { on := 14, ground := Ground.phase }], guard := none }) rfl (fun K hK => ?_) AllReadyH.nil)
    first | have hz9 : (u4.alloc (.cells rz.toArray 25)).heap[u4.heap.size]? = some (.cells rz.toArray 25 (0, 0)) := hn | have hz9 : u4.heap[w.heap.size + 1 + 1]? = some (.cells rz.toArray 25 (0, 0)) := (by have hz7 := hn; rw [show ((w.alloc (.cells rz.toArray 25)).drew.alloc (.cells #[] 5)).heap.size = w.heap.size + 1 + 1 from (World.size_alloc _ _).trans (congrArg (· + 1) (World.size_alloc w _))] at hz7; exact (hk54.block _ (by simp) (by simp)).trans hz7) | have hz9 : u4.heap[w.heap.size + 1]? = some (.cells rz.toArray 25 (0, 0)) := (by have hz7 := keep_blk hm5 hn; rw [show (w.alloc (.cells rz.toArray 25)).drew.heap.size = w.heap.size + 1 from World.size_alloc w _] at hz7; exact (hk54.block _ (by simp) (by simp)).trans hz7)
    refine wp_store_all 25 _ _ rfl ?bu32 ?csu32 ?hxu32 ?hyu32 rz 25 ?hzu32 ?hfu32 4 ?hnu32 Try.size25 ?h1u32 ?_
    case hyu32 => exact rfl
    case hxu32 => exact rfl
    case hzu32 => exact hz9
    case hfu32 => exact rfl
    case hnu32 => exact rfl
    case h1u32 => simp [allOne, Value.oneCell']
    intro u9 hb9 h9
    refine regx_next hK (Keeps.row h9 (by first | exact hx10 | (simp <;> omega))) ?_
    clear hK K
    try simp only [Act.put]
    refine wpAnyH_done (by kernel_rfl) ?_ _
    have hk9 : Keeps (fun k => w.heap.size + 1 ≤ k) (w.alloc (.cells rz.toArray 25)).drew u9 := ((Keeps.keep hm).trans ((Keeps.keep hm5).trans ((Keeps.of hk54 (fun r e => by cases e; first | exact hx5 | (simp <;> omega))).trans (Keeps.row h9 (by first | exact hx10 | (simp <;> omega))))))
    have HQ9 := Lib.hid (gs_end hQ4 (by first | exact World.grownBy.refl _ _ | exact World.grownBy_alloc _ _ _) hz9 h9)
    have HR9 := Lib.hid (show ∀ k, rowOf (.slice a4 m c4) = some k → w.heap.size ≤ k from fun k hk => by rcases hr4 with h | h <;> (rw [h] at hk; cases hk; simp <;> omega))
    have HB9 := Lib.hid hb9
    have HBN := Lib.hid (nb (S := w.heap.size) hb9 (by first | (simp <;> omega) | (have := hx10; omega)))
    have HS9 := Lib.hid ((hk9.block w.heap.size (by simp) (by simp)).trans HR0.out)
    have HG9 := Lib.hid (HG0.out.trans (drewl (hk9.toGrown (by intro i hi; simp at hi ⊢; omega))))
    have HKC9 := Lib.hid (keeps_cell hk9 (show (w.alloc (.cells rz.toArray 25)).drew.cell? ⟨b, o, none⟩ = some (.int .u8 (d : Int)) from HKC.out) (by have := HBK.out; simp; omega))
    clear hk9 hQ4 hr4 hb9 h9 hk54 hg4 hz9 hn hm hn5 hm5 hz5 hx5 hx10
    go_wp2
    refine regx_open (fun k => k = w.heap.size) (n := 22) rfl (by kernel_rfl) ?_
    refine regx_take 0 (some 56) (v := ?_) rfl rfl (by kernel_rfl) (by kernel_rfl) (by kernel_rfl) (fun _ _ _ h => h) (by rfl) ?_ ?_
    rotate_left
    · intro W hW; refine exec_ld25 (x := .tmp 10) ?_ ?_ (((hW).block _ (lt_of_block HB9.out) HBN.out).trans HB9.out) <;> rfl
    try simp only [Act.put, List.setIfInBounds_toArray, List.set_cons_zero, List.set_cons_succ]
    refine regx_take 1 (some 57) (v := ?_) rfl rfl (by kernel_rfl) (by kernel_rfl) (by kernel_rfl) (fun _ _ _ h => h) (by rfl) ?_ ?_
    rotate_left
    · intro W hW; refine exec_ld25 (x := .tmp 10) ?_ ?_ (((hW).block _ (lt_of_block HB9.out) HBN.out).trans HB9.out) <;> rfl
    try simp only [Act.put, List.setIfInBounds_toArray, List.set_cons_zero, List.set_cons_succ]
    refine wpAnyH_ready (rs := [2]) (by kernel_rfl) (by simp) ?_
    refine (AllReadyH.cons (o := { dst := some 58, op := Op.call { callee := Callee.value (Operand.func 12), args := #[Operand.tmp 57], argTypes := #[25] }, type := 4, pos := "ref.go:128", after := #[{ on := 1, ground := Ground.data }], guard := none }) rfl (fun K hK => ?_) AllReadyH.nil)
    go_simp
    refine (rright_any A d n0 a4 m c4 _).mono ?_; rintro e v1 ⟨rfl, hv1⟩
    simp only [hRt]
    refine regx_next hK (Keeps.keep hv1) ?_
    clear hK K
    try simp only [Act.put, List.setIfInBounds_toArray, List.set_cons_zero, List.set_cons_succ]
    refine regx_take 3 (some 59) (v := ?_) rfl rfl (by kernel_rfl) (by kernel_rfl) (by kernel_rfl) (fun _ _ _ h => h) (by rfl) ?_ ?_
    rotate_left
    · intro W hW; go_simp; first | done | with_reducible rfl
    try simp only [Act.put, List.setIfInBounds_toArray, List.set_cons_zero, List.set_cons_succ]
    refine regx_skip 4 (some 60) rfl rfl (by kernel_rfl) (by kernel_rfl) (by kernel_rfl) (fun _ _ _ h => h) (by rfl) ?_
    try simp only [Act.put, List.setIfInBounds_toArray, List.set_cons_zero, List.set_cons_succ]
    refine regx_skip 5 (some 61) rfl rfl (by kernel_rfl) (by kernel_rfl) (by kernel_rfl) (fun _ _ _ h => h) (by rfl) ?_
    try simp only [Act.put, List.setIfInBounds_toArray, List.set_cons_zero, List.set_cons_succ]
    refine regx_skip 6 (some 62) rfl rfl (by kernel_rfl) (by kernel_rfl) (by kernel_rfl) (fun _ _ _ h => h) (by rfl) ?_
    try simp only [Act.put, List.setIfInBounds_toArray, List.set_cons_zero, List.set_cons_succ]
    refine regx_skip 7 (some 63) rfl rfl (by kernel_rfl) (by kernel_rfl) (by kernel_rfl) (fun _ _ _ h => h) (by rfl) ?_
    try simp only [Act.put, List.setIfInBounds_toArray, List.set_cons_zero, List.set_cons_succ]
    refine regx_skip 8 (some 64) rfl rfl (by kernel_rfl) (by kernel_rfl) (by kernel_rfl) (fun _ _ _ h => h) (by rfl) ?_
    try simp only [Act.put, List.setIfInBounds_toArray, List.set_cons_zero, List.set_cons_succ]
    refine regx_skip 9 (some 65) rfl rfl (by kernel_rfl) (by kernel_rfl) (by kernel_rfl) (fun _ _ _ h => h) (by rfl) ?_
    try simp only [Act.put, List.setIfInBounds_toArray, List.set_cons_zero, List.set_cons_succ]
    refine regx_skip 10 (some 66) rfl rfl (by kernel_rfl) (by kernel_rfl) (by kernel_rfl) (fun _ _ _ h => h) (by rfl) ?_
    try simp only [Act.put, List.setIfInBounds_toArray, List.set_cons_zero, List.set_cons_succ]
    refine regx_skip 11 (some 67) rfl rfl (by kernel_rfl) (by kernel_rfl) (by kernel_rfl) (fun _ _ _ h => h) (by rfl) ?_
    try simp only [Act.put, List.setIfInBounds_toArray, List.set_cons_zero, List.set_cons_succ]
    refine regx_skip 12 (some 68) rfl rfl (by kernel_rfl) (by kernel_rfl) (by kernel_rfl) (fun _ _ _ h => h) (by rfl) ?_
    try simp only [Act.put, List.setIfInBounds_toArray, List.set_cons_zero, List.set_cons_succ]
    refine regx_skip 13 (some 69) rfl rfl (by kernel_rfl) (by kernel_rfl) (by kernel_rfl) (fun _ _ _ h => h) (by rfl) ?_
    try simp only [Act.put, List.setIfInBounds_toArray, List.set_cons_zero, List.set_cons_succ]
    refine regx_skip 14 (some 70) rfl rfl (by kernel_rfl) (by kernel_rfl) (by kernel_rfl) (fun _ _ _ h => h) (by rfl) ?_
    try simp only [Act.put, List.setIfInBounds_toArray, List.set_cons_zero, List.set_cons_succ]
    refine regx_skip 15 (some 71) rfl rfl (by kernel_rfl) (by kernel_rfl) (by kernel_rfl) (fun _ _ _ h => h) (by rfl) ?_
    try simp only [Act.put, List.setIfInBounds_toArray, List.set_cons_zero, List.set_cons_succ]
    refine regx_skip 16 (some 72) rfl rfl (by kernel_rfl) (by kernel_rfl) (by kernel_rfl) (fun _ _ _ h => h) (by rfl) ?_
    try simp only [Act.put, List.setIfInBounds_toArray, List.set_cons_zero, List.set_cons_succ]
    refine regx_skip 17 (some 73) rfl rfl (by kernel_rfl) (by kernel_rfl) (by kernel_rfl) (fun _ _ _ h => h) (by rfl) ?_
    try simp only [Act.put, List.setIfInBounds_toArray, List.set_cons_zero, List.set_cons_succ]
    refine regx_skip 18 (some 74) rfl rfl (by kernel_rfl) (by kernel_rfl) (by kernel_rfl) (fun _ _ _ h => h) (by rfl) ?_
    try simp only [Act.put, List.setIfInBounds_toArray, List.set_cons_zero, List.set_cons_succ]
    refine regx_take 19 (some 75) (v := ?_) rfl rfl (by kernel_rfl) (by kernel_rfl) (by kernel_rfl) (fun _ _ _ h => h) (by rfl) ?_ ?_
    rotate_left
    · intro W hW; go_simp; first | done | with_reducible rfl
    try simp only [Act.put, List.setIfInBounds_toArray, List.set_cons_zero, List.set_cons_succ]
    refine wpAnyH_ready (rs := [20]) (by kernel_rfl) (by simp) ?_
    refine (AllReadyH.cons (o := { dst := none, op := Op.store 25 (Operand.tmp 4) (Operand.tmp 56), type := 0, pos := "ref.go:128", after := #[{ on := 0, ground := Ground.data }, { on := 13, ground := Ground.chain }, { on := 0, ground := Ground.phase }, { on := 1, ground := Ground.textOnly Departure.lateStores }, { on := 2, ground := Ground.textOnly Departure.lateStoresUnsure }, { on := 3, ground := Ground.textOnly Departure.lateStores }, { on := 4, ground := Ground.textOnly Departure.lateStores }, { on := 5, ground := Ground.textOnly Departure.lateStores }, { on := 6, ground := Ground.textOnly Departure.lateStores }, { on := 7, ground := Ground.textOnly Departure.lateStores }, { on := 8, ground := Ground.textOnly Departure.lateStores }, { on := 9, ground := Ground.textOnly Departure.lateStores }, { on := 10, ground := Ground.textOnly Departure.lateStores }, { on := 11, ground := Ground.textOnly Departure.lateStores }, { on := 12, ground := Ground.textOnly Departure.lateStores }, { on := 13, ground := Ground.textOnly Departure.lateStores }, { on := 14, ground := Ground.textOnly Departure.lateStores }, { on := 15, ground := Ground.textOnly Departure.lateStores }, { on := 16, ground := Ground.textOnly Departure.lateStoresUnsure }, { on := 17, ground := Ground.textOnly Departure.lateStores }, { on := 18, ground := Ground.textOnly Departure.lateStores }, { on := 19, ground := Ground.textOnly Departure.lateStores }], guard := none }) rfl (fun K hK => ?_) AllReadyH.nil)
    refine wp_store_all 25 _ _ rfl w.heap.size ?csu34n ?hxu34n ?hyu34n rz 25 ?hzu34n ?hfu34n 4 ?hnu34n Try.size25 ?h1u34n ?_
    case hyu34n => exact rfl
    case hxu34n => exact rfl
    case hzu34n => exact (hv1.block _ (lt_of_block (show u9.drew.heap[w.heap.size]? = _ from HS9.out)) (by simp)).trans HS9.out
    case hfu34n => exact rfl
    case hnu34n => exact rfl
    case h1u34n => simp [allOne, Value.oneCell']
    intro v2 hb2 h2
    refine regx_next hK (Keeps.row h2 rfl) ?_
    clear hK K
    try simp only [Act.put]
    refine regx_take 21 (some 5) (v := ?_) rfl rfl (by kernel_rfl) (by kernel_rfl) (by kernel_rfl) (fun _ _ _ h => h) (by rfl) ?_ ?_
    rotate_left
    · intro W hW; go_simp; first | done | with_reducible rfl
    try simp only [Act.put, List.setIfInBounds_toArray, List.set_cons_zero, List.set_cons_succ]
    refine wpAnyH_done (by kernel_rfl) ?_ _
    have HB2 := Lib.hid hb2
    have HV2 := Lib.hid (grown_new (HG9.out.trans (drewl hv1)) h2 (Nat.le_refl _))
    have HV1 := Lib.hid (drewl hv1)
    have HS1 := Lib.hid (keep_blk hv1 HS9.out)
    have H2 := Lib.hid h2
    clear hv1 hb2 h2
    go_wp2
    refine bodyPost_ret (results_c25t rfl _ _ _ _ (by rfl) (by rfl) HB2.out) (by rfl) ?_
    exact bodyDo_ok (HAA.out ▸ HD.out ▸ HO.out) HM.out HQ9.out HV1.out HS1.out H2.out HV2.out HR9.out
set_option maxRecDepth 100000 in
set_option maxHeartbeats 4000000 in
theorem rbody_ok8 (x : Option Addr) (cap : Nat) (l : List UInt8) (last : Int) (w : World) (hs : Go.Proofs.Ytpoifobhbmhelaa.Src w x l) (hcap : l.length ≤ cap) (hl : l.length ≤ 1000000) (h0 : 0 ≤ last) (h1 : last ≤ 4611686018427387904) (c : UInt8) (t : List UInt8) (hlt : l = c :: t) (h3 : ¬ l.length < 3) (y : Nat) (u : List UInt8) (ht : take t = .num y u) (hy : (y : Int) ≤ 4611686018427387904 - last) (n0 : Nat) (v0 : List UInt8) (hu : take u = .num n0 v0) (hn0 : n0 < 65536) (hR : ¬ Rt (last + y) c.toNat n0 v0.length) (h8 : c.toNat = 8) (hn8 : n0 = 0) (hv8 : v0.length = 0) : Calls Try.prog 39 #[.slice x l.length cap, .int .i64 last] w fun e w' => BodyDo w (decB l last) e w' := by
  have HO := Lib.hid (show decB l last = some ⟨last + y, c.toNat, n0, v0⟩ from by rw [hlt]; exact decB_ok ht hu ⟨⟨hy, hn0⟩, .inr ⟨h8, hn8, hv8⟩⟩)
  have HRT := Lib.hid hR
  have HB0 := Lib.hid (show ∀ b o, x = some ⟨b, o, none⟩ → b < w.heap.size from fun b o e => Go.Proofs.Ytpoifobhbmhelaa.Src.lt (e ▸ hs) (by rw [hlt]; simp))
  have HR0 := Lib.hid (heap_alloc_new w (.cells rz.toArray 25))
  have HG0 := Lib.hid (World.grownBy_alloc w (.cells rz.toArray 25) none)
  obtain ⟨n, hn⟩ : ∃ n, n = l.length := ⟨_, rfl⟩
  have hat : 1 ≤ l.length := by omega
  have ht' : take (l.drop 1) = .num y u := by rw [hlt]; exact ht
  have C1 := rtake_any x cap l 1 (w.alloc (.cells rz.toArray 25)) (hs.keptNone HG0.out) hat hl
  rw [ht'] at C1
  rw [← hn] at h3 ⊢ C1
  have h3' : ¬ (n : Int) < 3 := by omega
  have HYB := Lib.hid (take_inv ht).2
  have HDR := Lib.hid (take_drop hat ht')
  have hul : u.length < n := by have := take_lt ht; rw [hn, hlt]; simp; omega
  obtain ⟨A1, hA1⟩ : ∃ A1, A1 = n - u.length := ⟨_, rfl⟩
  have hA2 : A1 ≤ l.length := by omega
  have C2 := rtake_any x cap l A1 (w.alloc (.cells rz.toArray 25)) (hs.keptNone HG0.out) hA2 hl
  rw [show l.drop A1 = u from by rw [hA1, hn]; exact HDR.out, ← hn] at C2
  unfold tkRes at C1
  simp only at C1
  rw [← hA1] at C1
  have hp1 : ¬ (A1 : Int) ≤ 0 := by omega
  have hp2 : 0 < A1 := by omega
  have hp3 : ¬ A1 = 0 := by omega
  obtain ⟨D, hD⟩ : ∃ D : Int, D = 4611686018427387904 - last := ⟨_, rfl⟩
  have hsub : IntKind.i64.wrap (4611686018427387904 - last) = D := by rw [IntKind.wrap_i64]; omega
  have HDD := Lib.hid hD
  have HA1 := Lib.hid hA1
  have HN := Lib.hid hn
  have hyD : ¬ D < (y : Int) := by omega
  have HUV := Lib.hid (take_lt hu)
  have HDR2 := Lib.hid (show l.drop (n - v0.length) = v0 from by
    have := take_drop (l := l) (k := A1) (r := v0) (n := n0) hA2 (by rw [hA1, hn, HDR.out]; exact hu)
    rw [hn]; exact this)
  rw [hu] at C2
  unfold tkRes at C2
  simp only at C2
  have hvl : v0.length < n := by have := HUV.out; omega
  obtain ⟨A2, hA3⟩ : ∃ A2, A2 = n - v0.length := ⟨_, rfl⟩
  rw [← hA3] at C2 HDR2
  have hr1 : ¬ (A2 : Int) ≤ 0 := by omega
  have hr2 : 0 < A2 := by omega
  have hr3 : ¬ A2 = 0 := by omega
  have HA2 := Lib.hid hA3
  have HVL := Lib.hid hvl
  obtain ⟨m, hm⟩ : ∃ m, m = v0.length := ⟨_, rfl⟩
  obtain ⟨x3, c3, hsl, hc3, hs3⟩ := src_from hs hcap A2 (by omega)
  rw [HDR2.out] at hs3
  obtain ⟨b, o, hx, hcb⟩ := src_some hs (by rw [hlt]; simp)
  obtain ⟨d, hd⟩ : ∃ d : Nat, d = c.toNat := ⟨_, rfl⟩
  have hd256 : d < 256 := by rw [hd]; exact c.toNat_lt
  have hwd : IntKind.i64.wrap (d : Int) = (d : Int) := by rw [IntKind.wrap_i64]; omega
  have HKC := Lib.hid (show (w.alloc (.cells rz.toArray 25)).cell? ⟨b, o, none⟩ = some (.int .u8 (d : Int)) from by
    have := hcb 0 (by omega)
    rw [hd]
    refine keep_cell HG0.out (this.trans ?_)
    simp [hlt])
  have HSL := Lib.hid (show Value.slice x3 m c3 = sliced x A2 n cap 1 from by rw [hm, hn, hsl]; congr 1; omega)
  have HS3 := Lib.hid (hs3.keptNone HG0.out)
  have HM1 := Lib.hid (show m ≤ 1000000 from by rw [hm]; omega)
  have HA2N := Lib.hid (show A2 ≤ n from by omega)
  obtain ⟨A, hA⟩ : ∃ A : Int, A = last + y := ⟨_, rfl⟩
  have hadd : IntKind.i64.wrap (last + (y : Int)) = A := by rw [IntKind.wrap_i64]; omega
  have hnb : ¬ (65535 : Int) < (n0 : Nat) := by omega
  have hRt : decide (Rt A d n0 m) = false := decide_eq_false (by rw [hA, hd, hm]; exact hR)
  have HAA := Lib.hid hA
  have HD := Lib.hid hd
  have HM := Lib.hid hm
  have HONE := Lib.hid (bs_one v0)
  have HBK := Lib.hid (HB0.out b o hx)
  clear HB0
  have hnp : 0 < n := by omega
  have e8 : ((d : Int) == 8) = true := by simp; omega
  have e9 : ((n0 : Int) == 0) = true := by simp; omega
  have e10 : ((m : Int) == 0) = true := by simp; omega
  have HE := Lib.hid (And.intro h8 (And.intro hn8 hv8))
  clear h8 hn8 hv8
  subst hx
  clear hy hu hn0 hR
  clear hm hsl hc3 hs3 hcb hd hA
  clear hvl hA3
  clear hul hA1 hA2 hD hn h3 hat ht' hlt ht hs hcap hl h0 h1
  go_enter Try.func39, Try.ntmps39
  go_wp2_with fail
  refine C1.mono ?_; rintro e w2 ⟨rfl, rfl⟩
  clear C1
  go_wp2_with fail
  refine C2.mono ?_; rintro e w2 ⟨rfl, rfl⟩
  clear C2
  go_wp2
  refine regx_open (fun k => w.heap.size + 1 ≤ k) (n := 16) rfl (by kernel_rfl) ?_
  refine regx_take 0 (some 42) (v := ?_) rfl rfl (by kernel_rfl) (by kernel_rfl) (by kernel_rfl) (fun _ _ _ h => h) (by rfl) ?_ ?_
  rotate_left
  · intro W hW; go_simp; first | done | with_reducible rfl
  try simp only [Act.put, List.setIfInBounds_toArray, List.set_cons_zero, List.set_cons_succ]
  refine regx_take 1 (some 43) (v := ?_) rfl rfl (by kernel_rfl) (by kernel_rfl) (by kernel_rfl) (fun _ _ _ h => h) (by rfl) ?_ ?_
  rotate_left
  · intro W hW; go_simp; first | done | with_reducible rfl
  try simp only [Act.put, List.setIfInBounds_toArray, List.set_cons_zero, List.set_cons_succ]
  refine regx_take 2 (some 44) (v := ?_) rfl rfl (by kernel_rfl) (by kernel_rfl) (by kernel_rfl) (fun _ _ _ h => h) (by rfl) ?_ ?_
  rotate_left
  · intro W hW; go_simp; first | done | with_reducible rfl
  try simp only [Act.put, List.setIfInBounds_toArray, List.set_cons_zero, List.set_cons_succ]
  refine regx_take 3 (some 45) (v := ?_) rfl rfl (by kernel_rfl) (by kernel_rfl) (by kernel_rfl) (fun _ _ _ h => h) (by rfl) ?_ ?_
  rotate_left
  · intro W hW; go_simp; first | done | with_reducible rfl
  try simp only [Act.put, List.setIfInBounds_toArray, List.set_cons_zero, List.set_cons_succ]
  refine regx_take 4 (some 46) (v := ?_) rfl rfl (by kernel_rfl) (by kernel_rfl) (by kernel_rfl) (fun _ _ _ h => h) (by rfl) ?_ ?_
  rotate_left
  · intro W hW; go_simp; first | done | with_reducible rfl
  try simp only [Act.put, List.setIfInBounds_toArray, List.set_cons_zero, List.set_cons_succ]
  refine regx_take 5 (some 47) (v := ?_) rfl rfl (by kernel_rfl) (by kernel_rfl) (by kernel_rfl) (fun _ _ _ h => h) (by rfl) ?_ ?_
  rotate_left
  · intro W hW; have k := keeps_cell hW (show (w.alloc (.cells rz.toArray 25)).drew.cell? ⟨b, o, none⟩ = some (.int .u8 (d : Int)) from HKC.out) (by have := HBK.out; simp; omega); go_simp; first | done | with_reducible rfl
  try simp only [Act.put, List.setIfInBounds_toArray, List.set_cons_zero, List.set_cons_succ]
  refine regx_take 6 (some 48) (v := ?_) rfl rfl (by kernel_rfl) (by kernel_rfl) (by kernel_rfl) (fun _ _ _ h => h) (by rfl) ?_ ?_
  rotate_left
  · intro W hW; go_simp; first | done | with_reducible rfl
  try simp only [Act.put, List.setIfInBounds_toArray, List.set_cons_zero, List.set_cons_succ]
  refine regx_take 7 (some 49) (v := ?_) rfl rfl (by kernel_rfl) (by kernel_rfl) (by kernel_rfl) (fun _ _ _ h => h) (by rfl) ?_ ?_
  rotate_left
  · intro W hW; go_simp; first | done | with_reducible rfl
  try simp only [Act.put, List.setIfInBounds_toArray, List.set_cons_zero, List.set_cons_succ]
  refine regx_take 9 (some 51) (v := ?_) rfl rfl (by kernel_rfl) (by kernel_rfl) (by kernel_rfl) (fun _ _ _ h => h) (by rfl) ?_ ?_
  rotate_left
  · intro W hW; go_simp; first | done | with_reducible rfl
  try simp only [Act.put, List.setIfInBounds_toArray, List.set_cons_zero, List.set_cons_succ]
  refine regx_take 10 (some 52) (v := ?_) rfl rfl (by kernel_rfl) (by kernel_rfl) (by kernel_rfl) (fun _ _ _ h => h) (by rfl) ?_ ?_
  rotate_left
  · intro W hW; go_simp; first | done | with_reducible rfl
  try simp only [Act.put, List.setIfInBounds_toArray, List.set_cons_zero, List.set_cons_succ]
  refine regx_take 11 (some 53) (v := ?_) rfl rfl (by kernel_rfl) (by kernel_rfl) (by kernel_rfl) (fun _ _ _ h => h) (by rfl) ?_ ?_
  rotate_left
  · intro W hW; refine exec_sl eB elemB (x := .tmp 51) (y := .tmp 52) ?_ (some ⟨b, o, none⟩) n cap A2 ?_ ?_ HA2N.out _ (.slice x3 m c3) HSL.out <;> rfl
  try simp only [Act.put, List.setIfInBounds_toArray, List.set_cons_zero, List.set_cons_succ]
  refine wpAnyH_ready (rs := [8, 14]) (by kernel_rfl) (by simp) ?_
  refine (AllReadyH.cons (o := { dst := some 50, op := Op.buildSlice 23 0 #[], type := 23, pos := "ref.go:127", after := #[], guard := none }) rfl (fun K hK => ?_) (AllReadyH.cons (o := { dst := some 10, op := Op.alloc 25, type := 0, pos := "ref.go:127", after := #[], guard := none }) rfl (fun K hK => ?_) AllReadyH.nil))
  · go_simp
    have hn5 := Gs.empty (w.alloc (.cells rz.toArray 25)).drew; simp at hn5; have hm5 := World.grownBy_alloc (w.alloc (.cells rz.toArray 25)).drew (.cells #[] 5) none; have hz5 := heap_alloc_new (w.alloc (.cells rz.toArray 25)).drew (.cells #[] 5); have hx5 : w.heap.size + 1 ≤ (w.alloc (.cells rz.toArray 25)).drew.heap.size := (by simp)
    refine regx_next hK (Keeps.keep hm5) ?_
    clear hK K
    try simp only [Act.put, List.setIfInBounds_toArray, List.set_cons_zero, List.set_cons_succ]
    refine wpAnyH_ready (rs := [12, 14]) (by kernel_rfl) (by simp) ?_
    refine (AllReadyH.cons (o := { dst := some 54, op := Op.call { callee := Callee.builtin Builtin.append, args := #[Operand.tmp 50, Operand.tmp 53], argTypes := #[23, 23] }, type := 23, pos := "ref.go:127", after := #[{ on := 8, ground := Ground.data }, { on := 11, ground := Ground.data }], guard := none }) rfl (fun K hK => ?_) (AllReadyH.cons (o := { dst := some 10, op := Op.alloc 25, type := 0, pos := "ref.go:127", after := #[], guard := none }) rfl (fun K hK => ?_) AllReadyH.nil))
    · first | refine wp_gs eB 23 (.tmp 50) (.tmp 53) rfl (.slice (some ⟨w.heap.size + 1, 0, none⟩) 0 0) _ 0 m [] (bsV v0) (by rfl) (by rfl) ?ggu48 (src_gon (c := c3) HM.out ?gsu48) HONE.out (by have := HM1.out; omega) ?_ | refine wp_gs eB 23 (.tmp 50) (.tmp 53) rfl (.slice (some ⟨w.heap.size + 1 + 1, 0, none⟩) 0 0) _ 0 m [] (bsV v0) (by rfl) (by rfl) ?ggu48 (src_gon (c := c3) HM.out ?gsu48) HONE.out (by have := HM1.out; omega) ?_
      case ggu48 => first | exact hn5 | exact hn5.keptNone ⟨rfl, rfl, rfl, by simp, fun k hk _ => heap_alloc_old _ _ (by simpa using hk)⟩
      case gsu48 => exact HS3.out.keptNone (drewl (Keeps.toGrown (X := fun k => w.heap.size + 1 ≤ k) (Keeps.keep hm5) (by intro i hi; simp at hi ⊢; omega)))
      intro v4 u4 hQ4 hg4 hr4
      obtain ⟨a4, c4, hv4, _⟩ := hQ4.shape
      rw [Nat.zero_add] at hv4
      subst hv4
      first | have hk54 : World.grownBy _ u4 (some (w.heap.size + 1)) := hg4 | have hk54 : World.grownBy _ u4 (some (w.heap.size + 1 + 1)) := hg4
      refine regx_next hK (Keeps.of hk54 (fun r e => by cases e; first | exact hx5 | (simp <;> omega))) ?_
      clear hK K
      try simp only [Act.put, List.setIfInBounds_toArray, List.set_cons_zero, List.set_cons_succ]
      refine regx_take 13 (some 55) (v := ?_) rfl rfl (by kernel_rfl) (by kernel_rfl) (by kernel_rfl) (fun _ _ _ h => h) (by rfl) ?_ ?_
      rotate_left
      · intro W hW; go_simp; first | done | with_reducible rfl
      try simp only [Act.put, List.setIfInBounds_toArray, List.set_cons_zero, List.set_cons_succ]
      refine wpAnyH_ready (rs := [14]) (by kernel_rfl) (by simp) ?_
      refine (AllReadyH.cons (o := { dst := some 10, op := Op.alloc 25, type := 0, pos := "ref.go:127", after := #[], guard := none }) rfl (fun K hK => ?_) AllReadyH.nil)
      go_simp
      have hn := heap_alloc_new u4 (.cells rz.toArray 25); have hm := World.grownBy_alloc u4 (.cells rz.toArray 25) none; have hx10 : w.heap.size + 1 ≤ u4.heap.size := (by first | simp | (have := hk54.size; simp at this; omega))
      refine regx_next hK (Keeps.keep hm) ?_
      clear hK K
      try simp only [Act.put, List.setIfInBounds_toArray, List.set_cons_zero, List.set_cons_succ]
      refine wpAnyH_ready (rs := [15]) (by kernel_rfl) (by simp) ?_
      refine (AllReadyH.cons (o := { dst := none, op := Op.store 25 (Operand.tmp 10) (Operand.tmp 55), type := 0, pos := "ref.go:127", after := #[{ on := 14, ground := Ground.data }, { on := 13, ground := Ground.data }, { on := 12, ground := Ground.chain }, { on := 0, ground := Ground.phase }, { on := 1, ground := Ground.phase }, { on := 2, ground := Ground.phase }, { on := 3, ground := Ground.phase }, { on := 4, ground := Ground.phase }, { on := 5, ground := Ground.phase }, { on := 6, ground := Ground.phase }, { on := 7, ground := Ground.phase }, { on := 8, ground := Ground.phase }, { on := 9, ground := Ground.phase }, { on := 10, ground := Ground.phase }, { on := 11, ground := Ground.phase }, { on := 12, ground := Ground.phase }, { on := 13, ground := Ground.phase }, { on := 14, ground := Ground.phase }], guard := none }) rfl (fun K hK => ?_) AllReadyH.nil)
      first | have hz9 : (u4.alloc (.cells rz.toArray 25)).heap[u4.heap.size]? = some (.cells rz.toArray 25 (0, 0)) := hn | have hz9 : u4.heap[w.heap.size + 1 + 1]? = some (.cells rz.toArray 25 (0, 0)) := (by have hz7 := hn; rw [show ((w.alloc (.cells rz.toArray 25)).drew.alloc (.cells #[] 5)).heap.size = w.heap.size + 1 + 1 from (World.size_alloc _ _).trans (congrArg (· + 1) (World.size_alloc w _))] at hz7; exact (hk54.block _ (by simp) (by simp)).trans hz7) | have hz9 : u4.heap[w.heap.size + 1]? = some (.cells rz.toArray 25 (0, 0)) := (by have hz7 := keep_blk hm5 hn; rw [show (w.alloc (.cells rz.toArray 25)).drew.heap.size = w.heap.size + 1 from World.size_alloc w _] at hz7; exact (hk54.block _ (by simp) (by simp)).trans hz7)
      refine wp_store_all 25 _ _ rfl ?bu52 ?csu52 ?hxu52 ?hyu52 rz 25 ?hzu52 ?hfu52 4 ?hnu52 Try.size25 ?h1u52 ?_
      case hyu52 => exact rfl
      case hxu52 => exact rfl
      case hzu52 => exact hz9
      case hfu52 => exact rfl
      case hnu52 => exact rfl
      case h1u52 => simp [allOne, Value.oneCell']
      intro u9 hb9 h9
      refine regx_next hK (Keeps.row h9 (by first | exact hx10 | (simp <;> omega))) ?_
      clear hK K
      try simp only [Act.put]
      refine wpAnyH_done (by kernel_rfl) ?_ _
      have hk9 : Keeps (fun k => w.heap.size + 1 ≤ k) (w.alloc (.cells rz.toArray 25)).drew u9 := ((Keeps.keep hm5).trans ((Keeps.of hk54 (fun r e => by cases e; first | exact hx5 | (simp <;> omega))).trans ((Keeps.keep hm).trans (Keeps.row h9 (by first | exact hx10 | (simp <;> omega))))))
      have HQ9 := Lib.hid (gs_end hQ4 (by first | exact World.grownBy.refl _ _ | exact World.grownBy_alloc _ _ _) hz9 h9)
      have HR9 := Lib.hid (show ∀ k, rowOf (.slice a4 m c4) = some k → w.heap.size ≤ k from fun k hk => by rcases hr4 with h | h <;> (rw [h] at hk; cases hk; simp <;> omega))
      have HB9 := Lib.hid hb9
      have HBN := Lib.hid (nb (S := w.heap.size) hb9 (by first | (simp <;> omega) | (have := hx10; omega)))
      have HS9 := Lib.hid ((hk9.block w.heap.size (by simp) (by simp)).trans HR0.out)
      have HG9 := Lib.hid (HG0.out.trans (drewl (hk9.toGrown (by intro i hi; simp at hi ⊢; omega))))
      have HKC9 := Lib.hid (keeps_cell hk9 (show (w.alloc (.cells rz.toArray 25)).drew.cell? ⟨b, o, none⟩ = some (.int .u8 (d : Int)) from HKC.out) (by have := HBK.out; simp; omega))
      clear hk9 hQ4 hr4 hb9 h9 hk54 hg4 hz9 hn hm hn5 hm5 hz5 hx5 hx10
      go_wp2
      refine regx_open (fun k => k = w.heap.size) (n := 22) rfl (by kernel_rfl) ?_
      refine regx_take 0 (some 56) (v := ?_) rfl rfl (by kernel_rfl) (by kernel_rfl) (by kernel_rfl) (fun _ _ _ h => h) (by rfl) ?_ ?_
      rotate_left
      · intro W hW; refine exec_ld25 (x := .tmp 10) ?_ ?_ (((hW).block _ (lt_of_block HB9.out) HBN.out).trans HB9.out) <;> rfl
      try simp only [Act.put, List.setIfInBounds_toArray, List.set_cons_zero, List.set_cons_succ]
      refine regx_take 1 (some 57) (v := ?_) rfl rfl (by kernel_rfl) (by kernel_rfl) (by kernel_rfl) (fun _ _ _ h => h) (by rfl) ?_ ?_
      rotate_left
      · intro W hW; refine exec_ld25 (x := .tmp 10) ?_ ?_ (((hW).block _ (lt_of_block HB9.out) HBN.out).trans HB9.out) <;> rfl
      try simp only [Act.put, List.setIfInBounds_toArray, List.set_cons_zero, List.set_cons_succ]
      refine wpAnyH_ready (rs := [2]) (by kernel_rfl) (by simp) ?_
      refine (AllReadyH.cons (o := { dst := some 58, op := Op.call { callee := Callee.value (Operand.func 12), args := #[Operand.tmp 57], argTypes := #[25] }, type := 4, pos := "ref.go:128", after := #[{ on := 1, ground := Ground.data }], guard := none }) rfl (fun K hK => ?_) AllReadyH.nil)
      go_simp
      refine (rright_any A d n0 a4 m c4 _).mono ?_; rintro e v1 ⟨rfl, hv1⟩
      simp only [hRt]
      refine regx_next hK (Keeps.keep hv1) ?_
      clear hK K
      try simp only [Act.put, List.setIfInBounds_toArray, List.set_cons_zero, List.set_cons_succ]
      refine regx_take 3 (some 59) (v := ?_) rfl rfl (by kernel_rfl) (by kernel_rfl) (by kernel_rfl) (fun _ _ _ h => h) (by rfl) ?_ ?_
      rotate_left
      · intro W hW; go_simp; first | done | with_reducible rfl
      try simp only [Act.put, List.setIfInBounds_toArray, List.set_cons_zero, List.set_cons_succ]
      refine regx_take 4 (some 60) (v := ?_) rfl rfl (by kernel_rfl) (by kernel_rfl) (by kernel_rfl) (fun _ _ _ h => h) (by rfl) ?_ ?_
      rotate_left
      · intro W hW; go_simp; first | done | with_reducible rfl
      try simp only [Act.put, List.setIfInBounds_toArray, List.set_cons_zero, List.set_cons_succ]
      refine regx_take 5 (some 61) (v := ?_) rfl rfl (by kernel_rfl) (by kernel_rfl) (by kernel_rfl) (fun _ _ _ h => h) (by rfl) ?_ ?_
      rotate_left
      · intro W hW; go_simp; first | done | with_reducible rfl
      try simp only [Act.put, List.setIfInBounds_toArray, List.set_cons_zero, List.set_cons_succ]
      refine regx_take 6 (some 62) (v := ?_) rfl rfl (by kernel_rfl) (by kernel_rfl) (by kernel_rfl) (fun _ _ _ h => h) (by rfl) ?_ ?_
      rotate_left
      · intro W hW; have k := keeps_cell ((Keeps.keep hv1).trans hW) (show u9.drew.cell? ⟨b, o, none⟩ = some (.int .u8 (d : Int)) from HKC9.out) (by have := HBK.out; simp; omega); go_simp; first | done | with_reducible rfl
      try simp only [Act.put, List.setIfInBounds_toArray, List.set_cons_zero, List.set_cons_succ]
      refine regx_take 7 (some 63) (v := ?_) rfl rfl (by kernel_rfl) (by kernel_rfl) (by kernel_rfl) (fun _ _ _ h => h) (by rfl) ?_ ?_
      rotate_left
      · intro W hW; go_simp; first | done | with_reducible rfl
      try simp only [Act.put, List.setIfInBounds_toArray, List.set_cons_zero, List.set_cons_succ]
      refine regx_take 8 (some 64) (v := ?_) rfl rfl (by kernel_rfl) (by kernel_rfl) (by kernel_rfl) (fun _ _ _ h => h) (by rfl) ?_ ?_
      rotate_left
      · intro W hW; go_simp; first | done | with_reducible rfl
      try simp only [Act.put, List.setIfInBounds_toArray, List.set_cons_zero, List.set_cons_succ]
      refine regx_take 9 (some 65) (v := ?_) rfl rfl (by kernel_rfl) (by kernel_rfl) (by kernel_rfl) (fun _ _ _ h => h) (by rfl) ?_ ?_
      rotate_left
      · intro W hW; go_simp; first | done | with_reducible rfl
      try simp only [Act.put, List.setIfInBounds_toArray, List.set_cons_zero, List.set_cons_succ]
      refine regx_take 10 (some 66) (v := ?_) rfl rfl (by kernel_rfl) (by kernel_rfl) (by kernel_rfl) (fun _ _ _ h => h) (by rfl) ?_ ?_
      rotate_left
      · intro W hW; go_simp; first | done | with_reducible rfl
      try simp only [Act.put, List.setIfInBounds_toArray, List.set_cons_zero, List.set_cons_succ]
      refine regx_take 11 (some 67) (v := ?_) rfl rfl (by kernel_rfl) (by kernel_rfl) (by kernel_rfl) (fun _ _ _ h => h) (by rfl) ?_ ?_
      rotate_left
      · intro W hW; go_simp; first | done | with_reducible rfl
      try simp only [Act.put, List.setIfInBounds_toArray, List.set_cons_zero, List.set_cons_succ]
      refine regx_take 12 (some 68) (v := ?_) rfl rfl (by kernel_rfl) (by kernel_rfl) (by kernel_rfl) (fun _ _ _ h => h) (by rfl) ?_ ?_
      rotate_left
      · intro W hW; go_simp; first | done | with_reducible rfl
      try simp only [Act.put, List.setIfInBounds_toArray, List.set_cons_zero, List.set_cons_succ]
      refine regx_take 13 (some 69) (v := ?_) rfl rfl (by kernel_rfl) (by kernel_rfl) (by kernel_rfl) (fun _ _ _ h => h) (by rfl) ?_ ?_
      rotate_left
      · intro W hW; go_simp; first | done | with_reducible rfl
      try simp only [Act.put, List.setIfInBounds_toArray, List.set_cons_zero, List.set_cons_succ]
      refine regx_take 14 (some 70) (v := ?_) rfl rfl (by kernel_rfl) (by kernel_rfl) (by kernel_rfl) (fun _ _ _ h => h) (by rfl) ?_ ?_
      rotate_left
      · intro W hW; go_simp; first | done | with_reducible rfl
      try simp only [Act.put, List.setIfInBounds_toArray, List.set_cons_zero, List.set_cons_succ]
      refine regx_take 15 (some 71) (v := ?_) rfl rfl (by kernel_rfl) (by kernel_rfl) (by kernel_rfl) (fun _ _ _ h => h) (by rfl) ?_ ?_
      rotate_left
      · intro W hW; have k := keeps_cell ((Keeps.keep hv1).trans hW) (show u9.drew.cell? _ = some (.slice a4 m c4) from cells_all HB9.out 3) HBN.out; go_simp; first | done | with_reducible rfl
      try simp only [Act.put, List.setIfInBounds_toArray, List.set_cons_zero, List.set_cons_succ]
      refine regx_take 16 (some 72) (v := ?_) rfl rfl (by kernel_rfl) (by kernel_rfl) (by kernel_rfl) (fun _ _ _ h => h) (by rfl) ?_ ?_
      rotate_left
      · intro W hW; go_simp; first | done | with_reducible rfl
      try simp only [Act.put, List.setIfInBounds_toArray, List.set_cons_zero, List.set_cons_succ]
      refine regx_take 17 (some 73) (v := ?_) rfl rfl (by kernel_rfl) (by kernel_rfl) (by kernel_rfl) (fun _ _ _ h => h) (by rfl) ?_ ?_
      rotate_left
      · intro W hW; go_simp; first | done | with_reducible rfl
      try simp only [Act.put, List.setIfInBounds_toArray, List.set_cons_zero, List.set_cons_succ]
      refine regx_take 18 (some 74) (v := ?_) rfl rfl (by kernel_rfl) (by kernel_rfl) (by kernel_rfl) (fun _ _ _ h => h) (by rfl) ?_ ?_
      rotate_left
      · intro W hW; go_simp; first | done | with_reducible rfl
      try simp only [Act.put, List.setIfInBounds_toArray, List.set_cons_zero, List.set_cons_succ]
      refine regx_take 19 (some 75) (v := ?_) rfl rfl (by kernel_rfl) (by kernel_rfl) (by kernel_rfl) (fun _ _ _ h => h) (by rfl) ?_ ?_
      rotate_left
      · intro W hW; go_simp; first | done | with_reducible rfl
      try simp only [Act.put, List.setIfInBounds_toArray, List.set_cons_zero, List.set_cons_succ]
      refine wpAnyH_ready (rs := [20]) (by kernel_rfl) (by simp) ?_
      refine (AllReadyH.cons (o := { dst := none, op := Op.store 25 (Operand.tmp 4) (Operand.tmp 56), type := 0, pos := "ref.go:128", after := #[{ on := 0, ground := Ground.data }, { on := 13, ground := Ground.chain }, { on := 0, ground := Ground.phase }, { on := 1, ground := Ground.textOnly Departure.lateStores }, { on := 2, ground := Ground.textOnly Departure.lateStoresUnsure }, { on := 3, ground := Ground.textOnly Departure.lateStores }, { on := 4, ground := Ground.textOnly Departure.lateStores }, { on := 5, ground := Ground.textOnly Departure.lateStores }, { on := 6, ground := Ground.textOnly Departure.lateStores }, { on := 7, ground := Ground.textOnly Departure.lateStores }, { on := 8, ground := Ground.textOnly Departure.lateStores }, { on := 9, ground := Ground.textOnly Departure.lateStores }, { on := 10, ground := Ground.textOnly Departure.lateStores }, { on := 11, ground := Ground.textOnly Departure.lateStores }, { on := 12, ground := Ground.textOnly Departure.lateStores }, { on := 13, ground := Ground.textOnly Departure.lateStores }, { on := 14, ground := Ground.textOnly Departure.lateStores }, { on := 15, ground := Ground.textOnly Departure.lateStores }, { on := 16, ground := Ground.textOnly Departure.lateStoresUnsure }, { on := 17, ground := Ground.textOnly Departure.lateStores }, { on := 18, ground := Ground.textOnly Departure.lateStores }, { on := 19, ground := Ground.textOnly Departure.lateStores }], guard := none }) rfl (fun K hK => ?_) AllReadyH.nil)
      refine wp_store_all 25 _ _ rfl w.heap.size ?csu54n ?hxu54n ?hyu54n rz 25 ?hzu54n ?hfu54n 4 ?hnu54n Try.size25 ?h1u54n ?_
      case hyu54n => exact rfl
      case hxu54n => exact rfl
      case hzu54n => exact (hv1.block _ (lt_of_block (show u9.drew.heap[w.heap.size]? = _ from HS9.out)) (by simp)).trans HS9.out
      case hfu54n => exact rfl
      case hnu54n => exact rfl
      case h1u54n => simp [allOne, Value.oneCell']
      intro v2 hb2 h2
      refine regx_next hK (Keeps.row h2 rfl) ?_
      clear hK K
      try simp only [Act.put]
      refine regx_take 21 (some 5) (v := ?_) rfl rfl (by kernel_rfl) (by kernel_rfl) (by kernel_rfl) (fun _ _ _ h => h) (by rfl) ?_ ?_
      rotate_left
      · intro W hW; go_simp; first | done | with_reducible rfl
      try simp only [Act.put, List.setIfInBounds_toArray, List.set_cons_zero, List.set_cons_succ]
      refine wpAnyH_done (by kernel_rfl) ?_ _
      have HB2 := Lib.hid hb2
      have HV2 := Lib.hid (grown_new (HG9.out.trans (drewl hv1)) h2 (Nat.le_refl _))
      have HV1 := Lib.hid (drewl hv1)
      have HS1 := Lib.hid (keep_blk hv1 HS9.out)
      have H2 := Lib.hid h2
      clear hv1 hb2 h2
      go_wp2
      refine bodyPost_ret (results_c25t rfl _ _ _ _ (by rfl) (by rfl) HB2.out) (by rfl) ?_
      exact bodyDo_ok (HAA.out ▸ HD.out ▸ HO.out) HM.out HQ9.out HV1.out HS1.out H2.out HV2.out HR9.out
    · go_simp
      have hn := heap_alloc_new ((w.alloc (.cells rz.toArray 25)).drew.alloc (.cells #[] 5)) (.cells rz.toArray 25); have hm := World.grownBy_alloc ((w.alloc (.cells rz.toArray 25)).drew.alloc (.cells #[] 5)) (.cells rz.toArray 25) none; have hx10 : w.heap.size + 1 ≤ ((w.alloc (.cells rz.toArray 25)).drew.alloc (.cells #[] 5)).heap.size := (by first | simp | (have := hk54.size; simp at this; omega))
      refine regx_next hK (Keeps.keep hm) ?_
      clear hK K
      try simp only [Act.put, List.setIfInBounds_toArray, List.set_cons_zero, List.set_cons_succ]
      refine wpAnyH_ready (rs := [12]) (by kernel_rfl) (by simp) ?_
      refine (AllReadyH.cons (o := { dst := some 54, op := Op.call { callee := Callee.builtin Builtin.append, args := #[Operand.tmp 50, Operand.tmp 53], argTypes := #[23, 23] }, type := 23, pos := "ref.go:127", after := #[{ on := 8, ground := Ground.data }, { on := 11, ground := Ground.data }], guard := none }) rfl (fun K hK => ?_) AllReadyH.nil)
      first | refine wp_gs eB 23 (.tmp 50) (.tmp 53) rfl (.slice (some ⟨w.heap.size + 1, 0, none⟩) 0 0) _ 0 m [] (bsV v0) (by rfl) (by rfl) ?ggu57 (src_gon (c := c3) HM.out ?gsu57) HONE.out (by have := HM1.out; omega) ?_ | refine wp_gs eB 23 (.tmp 50) (.tmp 53) rfl (.slice (some ⟨w.heap.size + 1 + 1, 0, none⟩) 0 0) _ 0 m [] (bsV v0) (by rfl) (by rfl) ?ggu57 (src_gon (c := c3) HM.out ?gsu57) HONE.out (by have := HM1.out; omega) ?_
      case ggu57 => first | exact hn5 | exact hn5.keptNone ⟨rfl, rfl, rfl, by simp, fun k hk _ => heap_alloc_old _ _ (by simpa using hk)⟩
      case gsu57 => exact HS3.out.keptNone (drewl (Keeps.toGrown (X := fun k => w.heap.size + 1 ≤ k) ((Keeps.keep hm5).trans (Keeps.keep hm)) (by intro i hi; simp at hi ⊢; omega)))
      intro v4 u4 hQ4 hg4 hr4
      obtain ⟨a4, c4, hv4, _⟩ := hQ4.shape
      rw [Nat.zero_add] at hv4
      subst hv4
      first | have hk54 : World.grownBy _ u4 (some (w.heap.size + 1)) := hg4 | have hk54 : World.grownBy _ u4 (some (w.heap.size + 1 + 1)) := hg4
      refine regx_next hK (Keeps.of hk54 (fun r e => by cases e; first | exact hx5 | (simp <;> omega))) ?_
      clear hK K
      try simp only [Act.put, List.setIfInBounds_toArray, List.set_cons_zero, List.set_cons_succ]
      refine regx_take 13 (some 55) (v := ?_) rfl rfl (by kernel_rfl) (by kernel_rfl) (by kernel_rfl) (fun _ _ _ h => h) (by rfl) ?_ ?_
      rotate_left
      · intro W hW; go_simp; first | done | with_reducible rfl
      try simp only [Act.put, List.setIfInBounds_toArray, List.set_cons_zero, List.set_cons_succ]
      refine wpAnyH_ready (rs := [15]) (by kernel_rfl) (by simp) ?_
      refine (AllReadyH.cons (o := { dst := none, op := Op.store 25 (Operand.tmp 10) (Operand.tmp 55), type := 0, pos := "ref.go:127", after := #[{ on := 14, ground := Ground.data }, { on := 13, ground := Ground.data }, { on := 12, ground := Ground.chain }, { on := 0, ground := Ground.phase }, { on := 1, ground := Ground.phase }, { on := 2, ground := Ground.phase }, { on := 3, ground := Ground.phase }, { on := 4, ground := Ground.phase }, { on := 5, ground := Ground.phase }, { on := 6, ground := Ground.phase }, { on := 7, ground := Ground.phase }, { on := 8, ground := Ground.phase }, { on := 9, ground := Ground.phase }, { on := 10, ground := Ground.phase }, { on := 11, ground := Ground.phase }, { on := 12, ground := Ground.phase }, { on := 13, ground := Ground.phase }, { on := 14, ground := Ground.phase }], guard := none }) rfl (fun K hK => ?_) AllReadyH.nil)
      first | have hz9 : (u4.alloc (.cells rz.toArray 25)).heap[u4.heap.size]? = some (.cells rz.toArray 25 (0, 0)) := hn | have hz9 : u4.heap[w.heap.size + 1 + 1]? = some (.cells rz.toArray 25 (0, 0)) := (by have hz7 := hn; rw [show ((w.alloc (.cells rz.toArray 25)).drew.alloc (.cells #[] 5)).heap.size = w.heap.size + 1 + 1 from (World.size_alloc _ _).trans (congrArg (· + 1) (World.size_alloc w _))] at hz7; exact (hk54.block _ (by simp) (by simp)).trans hz7) | have hz9 : u4.heap[w.heap.size + 1]? = some (.cells rz.toArray 25 (0, 0)) := (by have hz7 := keep_blk hm5 hn; rw [show (w.alloc (.cells rz.toArray 25)).drew.heap.size = w.heap.size + 1 from World.size_alloc w _] at hz7; exact (hk54.block _ (by simp) (by simp)).trans hz7)
      refine wp_store_all 25 _ _ rfl ?bu59 ?csu59 ?hxu59 ?hyu59 rz 25 ?hzu59 ?hfu59 4 ?hnu59 Try.size25 ?h1u59 ?_
      case hyu59 => exact rfl
      case hxu59 => exact rfl
      case hzu59 => exact hz9
      case hfu59 => exact rfl
      case hnu59 => exact rfl
      case h1u59 => simp [allOne, Value.oneCell']
      intro u9 hb9 h9
      refine regx_next hK (Keeps.row h9 (by first | exact hx10 | (simp <;> omega))) ?_
      clear hK K
      try simp only [Act.put]
      refine wpAnyH_done (by kernel_rfl) ?_ _
      have hk9 : Keeps (fun k => w.heap.size + 1 ≤ k) (w.alloc (.cells rz.toArray 25)).drew u9 := ((Keeps.keep hm5).trans ((Keeps.keep hm).trans ((Keeps.of hk54 (fun r e => by cases e; first | exact hx5 | (simp <;> omega))).trans (Keeps.row h9 (by first | exact hx10 | (simp <;> omega))))))
      have HQ9 := Lib.hid (gs_end hQ4 (by first | exact World.grownBy.refl _ _ | exact World.grownBy_alloc _ _ _) hz9 h9)
      have HR9 := Lib.hid (show ∀ k, rowOf (.slice a4 m c4) = some k → w.heap.size ≤ k from fun k hk => by rcases hr4 with h | h <;> (rw [h] at hk; cases hk; simp <;> omega))
      have HB9 := Lib.hid hb9
      have HBN := Lib.hid (nb (S := w.heap.size) hb9 (by first | (simp <;> omega) | (have := hx10; omega)))
      have HS9 := Lib.hid ((hk9.block w.heap.size (by simp) (by simp)).trans HR0.out)
      have HG9 := Lib.hid (HG0.out.trans (drewl (hk9.toGrown (by intro i hi; simp at hi ⊢; omega))))
      have HKC9 := Lib.hid (keeps_cell hk9 (show (w.alloc (.cells rz.toArray 25)).drew.cell? ⟨b, o, none⟩ = some (.int .u8 (d : Int)) from HKC.out) (by have := HBK.out; simp; omega))
      clear hk9 hQ4 hr4 hb9 h9 hk54 hg4 hz9 hn hm hn5 hm5 hz5 hx5 hx10
      go_wp2
      refine regx_open (fun k => k = w.heap.size) (n := 22) rfl (by kernel_rfl) ?_
      refine regx_take 0 (some 56) (v := ?_) rfl rfl (by kernel_rfl) (by kernel_rfl) (by kernel_rfl) (fun _ _ _ h => h) (by rfl) ?_ ?_
      rotate_left
      · intro W hW; refine exec_ld25 (x := .tmp 10) ?_ ?_ (((hW).block _ (lt_of_block HB9.out) HBN.out).trans HB9.out) <;> rfl
      try simp only [Act.put, List.setIfInBounds_toArray, List.set_cons_zero, List.set_cons_succ]
      refine regx_take 1 (some 57) (v := ?_) rfl rfl (by kernel_rfl) (by kernel_rfl) (by kernel_rfl) (fun _ _ _ h => h) (by rfl) ?_ ?_
      rotate_left
      · intro W hW; refine exec_ld25 (x := .tmp 10) ?_ ?_ (((hW).block _ (lt_of_block HB9.out) HBN.out).trans HB9.out) <;> rfl
      try simp only [Act.put, List.setIfInBounds_toArray, List.set_cons_zero, List.set_cons_succ]
      refine wpAnyH_ready (rs := [2]) (by kernel_rfl) (by simp) ?_
      refine (AllReadyH.cons (o := { dst := some 58, op := Op.call { callee := Callee.value (Operand.func 12), args := #[Operand.tmp 57], argTypes := #[25] }, type := 4, pos := "ref.go:128", after := #[{ on := 1, ground := Ground.data }], guard := none }) rfl (fun K hK => ?_) AllReadyH.nil)
      go_simp
      refine (rright_any A d n0 a4 m c4 _).mono ?_; rintro e v1 ⟨rfl, hv1⟩
      simp only [hRt]
      refine regx_next hK (Keeps.keep hv1) ?_
      clear hK K
      try simp only [Act.put, List.setIfInBounds_toArray, List.set_cons_zero, List.set_cons_succ]
      refine regx_take 3 (some 59) (v := ?_) rfl rfl (by kernel_rfl) (by kernel_rfl) (by kernel_rfl) (fun _ _ _ h => h) (by rfl) ?_ ?_
      rotate_left
      · intro W hW; go_simp; first | done | with_reducible rfl
      try simp only [Act.put, List.setIfInBounds_toArray, List.set_cons_zero, List.set_cons_succ]
      refine regx_take 4 (some 60) (v := ?_) rfl rfl (by kernel_rfl) (by kernel_rfl) (by kernel_rfl) (fun _ _ _ h => h) (by rfl) ?_ ?_
      rotate_left
      · intro W hW; go_simp; first | done | with_reducible rfl
      try simp only [Act.put, List.setIfInBounds_toArray, List.set_cons_zero, List.set_cons_succ]
      refine regx_take 5 (some 61) (v := ?_) rfl rfl (by kernel_rfl) (by kernel_rfl) (by kernel_rfl) (fun _ _ _ h => h) (by rfl) ?_ ?_
      rotate_left
      · intro W hW; go_simp; first | done | with_reducible rfl
      try simp only [Act.put, List.setIfInBounds_toArray, List.set_cons_zero, List.set_cons_succ]
      refine regx_take 6 (some 62) (v := ?_) rfl rfl (by kernel_rfl) (by kernel_rfl) (by kernel_rfl) (fun _ _ _ h => h) (by rfl) ?_ ?_
      rotate_left
      · intro W hW; have k := keeps_cell ((Keeps.keep hv1).trans hW) (show u9.drew.cell? ⟨b, o, none⟩ = some (.int .u8 (d : Int)) from HKC9.out) (by have := HBK.out; simp; omega); go_simp; first | done | with_reducible rfl
      try simp only [Act.put, List.setIfInBounds_toArray, List.set_cons_zero, List.set_cons_succ]
      refine regx_take 7 (some 63) (v := ?_) rfl rfl (by kernel_rfl) (by kernel_rfl) (by kernel_rfl) (fun _ _ _ h => h) (by rfl) ?_ ?_
      rotate_left
      · intro W hW; go_simp; first | done | with_reducible rfl
      try simp only [Act.put, List.setIfInBounds_toArray, List.set_cons_zero, List.set_cons_succ]
      refine regx_take 8 (some 64) (v := ?_) rfl rfl (by kernel_rfl) (by kernel_rfl) (by kernel_rfl) (fun _ _ _ h => h) (by rfl) ?_ ?_
      rotate_left
      · intro W hW; go_simp; first | done | with_reducible rfl
      try simp only [Act.put, List.setIfInBounds_toArray, List.set_cons_zero, List.set_cons_succ]
      refine regx_take 9 (some 65) (v := ?_) rfl rfl (by kernel_rfl) (by kernel_rfl) (by kernel_rfl) (fun _ _ _ h => h) (by rfl) ?_ ?_
      rotate_left
      · intro W hW; go_simp; first | done | with_reducible rfl
      try simp only [Act.put, List.setIfInBounds_toArray, List.set_cons_zero, List.set_cons_succ]
      refine regx_take 10 (some 66) (v := ?_) rfl rfl (by kernel_rfl) (by kernel_rfl) (by kernel_rfl) (fun _ _ _ h => h) (by rfl) ?_ ?_
      rotate_left
      · intro W hW; go_simp; first | done | with_reducible rfl
      try simp only [Act.put, List.setIfInBounds_toArray, List.set_cons_zero, List.set_cons_succ]
      refine regx_take 11 (some 67) (v := ?_) rfl rfl (by kernel_rfl) (by kernel_rfl) (by kernel_rfl) (fun _ _ _ h => h) (by rfl) ?_ ?_
      rotate_left
      · intro W hW; go_simp; first | done | with_reducible rfl
      try simp only [Act.put, List.setIfInBounds_toArray, List.set_cons_zero, List.set_cons_succ]
      refine regx_take 12 (some 68) (v := ?_) rfl rfl (by kernel_rfl) (by kernel_rfl) (by kernel_rfl) (fun _ _ _ h => h) (by rfl) ?_ ?_
      rotate_left
      · intro W hW; go_simp; first | done | with_reducible rfl
      try simp only [Act.put, List.setIfInBounds_toArray, List.set_cons_zero, List.set_cons_succ]
      refine regx_take 13 (some 69) (v := ?_) rfl rfl (by kernel_rfl) (by kernel_rfl) (by kernel_rfl) (fun _ _ _ h => h) (by rfl) ?_ ?_
      rotate_left
      · intro W hW; go_simp; first | done | with_reducible rfl
      try simp only [Act.put, List.setIfInBounds_toArray, List.set_cons_zero, List.set_cons_succ]
      refine regx_take 14 (some 70) (v := ?_) rfl rfl (by kernel_rfl) (by kernel_rfl) (by kernel_rfl) (fun _ _ _ h => h) (by rfl) ?_ ?_
      rotate_left
      · intro W hW; go_simp; first | done | with_reducible rfl
      try simp only [Act.put, List.setIfInBounds_toArray, List.set_cons_zero, List.set_cons_succ]
      refine regx_take 15 (some 71) (v := ?_) rfl rfl (by kernel_rfl) (by kernel_rfl) (by kernel_rfl) (fun _ _ _ h => h) (by rfl) ?_ ?_
      rotate_left
      · intro W hW; have k := keeps_cell ((Keeps.keep hv1).trans hW) (show u9.drew.cell? _ = some (.slice a4 m c4) from cells_all HB9.out 3) HBN.out; go_simp; first | done | with_reducible rfl
      try simp only [Act.put, List.setIfInBounds_toArray, List.set_cons_zero, List.set_cons_succ]
      refine regx_take 16 (some 72) (v := ?_) rfl rfl (by kernel_rfl) (by kernel_rfl) (by kernel_rfl) (fun _ _ _ h => h) (by rfl) ?_ ?_
      rotate_left
      · intro W hW; go_simp; first | done | with_reducible rfl
      try simp only [Act.put, List.setIfInBounds_toArray, List.set_cons_zero, List.set_cons_succ]
      refine regx_take 17 (some 73) (v := ?_) rfl rfl (by kernel_rfl) (by kernel_rfl) (by kernel_rfl) (fun _ _ _ h => h) (by rfl) ?_ ?_
      rotate_left
      · intro W hW; go_simp; first | done | with_reducible rfl
      try simp only [Act.put, List.setIfInBounds_toArray, List.set_cons_zero, List.set_cons_succ]
      refine regx_take 18 (some 74) (v := ?_) rfl rfl (by kernel_rfl) (by kernel_rfl) (by kernel_rfl) (fun _ _ _ h => h) (by rfl) ?_ ?_
      rotate_left
      · intro W hW; go_simp; first | done | with_reducible rfl
      try simp only [Act.put, List.setIfInBounds_toArray, List.set_cons_zero, List.set_cons_succ]
      refine regx_take 19 (some 75) (v := ?_) rfl rfl (by kernel_rfl) (by kernel_rfl) (by kernel_rfl) (fun _ _ _ h => h) (by rfl) ?_ ?_
      rotate_left
      · intro W hW; go_simp; first | done | with_reducible rfl
      try simp only [Act.put, List.setIfInBounds_toArray, List.set_cons_zero, List.set_cons_succ]
      refine wpAnyH_ready (rs := [20]) (by kernel_rfl) (by simp) ?_
      refine (AllReadyH.cons (o := { dst := none, op := Op.store 25 (Operand.tmp 4) (Operand.tmp 56), type := 0, pos := "ref.go:128", after := #[{ on := 0, ground := Ground.data }, { on := 13, ground := Ground.chain }, { on := 0, ground := Ground.phase }, { on := 1, ground := Ground.textOnly Departure.lateStores }, { on := 2, ground := Ground.textOnly Departure.lateStoresUnsure }, { on := 3, ground := Ground.textOnly Departure.lateStores }, { on := 4, ground := Ground.textOnly Departure.lateStores }, { on := 5, ground := Ground.textOnly Departure.lateStores }, { on := 6, ground := Ground.textOnly Departure.lateStores }, { on := 7, ground := Ground.textOnly Departure.lateStores }, { on := 8, ground := Ground.textOnly Departure.lateStores }, { on := 9, ground := Ground.textOnly Departure.lateStores }, { on := 10, ground := Ground.textOnly Departure.lateStores }, { on := 11, ground := Ground.textOnly Departure.lateStores }, { on := 12, ground := Ground.textOnly Departure.lateStores }, { on := 13, ground := Ground.textOnly Departure.lateStores }, { on := 14, ground := Ground.textOnly Departure.lateStores }, { on := 15, ground := Ground.textOnly Departure.lateStores }, { on := 16, ground := Ground.textOnly Departure.lateStoresUnsure }, { on := 17, ground := Ground.textOnly Departure.lateStores }, { on := 18, ground := Ground.textOnly Departure.lateStores }, { on := 19, ground := Ground.textOnly Departure.lateStores }], guard := none }) rfl (fun K hK => ?_) AllReadyH.nil)
      refine wp_store_all 25 _ _ rfl w.heap.size ?csu61n ?hxu61n ?hyu61n rz 25 ?hzu61n ?hfu61n 4 ?hnu61n Try.size25 ?h1u61n ?_
      case hyu61n => exact rfl
      case hxu61n => exact rfl
      case hzu61n => exact (hv1.block _ (lt_of_block (show u9.drew.heap[w.heap.size]? = _ from HS9.out)) (by simp)).trans HS9.out
      case hfu61n => exact rfl
      case hnu61n => exact rfl
      case h1u61n => simp [allOne, Value.oneCell']
      intro v2 hb2 h2
      refine regx_next hK (Keeps.row h2 rfl) ?_
      clear hK K
      try simp only [Act.put]
      refine regx_take 21 (some 5) (v := ?_) rfl rfl (by kernel_rfl) (by kernel_rfl) (by kernel_rfl) (fun _ _ _ h => h) (by rfl) ?_ ?_
      rotate_left
      · intro W hW; go_simp; first | done | with_reducible rfl
      try simp only [Act.put, List.setIfInBounds_toArray, List.set_cons_zero, List.set_cons_succ]
      refine wpAnyH_done (by kernel_rfl) ?_ _
      have HB2 := Lib.hid hb2
      have HV2 := Lib.hid (grown_new (HG9.out.trans (drewl hv1)) h2 (Nat.le_refl _))
      have HV1 := Lib.hid (drewl hv1)
      have HS1 := Lib.hid (keep_blk hv1 HS9.out)
      have H2 := Lib.hid h2
      clear hv1 hb2 h2
      go_wp2
      refine bodyPost_ret (results_c25t rfl _ _ _ _ (by rfl) (by rfl) HB2.out) (by rfl) ?_
      exact bodyDo_ok (HAA.out ▸ HD.out ▸ HO.out) HM.out HQ9.out HV1.out HS1.out H2.out HV2.out HR9.out
  · go_simp
    have hn := heap_alloc_new (w.alloc (.cells rz.toArray 25)).drew (.cells rz.toArray 25); have hm := World.grownBy_alloc (w.alloc (.cells rz.toArray 25)).drew (.cells rz.toArray 25) none; have hx10 : w.heap.size + 1 ≤ (w.alloc (.cells rz.toArray 25)).drew.heap.size := (by first | simp | (have := hk54.size; simp at this; omega))
    refine regx_next hK (Keeps.keep hm) ?_
    clear hK K
    try simp only [Act.put, List.setIfInBounds_toArray, List.set_cons_zero, List.set_cons_succ]
    refine wpAnyH_ready (rs := [8]) (by kernel_rfl) (by simp) ?_
    refine (AllReadyH.cons (o := { dst := some 50, op := Op.buildSlice 23 0 #[], type := 23, pos := "ref.go:127", after := #[], guard := none }) rfl (fun K hK => ?_) AllReadyH.nil)
    go_simp
    have hn5 := Gs.empty ((w.alloc (.cells rz.toArray 25)).drew.alloc (.cells rz.toArray 25)); simp at hn5; have hm5 := World.grownBy_alloc ((w.alloc (.cells rz.toArray 25)).drew.alloc (.cells rz.toArray 25)) (.cells #[] 5) none; have hz5 := heap_alloc_new ((w.alloc (.cells rz.toArray 25)).drew.alloc (.cells rz.toArray 25)) (.cells #[] 5); have hx5 : w.heap.size + 1 ≤ ((w.alloc (.cells rz.toArray 25)).drew.alloc (.cells rz.toArray 25)).heap.size := (by simp)
    refine regx_next hK (Keeps.keep hm5) ?_
    clear hK K
    try simp only [Act.put, List.setIfInBounds_toArray, List.set_cons_zero, List.set_cons_succ]
    refine wpAnyH_ready (rs := [12]) (by kernel_rfl) (by simp) ?_
    refine (AllReadyH.cons (o := { dst := some 54, op := Op.call { callee := Callee.builtin Builtin.append, args := #[Operand.tmp 50, Operand.tmp 53], argTypes := #[23, 23] }, type := 23, pos := "ref.go:127", after := #[{ on := 8, ground := Ground.data }, { on := 11, ground := Ground.data }], guard := none }) rfl (fun K hK => ?_) AllReadyH.nil)
    first | refine wp_gs eB 23 (.tmp 50) (.tmp 53) rfl (.slice (some ⟨w.heap.size + 1, 0, none⟩) 0 0) _ 0 m [] (bsV v0) (by rfl) (by rfl) ?ggu66 (src_gon (c := c3) HM.out ?gsu66) HONE.out (by have := HM1.out; omega) ?_ | refine wp_gs eB 23 (.tmp 50) (.tmp 53) rfl (.slice (some ⟨w.heap.size + 1 + 1, 0, none⟩) 0 0) _ 0 m [] (bsV v0) (by rfl) (by rfl) ?ggu66 (src_gon (c := c3) HM.out ?gsu66) HONE.out (by have := HM1.out; omega) ?_
    case ggu66 => first | exact hn5 | exact hn5.keptNone ⟨rfl, rfl, rfl, by simp, fun k hk _ => heap_alloc_old _ _ (by simpa using hk)⟩
    case gsu66 => exact HS3.out.keptNone (drewl (Keeps.toGrown (X := fun k => w.heap.size + 1 ≤ k) ((Keeps.keep hm).trans (Keeps.keep hm5)) (by intro i hi; simp at hi ⊢; omega)))
    intro v4 u4 hQ4 hg4 hr4
    obtain ⟨a4, c4, hv4, _⟩ := hQ4.shape
    rw [Nat.zero_add] at hv4
    subst hv4
    first | have hk54 : World.grownBy _ u4 (some (w.heap.size + 1)) := hg4 | have hk54 : World.grownBy _ u4 (some (w.heap.size + 1 + 1)) := hg4
    refine regx_next hK (Keeps.of hk54 (fun r e => by cases e; first | exact hx5 | (simp <;> omega))) ?_
    clear hK K
    try simp only [Act.put, List.setIfInBounds_toArray, List.set_cons_zero, List.set_cons_succ]
    refine regx_take 13 (some 55) (v := ?_) rfl rfl (by kernel_rfl) (by kernel_rfl) (by kernel_rfl) (fun _ _ _ h => h) (by rfl) ?_ ?_
    rotate_left
    · intro W hW; go_simp; first | done | with_reducible rfl
    try simp only [Act.put, List.setIfInBounds_toArray, List.set_cons_zero, List.set_cons_succ]
    refine wpAnyH_ready (rs := [15]) (by kernel_rfl) (by simp) ?_
    refine (AllReadyH.cons (o := { dst := none, op := Op.store 25 (Operand.tmp 10) (Operand.tmp 55), type := 0, pos := "ref.go:127", after := #[{ on := 14, ground := Ground.data }, { on := 13, ground := Ground.data }, { on := 12, ground := Ground.chain }, { on := 0, ground := Ground.phase }, { on := 1, ground := Ground.phase }, { on := 2, ground := Ground.phase }, { on := 3, ground := Ground.phase }, { on := 4, ground := Ground.phase }, { on := 5, ground := Ground.phase }, { on := 6, ground := Ground.phase }, { on := 7, ground := Ground.phase }, { on := 8, ground := Ground.phase }, { on := 9, ground := Ground.phase }, { on := 10, ground := Ground.phase }, { on := 11, ground := Ground.phase }, { on := 12, ground := Ground.phase }, { on := 13, ground := Ground.phase }, { on := 14, ground := Ground.phase }], guard := none }) rfl (fun K hK => ?_) AllReadyH.nil)
    first | have hz9 : (u4.alloc (.cells rz.toArray 25)).heap[u4.heap.size]? = some (.cells rz.toArray 25 (0, 0)) := hn | have hz9 : u4.heap[w.heap.size + 1 + 1]? = some (.cells rz.toArray 25 (0, 0)) := (by have hz7 := hn; rw [show ((w.alloc (.cells rz.toArray 25)).drew.alloc (.cells #[] 5)).heap.size = w.heap.size + 1 + 1 from (World.size_alloc _ _).trans (congrArg (· + 1) (World.size_alloc w _))] at hz7; exact (hk54.block _ (by simp) (by simp)).trans hz7) | have hz9 : u4.heap[w.heap.size + 1]? = some (.cells rz.toArray 25 (0, 0)) := (by have hz7 := keep_blk hm5 hn; rw [show (w.alloc (.cells rz.toArray 25)).drew.heap.size = w.heap.size + 1 from World.size_alloc w _] at hz7; exact (hk54.block _ (by simp) (by simp)).trans hz7)
    refine wp_store_all 25 _ _ rfl ?bu68 ?csu68 ?hxu68 ?hyu68 rz 25 ?hzu68 ?hfu68 4 ?hnu68 Try.size25 ?h1u68 ?_
    case hyu68 => exact rfl
    case hxu68 => exact rfl
    case hzu68 => exact hz9
    case hfu68 => exact rfl
    case hnu68 => exact rfl
    case h1u68 => simp [allOne, Value.oneCell']
    intro u9 hb9 h9
    refine regx_next hK (Keeps.row h9 (by first | exact hx10 | (simp <;> omega))) ?_
    clear hK K
    try simp only [Act.put]
    refine wpAnyH_done (by kernel_rfl) ?_ _
    have hk9 : Keeps (fun k => w.heap.size + 1 ≤ k) (w.alloc (.cells rz.toArray 25)).drew u9 := ((Keeps.keep hm).trans ((Keeps.keep hm5).trans ((Keeps.of hk54 (fun r e => by cases e; first | exact hx5 | (simp <;> omega))).trans (Keeps.row h9 (by first | exact hx10 | (simp <;> omega))))))
    have HQ9 := Lib.hid (gs_end hQ4 (by first | exact World.grownBy.refl _ _ | exact World.grownBy_alloc _ _ _) hz9 h9)
    have HR9 := Lib.hid (show ∀ k, rowOf (.slice a4 m c4) = some k → w.heap.size ≤ k from fun k hk => by rcases hr4 with h | h <;> (rw [h] at hk; cases hk; simp <;> omega))
    have HB9 := Lib.hid hb9
    have HBN := Lib.hid (nb (S := w.heap.size) hb9 (by first | (simp <;> omega) | (have := hx10; omega)))
    have HS9 := Lib.hid ((hk9.block w.heap.size (by simp) (by simp)).trans HR0.out)
    have HG9 := Lib.hid (HG0.out.trans (drewl (hk9.toGrown (by intro i hi; simp at hi ⊢; omega))))
    have HKC9 := Lib.hid (keeps_cell hk9 (show (w.alloc (.cells rz.toArray 25)).drew.cell? ⟨b, o, none⟩ = some (.int .u8 (d : Int)) from HKC.out) (by have := HBK.out; simp; omega))
    clear hk9 hQ4 hr4 hb9 h9 hk54 hg4 hz9 hn hm hn5 hm5 hz5 hx5 hx10
    go_wp2
    refine regx_open (fun k => k = w.heap.size) (n := 22) rfl (by kernel_rfl) ?_
    refine regx_take 0 (some 56) (v := ?_) rfl rfl (by kernel_rfl) (by kernel_rfl) (by kernel_rfl) (fun _ _ _ h => h) (by rfl) ?_ ?_
    rotate_left
    · intro W hW; refine exec_ld25 (x := .tmp 10) ?_ ?_ (((hW).block _ (lt_of_block HB9.out) HBN.out).trans HB9.out) <;> rfl
    try simp only [Act.put, List.setIfInBounds_toArray, List.set_cons_zero, List.set_cons_succ]
    refine regx_take 1 (some 57) (v := ?_) rfl rfl (by kernel_rfl) (by kernel_rfl) (by kernel_rfl) (fun _ _ _ h => h) (by rfl) ?_ ?_
    rotate_left
    · intro W hW; refine exec_ld25 (x := .tmp 10) ?_ ?_ (((hW).block _ (lt_of_block HB9.out) HBN.out).trans HB9.out) <;> rfl
    try simp only [Act.put, List.setIfInBounds_toArray, List.set_cons_zero, List.set_cons_succ]
    refine wpAnyH_ready (rs := [2]) (by kernel_rfl) (by simp) ?_
    refine (AllReadyH.cons (o := { dst := some 58, op := Op.call { callee := Callee.value (Operand.func 12), args := #[Operand.tmp 57], argTypes := #[25] }, type := 4, pos := "ref.go:128", after := #[{ on := 1, ground := Ground.data }], guard := none }) rfl (fun K hK => ?_) AllReadyH.nil)
    go_simp
    refine (rright_any A d n0 a4 m c4 _).mono ?_; rintro e v1 ⟨rfl, hv1⟩
    simp only [hRt]
    refine regx_next hK (Keeps.keep hv1) ?_
    clear hK K
    try simp only [Act.put, List.setIfInBounds_toArray, List.set_cons_zero, List.set_cons_succ]
    refine regx_take 3 (some 59) (v := ?_) rfl rfl (by kernel_rfl) (by kernel_rfl) (by kernel_rfl) (fun _ _ _ h => h) (by rfl) ?_ ?_
    rotate_left
    · intro W hW; go_simp; first | done | with_reducible rfl
    try simp only [Act.put, List.setIfInBounds_toArray, List.set_cons_zero, List.set_cons_succ]
    refine regx_take 4 (some 60) (v := ?_) rfl rfl (by kernel_rfl) (by kernel_rfl) (by kernel_rfl) (fun _ _ _ h => h) (by rfl) ?_ ?_
    rotate_left
    · intro W hW; go_simp; first | done | with_reducible rfl
    try simp only [Act.put, List.setIfInBounds_toArray, List.set_cons_zero, List.set_cons_succ]
    refine regx_take 5 (some 61) (v := ?_) rfl rfl (by kernel_rfl) (by kernel_rfl) (by kernel_rfl) (fun _ _ _ h => h) (by rfl) ?_ ?_
    rotate_left
    · intro W hW; go_simp; first | done | with_reducible rfl
    try simp only [Act.put, List.setIfInBounds_toArray, List.set_cons_zero, List.set_cons_succ]
    refine regx_take 6 (some 62) (v := ?_) rfl rfl (by kernel_rfl) (by kernel_rfl) (by kernel_rfl) (fun _ _ _ h => h) (by rfl) ?_ ?_
    rotate_left
    · intro W hW; have k := keeps_cell ((Keeps.keep hv1).trans hW) (show u9.drew.cell? ⟨b, o, none⟩ = some (.int .u8 (d : Int)) from HKC9.out) (by have := HBK.out; simp; omega); go_simp; first | done | with_reducible rfl
    try simp only [Act.put, List.setIfInBounds_toArray, List.set_cons_zero, List.set_cons_succ]
    refine regx_take 7 (some 63) (v := ?_) rfl rfl (by kernel_rfl) (by kernel_rfl) (by kernel_rfl) (fun _ _ _ h => h) (by rfl) ?_ ?_
    rotate_left
    · intro W hW; go_simp; first | done | with_reducible rfl
    try simp only [Act.put, List.setIfInBounds_toArray, List.set_cons_zero, List.set_cons_succ]
    refine regx_take 8 (some 64) (v := ?_) rfl rfl (by kernel_rfl) (by kernel_rfl) (by kernel_rfl) (fun _ _ _ h => h) (by rfl) ?_ ?_
    rotate_left
    · intro W hW; go_simp; first | done | with_reducible rfl
    try simp only [Act.put, List.setIfInBounds_toArray, List.set_cons_zero, List.set_cons_succ]
    refine regx_take 9 (some 65) (v := ?_) rfl rfl (by kernel_rfl) (by kernel_rfl) (by kernel_rfl) (fun _ _ _ h => h) (by rfl) ?_ ?_
    rotate_left
    · intro W hW; go_simp; first | done | with_reducible rfl
    try simp only [Act.put, List.setIfInBounds_toArray, List.set_cons_zero, List.set_cons_succ]
    refine regx_take 10 (some 66) (v := ?_) rfl rfl (by kernel_rfl) (by kernel_rfl) (by kernel_rfl) (fun _ _ _ h => h) (by rfl) ?_ ?_
    rotate_left
    · intro W hW; go_simp; first | done | with_reducible rfl
    try simp only [Act.put, List.setIfInBounds_toArray, List.set_cons_zero, List.set_cons_succ]
    refine regx_take 11 (some 67) (v := ?_) rfl rfl (by kernel_rfl) (by kernel_rfl) (by kernel_rfl) (fun _ _ _ h => h) (by rfl) ?_ ?_
    rotate_left
    · intro W hW; go_simp; first | done | with_reducible rfl
    try simp only [Act.put, List.setIfInBounds_toArray, List.set_cons_zero, List.set_cons_succ]
    refine regx_take 12 (some 68) (v := ?_) rfl rfl (by kernel_rfl) (by kernel_rfl) (by kernel_rfl) (fun _ _ _ h => h) (by rfl) ?_ ?_
    rotate_left
    · intro W hW; go_simp; first | done | with_reducible rfl
    try simp only [Act.put, List.setIfInBounds_toArray, List.set_cons_zero, List.set_cons_succ]
    refine regx_take 13 (some 69) (v := ?_) rfl rfl (by kernel_rfl) (by kernel_rfl) (by kernel_rfl) (fun _ _ _ h => h) (by rfl) ?_ ?_
    rotate_left
    · intro W hW; go_simp; first | done | with_reducible rfl
    try simp only [Act.put, List.setIfInBounds_toArray, List.set_cons_zero, List.set_cons_succ]
    refine regx_take 14 (some 70) (v := ?_) rfl rfl (by kernel_rfl) (by kernel_rfl) (by kernel_rfl) (fun _ _ _ h => h) (by rfl) ?_ ?_
    rotate_left
    · intro W hW; go_simp; first | done | with_reducible rfl
    try simp only [Act.put, List.setIfInBounds_toArray, List.set_cons_zero, List.set_cons_succ]
    refine regx_take 15 (some 71) (v := ?_) rfl rfl (by kernel_rfl) (by kernel_rfl) (by kernel_rfl) (fun _ _ _ h => h) (by rfl) ?_ ?_
    rotate_left
    · intro W hW; have k := keeps_cell ((Keeps.keep hv1).trans hW) (show u9.drew.cell? _ = some (.slice a4 m c4) from cells_all HB9.out 3) HBN.out; go_simp; first | done | with_reducible rfl
    try simp only [Act.put, List.setIfInBounds_toArray, List.set_cons_zero, List.set_cons_succ]
    refine regx_take 16 (some 72) (v := ?_) rfl rfl (by kernel_rfl) (by kernel_rfl) (by kernel_rfl) (fun _ _ _ h => h) (by rfl) ?_ ?_
    rotate_left
    · intro W hW; go_simp; first | done | with_reducible rfl
    try simp only [Act.put, List.setIfInBounds_toArray, List.set_cons_zero, List.set_cons_succ]
    refine regx_take 17 (some 73) (v := ?_) rfl rfl (by kernel_rfl) (by kernel_rfl) (by kernel_rfl) (fun _ _ _ h => h) (by rfl) ?_ ?_
    rotate_left
    · intro W hW; go_simp; first | done | with_reducible rfl
    try simp only [Act.put, List.setIfInBounds_toArray, List.set_cons_zero, List.set_cons_succ]
    refine regx_take 18 (some 74) (v := ?_) rfl rfl (by kernel_rfl) (by kernel_rfl) (by kernel_rfl) (fun _ _ _ h => h) (by rfl) ?_ ?_
    rotate_left
    · intro W hW; go_simp; first | done | with_reducible rfl
    try simp only [Act.put, List.setIfInBounds_toArray, List.set_cons_zero, List.set_cons_succ]
    refine regx_take 19 (some 75) (v := ?_) rfl rfl (by kernel_rfl) (by kernel_rfl) (by kernel_rfl) (fun _ _ _ h => h) (by rfl) ?_ ?_
    rotate_left
    · intro W hW; go_simp; first | done | with_reducible rfl
    try simp only [Act.put, List.setIfInBounds_toArray, List.set_cons_zero, List.set_cons_succ]
    refine wpAnyH_ready (rs := [20]) (by kernel_rfl) (by simp) ?_
    refine (AllReadyH.cons (o := { dst := none, op := Op.store 25 (Operand.tmp 4) (Operand.tmp 56), type := 0, pos := "ref.go:128", after := #[{ on := 0, ground := Ground.data }, { on := 13, ground := Ground.chain }, { on := 0, ground := Ground.phase }, { on := 1, ground := Ground.textOnly Departure.lateStores }, { on := 2, ground := Ground.textOnly Departure.lateStoresUnsure }, { on := 3, ground := Ground.textOnly Departure.lateStores }, { on := 4, ground := Ground.textOnly Departure.lateStores }, { on := 5, ground := Ground.textOnly Departure.lateStores }, { on := 6, ground := Ground.textOnly Departure.lateStores }, { on := 7, ground := Ground.textOnly Departure.lateStores }, { on := 8, ground := Ground.textOnly Departure.lateStores }, { on := 9, ground := Ground.textOnly Departure.lateStores }, { on := 10, ground := Ground.textOnly Departure.lateStores }, { on := 11, ground := Ground.textOnly Departure.lateStores }, { on := 12, ground := Ground.textOnly Departure.lateStores }, { on := 13, ground := Ground.textOnly Departure.lateStores }, { on := 14, ground := Ground.textOnly Departure.lateStores }, { on := 15, ground := Ground.textOnly Departure.lateStores }, { on := 16, ground := Ground.textOnly Departure.lateStoresUnsure }, { on := 17, ground := Ground.textOnly Departure.lateStores }, { on := 18, ground := Ground.textOnly Departure.lateStores }, { on := 19, ground := Ground.textOnly Departure.lateStores }], guard := none }) rfl (fun K hK => ?_) AllReadyH.nil)
    refine wp_store_all 25 _ _ rfl w.heap.size ?csu70n ?hxu70n ?hyu70n rz 25 ?hzu70n ?hfu70n 4 ?hnu70n Try.size25 ?h1u70n ?_
    case hyu70n => exact rfl
    case hxu70n => exact rfl
    case hzu70n => exact (hv1.block _ (lt_of_block (show u9.drew.heap[w.heap.size]? = _ from HS9.out)) (by simp)).trans HS9.out
    case hfu70n => exact rfl
    case hnu70n => exact rfl
    case h1u70n => simp [allOne, Value.oneCell']
    intro v2 hb2 h2
    refine regx_next hK (Keeps.row h2 rfl) ?_
    clear hK K
    try simp only [Act.put]
    refine regx_take 21 (some 5) (v := ?_) rfl rfl (by kernel_rfl) (by kernel_rfl) (by kernel_rfl) (fun _ _ _ h => h) (by rfl) ?_ ?_
    rotate_left
    · intro W hW; go_simp; first | done | with_reducible rfl
    try simp only [Act.put, List.setIfInBounds_toArray, List.set_cons_zero, List.set_cons_succ]
    refine wpAnyH_done (by kernel_rfl) ?_ _
    have HB2 := Lib.hid hb2
    have HV2 := Lib.hid (grown_new (HG9.out.trans (drewl hv1)) h2 (Nat.le_refl _))
    have HV1 := Lib.hid (drewl hv1)
    have HS1 := Lib.hid (keep_blk hv1 HS9.out)
    have H2 := Lib.hid h2
    clear hv1 hb2 h2
    go_wp2
    refine bodyPost_ret (results_c25t rfl _ _ _ _ (by rfl) (by rfl) HB2.out) (by rfl) ?_
    exact bodyDo_ok (HAA.out ▸ HD.out ▸ HO.out) HM.out HQ9.out HV1.out HS1.out H2.out HV2.out HR9.out
end Go.Proofs.Ytpoifobhbmhelaa
