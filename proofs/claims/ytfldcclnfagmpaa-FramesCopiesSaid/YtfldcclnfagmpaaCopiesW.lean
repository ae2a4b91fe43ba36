import Derived.Test.YtfldcclnfagmpaaAgainW
import Derived.Test.YtfldcclnfagmpaaReg
namespace Go.Proofs.Ytfldcclnfagmpaa
open Go.RowKit
theorem read_nil (addr : Nat) (width : Int) (w : World) : Calls Try.prog 13 #[.pointer none, .int .u32 addr, .int .i64 width] w fun e w' => e = .returned (.tuple #[.int .u32 0, .int .i64 1]) ∧ w.grownBy w' none := by
  have hmf := mkFunc
  have hg0 := World.grownBy_alloc w (.cells #[.int .u32 0] 23) none
  have hv0 : (w.alloc (.cells #[.int .u32 0] 23)).heap[w.heap.size]? = some (.cells #[.int .u32 0] 23 (0, 0)) := heap_alloc_new _ _
  have HG := Lib.hid hg0
  have HV := Lib.hid hv0
  clear hg0 hv0
  go_enter Try.func13, Try.ntmps13
  go_wp2_with fail
  refine (access_nil addr width _ _).mono ?_; rintro e w1 ⟨rfl, hg1⟩
  have hc1 := cell_of_one ((hg1.block _ (lt_of_block HV.out) (by simp)).trans HV.out)
  go_wp2
  go_ret2
  exact ⟨rfl, HG.out.trans hg1⟩
theorem write_nil (addr v : Nat) (width : Int) (w : World) : Calls Try.prog 18 #[.pointer none, .int .u32 addr, .int .i64 width, .int .u32 v] w fun e w' => e = .returned (.int .i64 1) ∧ w.grownBy w' none := by
  have hmf := mkFunc
  have HG := Lib.hid (World.grownBy_alloc w (.cells #[.int .u32 v] 23) none)
  go_enter Try.func18, Try.ntmps18
  go_wp2_with fail
  refine (access_nil addr width _ _).mono ?_; rintro e w1 ⟨rfl, hg1⟩
  go_wp2
  go_ret
  exact ⟨rfl, HG.out.trans hg1⟩
theorem load_nil (addr : Nat) (w : World) : Calls Try.prog 23 #[.pointer none, .int .u32 addr, .slice none 0 0] w fun e w' => e = .returned (.int .i64 1) ∧ w.grownBy w' none := by
  have HG := Lib.hid (World.grownBy_alloc w (.cells #[.slice none 0 0] 22) none)
  go_enter Try.func23, Try.ntmps23
  go_wp2_with fail
  refine (none_nil _).mono ?_; rintro e w' ⟨rfl, rfl⟩
  go_wp2
  go_ret
  exact ⟨rfl, HG.out⟩

set_option maxRecDepth 100000 in
set_option maxHeartbeats 8000000 in
theorem framesCopies_walk (a : Option Addr) (n cap : Nat) (l : List UInt8) (pages width : Int) (addr v : Nat) (w : World) (hn : n = l.length) (hs : Src w a l) (hm : n ≤ 9223372036854775807) (ha : addr < 4294967296) (hw : (Lit.int .i64 width).wf = true) :
    Calls Try.prog 9 #[.slice a n cap, .int .i64 pages, .agg #[.int .u32 addr, .int .i64 width, .int .u32 v]] w fun e w' => e = .returned (.bool true) ∧ w.grownBy w' none := by
  subst hn
  have hg0 := World.grownBy_alloc w (.cells #[.int .u32 addr, .int .i64 width, .int .u32 v] 25) none
  by_cases hbig : 3000 < l.length
  · have hb' : (3000 : Int) < l.length := by omega
    have H0 := Lib.hid hg0
    clear hg0
    go_enter Try.func9, Try.ntmps9
    go_wp2_with (go_at_call 10; refine (works_any _).mono ?_; rintro e w1 ⟨rfl, hg1⟩)
    go_ret
    exact ⟨rfl, H0.out.trans hg1⟩
  obtain ⟨hp1, hp2, hp3⟩ := pageN_facts pages
  have C1 := paged_any a cap l pages _ (hs.keptNone hg0) (by omega)
  rw [← pagedL_length l pages] at C1 hp1 hp2 hp3
  obtain ⟨was, hwas⟩ : ∃ was, was = pagedL l pages := ⟨_, rfl⟩
  rw [← hwas] at C1 hp1 hp2 hp3
  have H0 := Lib.hid hg0
  have HA := Lib.hid (heap_alloc_new w (.cells #[.int .u32 addr, .int .i64 width, .int .u32 v] 25))
  have hne : was ≠ [] := fun e => by subst e; simp at hp1
  clear hg0 hwas
  have hb' : ¬ (3000 : Int) < l.length := by omega
  go_enter Try.func9, Try.ntmps9
  go_wp2_with fail
  refine C1.mono ?_; rintro e w1 ⟨gw, rfl, hgw, hrow, hg1⟩
  clear C1
  have HX := Lib.hid (hg1.block w.heap.size (by simp) (by simp))
  go_wp2_with fail
  refine (of_good gw 0 was.length was.length was rfl w1 hrow.src hp1 hp2 hp3).mono ?_; rintro e w2 ⟨B, g, rfl, hB, hg, hF, hg2⟩
  have hsz1 : w.heap.size < w1.heap.size := by have := hg1.size; simp at this; omega
  go_wp2_with fail
  refine (copy_any B g was w2 hF (by omega) hne).mono ?_; rintro e w3 ⟨B', g', rfl, hB', hg', hF', hg3⟩
  go_wp2_with fail
  refine (same_any B g B' g' was was w3 (hF.keptNone hg3) hF').mono ?_; rintro e w3' ⟨rfl, nd, rfl⟩
  have hbb : (was == was) = true := by simp
  have hg3' := drewNr hg3 nd
  obtain ⟨w4, hw4⟩ : ∃ w4, w4 = w3.drewN nd := ⟨_, rfl⟩
  have hF4' : Fr w4 B' g' was := by rw [hw4]; exact hF'
  rw [← hw4] at hg3' ⊢
  have hF4 := hF.keptNone hg3'
  have hFB := hF.ltB
  have hFg := hF.ltg
  have hFB' : w2.heap.size ≤ B' := hB'
  have hx : w4.heap[w.heap.size]? = some (.cells #[.int .u32 addr, .int .i64 width, .int .u32 v] 25 (0, 0)) := (hg3'.block _ (Nat.lt_of_lt_of_le hsz1 hg2.size) (by simp)).trans ((hg2.block _ hsz1 (by simp)).trans (HX.out.trans HA.out))
  have hx0 : w4.cell? ⟨w.heap.size, 0, none⟩ = some (.int .u32 addr) := by simp [World.cell?, hx]
  have hx1 : w4.cell? ⟨w.heap.size, 1, none⟩ = some (.int .i64 width) := by simp [World.cell?, hx]
  have hx2 : w4.cell? ⟨w.heap.size, 2, none⟩ = some (.int .u32 v) := by simp [World.cell?, hx]
  clear hw4 hF hF'
  go_wp2_with fail
  refine (write_any B g addr v width was w4 hF4 hp3 hp2 ha hw).mono ?_; rintro e w5 ⟨rfl, hF5, hg5⟩
  have hC5 : Fr w5 B' g' was := hF4'.kept hg5 (by simp; omega) (by simp; omega)
  have hrow5 : Row w5 gw was was.length := ((hrow.kept hg2 (by simp)).kept hg3' (by simp)).kept hg5 (by have := hrow.lt; simp; omega)
  have hgr5 : w.grownBy w5 none := grown_new (H0.out.trans (hg1.trans (hg2.trans hg3'))) hg5 (by simp at hgw; omega)
  have hwl : (writeS was addr width v).length = was.length := by unfold writeS; split <;> simp [wrL_length]
  obtain ⟨bl, hbl⟩ : ∃ bl, bl = writeS was addr width v := ⟨_, rfl⟩
  rw [← hbl] at hF5 hwl
  have hblne : bl ≠ [] := fun e => by rw [e] at hwl; simp at hwl; omega
  have hbl2 : bl.length ≤ 2048 := by omega
  have HWL := Lib.hid hwl
  clear hbl hwl hx0 hx1 hx2 hx
  go_wp2_with fail
  refine (bytes_any B g bl w5 hF5 (by omega) hblne).mono ?_; rintro e w6 ⟨gx, cx, rfl, hgx, hrx, hg6⟩
  have kx := conv_src (cap := cx) hrx.src
  go_wp2_with fail
  go_loopw [14] (fun i wr => ∃ (k : Nat) (lm : List UInt8), k ≤ bl.length ∧ lm.length = bl.length ∧ i = .int .i64 k ∧ Row wr gx lm cx ∧ w6.grownBy wr (some gx)) (fun i _ => bl.length - (intOf i).toNat)
  case atStart => exact ⟨0, bl, Nat.zero_le _, rfl, rfl, hrx, World.grownBy.refl _ _⟩
  case round =>
    obtain ⟨k, lm, hk, hlm, rfl, hrow6, hg7⟩ := hrel
    clear kx
    by_cases hlt : k < bl.length
    · have hcell := hrow6.cell k (by omega)
      have hfz := hrow6.frozen k
      have hbx := lm[k].toNat_lt
      generalize hxx : lm[k]'(by omega) = x at *
      clear hxx
      go_wp2
      go_roundw
      case rel =>
        have := hrow6.set k (x + 1)
        have e : (((x + 1).toNat : Nat) : Int) = ((x.toNat : Int) + 1) % 256 := by simp [UInt8.toNat_add]
        rw [e] at this
        exact ⟨k + 1, lm.set k (x + 1), by omega, by simpa using hlm, by go_num, this, hg7.trans (grown_setCell _ _ _ _)⟩
      case measure => simp [intOf]; omega
    · obtain rfl : k = bl.length := by omega
      have hgr7 : w.grownBy wr none := grown_new (hgr5.trans hg6) hg7 (Nat.le_trans hgr5.size hgx)
      have hF7 : Fr wr B g bl := (hF5.keptNone hg6).kept hg7 (by have := hF5.ltB; simp; omega) (by have := hF5.ltg; simp; omega)
      have hC7 : Fr wr B' g' was := (hC5.keptNone hg6).kept hg7 (by have := hC5.ltB; simp; omega) (by have := hC5.ltg; simp; omega)
      have hrow7 : Row wr gw was was.length := (hrow5.kept hg6 (by simp)).kept hg7 (by have := hrow5.lt; simp; omega)
      clear hrow6
      go_wp2_with fail
      refine (read_nil 0 1 wr).mono ?_; rintro e w8 ⟨rfl, hg8⟩
      go_wp2_with fail
      refine (new_good 32 w8 (by omega) (by omega)).mono ?_; rintro e w9 ⟨Bw, gww, rfl, hBw, hgww, hFw, hg9⟩
      go_wp2_with fail
      refine (new_good 31 w9 (by omega) (by omega)).mono ?_; rintro e w10 ⟨Bs, gs, rfl, hBs, hgs, hFs, hg10⟩
      have hg810 := hg8.trans (hg9.trans hg10)
      obtain ⟨bw, hbw0⟩ : ∃ bw : List UInt8, bw = List.replicate ((32 : Int).toNat * 64) 0 := ⟨_, rfl⟩
      obtain ⟨bs, hbs0⟩ : ∃ bs : List UInt8, bs = List.replicate ((31 : Int).toNat * 64) 0 := ⟨_, rfl⟩
      rw [← hbw0] at hFw
      rw [← hbs0] at hFs
      have hws : (bw == bs) = false := by
        have : bw ≠ bs := fun e => by have := congrArg List.length e; rw [hbw0, hbs0, List.length_replicate, List.length_replicate] at this; exact absurd this (by decide)
        simpa using this
      clear hbw0 hbs0
      have hd := drewr (hgr7.trans hg810)
      have hFd : Fr w10.drew B g bl := hF7.keptNone (drewr hg810)
      have hCd : Fr w10.drew B' g' was := hC7.keptNone (drewr hg810)
      have hrowd : Row w10.drew gw was was.length := hrow7.kept (drewr (row := none) hg810) (by simp)
      have hWd : Fr w10.drew Bw gww bw := hFw.keptNone (drewr hg10)
      have hSd : Fr w10.drew Bs gs bs := hFs
      go_wp2_with fail
      as_aux_lemma =>
      refine reg_open (none) (n := 90) rfl (by kernel_rfl) ?_
      refine reg_take 0 (some 78) (v := ?_) rfl rfl (by kernel_rfl) (by kernel_rfl) (by kernel_rfl) (fun _ _ _ h => h) (by rfl) ?_ ?_
      rotate_left
      · intro W hW; go_simp; first | done | with_reducible rfl
      try simp only [Act.put, List.setIfInBounds_toArray, List.set_cons_zero, List.set_cons_succ]
      refine wpAnyH_ready (rs := [1]) (by kernel_rfl) (by simp) ?_
      refine AllReadyH.cons (o := { dst := some 79, op := Op.call { callee := Callee.value (Operand.func 15), args := #[Operand.tmp 78], argTypes := #[29] }, type := 3, pos := "law.go:128", after := #[{ on := 0, ground := Ground.data }], guard := none }) rfl (fun K hK => ?_) AllReadyH.nil
      go_simp
      refine (num_any _ _).mono ?_; rintro e w' ⟨rfl, rfl⟩
      refine reg_same hK ?_
      clear hK K
      try simp only [Act.put, List.setIfInBounds_toArray, List.set_cons_zero, List.set_cons_succ]
      refine reg_take 2 (some 80) (v := ?_) rfl rfl (by kernel_rfl) (by kernel_rfl) (by kernel_rfl) (fun _ _ _ h => h) (by rfl) ?_ ?_
      rotate_left
      · intro W hW; go_simp; first | done | with_reducible rfl
      try simp only [Act.put, List.setIfInBounds_toArray, List.set_cons_zero, List.set_cons_succ]
      refine reg_take 3 (some 81) (v := ?_) rfl rfl (by kernel_rfl) (by kernel_rfl) (by kernel_rfl) (fun _ _ _ h => h) (by rfl) ?_ ?_
      rotate_left
      · intro W hW; go_simp; first | done | with_reducible rfl
      try simp only [Act.put, List.setIfInBounds_toArray, List.set_cons_zero, List.set_cons_succ]
      refine reg_take 4 (some 82) (v := ?_) rfl rfl (by kernel_rfl) (by kernel_rfl) (by kernel_rfl) (fun _ _ _ h => h) (by rfl) ?_ ?_
      rotate_left
      · intro W hW; go_simp; first | done | with_reducible rfl
      try simp only [Act.put, List.setIfInBounds_toArray, List.set_cons_zero, List.set_cons_succ]
      refine reg_take 5 (some 83) (v := ?_) rfl rfl (by kernel_rfl) (by kernel_rfl) (by kernel_rfl) (fun _ _ _ h => h) (by rfl) ?_ ?_
      rotate_left
      · intro W hW; go_simp; first | done | with_reducible rfl
      try simp only [Act.put, List.setIfInBounds_toArray, List.set_cons_zero, List.set_cons_succ]
      refine reg_take 6 (some 84) (v := ?_) rfl rfl (by kernel_rfl) (by kernel_rfl) (by kernel_rfl) (fun _ _ _ h => h) (by rfl) ?_ ?_
      rotate_left
      · intro W hW; go_simp; first | done | with_reducible rfl
      try simp only [Act.put, List.setIfInBounds_toArray, List.set_cons_zero, List.set_cons_succ]
      refine reg_take 7 (some 85) (v := ?_) rfl rfl (by kernel_rfl) (by kernel_rfl) (by kernel_rfl) (fun _ _ _ h => h) (by rfl) ?_ ?_
      rotate_left
      · intro W hW; go_simp; first | done | with_reducible rfl
      try simp only [Act.put, List.setIfInBounds_toArray, List.set_cons_zero, List.set_cons_succ]
      refine reg_take 10 (some 88) (v := ?_) rfl rfl (by kernel_rfl) (by kernel_rfl) (by kernel_rfl) (fun _ _ _ h => h) (by rfl) ?_ ?_
      rotate_left
      · intro W hW; go_simp; first | done | with_reducible rfl
      try simp only [Act.put, List.setIfInBounds_toArray, List.set_cons_zero, List.set_cons_succ]
      refine reg_take 11 (some 89) (v := ?_) rfl rfl (by kernel_rfl) (by kernel_rfl) (by kernel_rfl) (fun _ _ _ h => h) (by rfl) ?_ ?_
      rotate_left
      · intro W hW; have k1 := conv_src (cap := was.length) (hrowd.kept hW (by simp)).src; go_simp; first | done | with_reducible rfl
      try simp only [Act.put, List.setIfInBounds_toArray, List.set_cons_zero, List.set_cons_succ]
      refine wpAnyH_ready (rs := [8]) (by kernel_rfl) (by simp) ?_
      refine AllReadyH.cons (o := { dst := some 86, op := Op.call { callee := Callee.value (Operand.func 20), args := #[Operand.tmp 85], argTypes := #[28] }, type := 22, pos := "law.go:128", after := #[{ on := 7, ground := Ground.data }, { on := 6, ground := Ground.chain }, { on := 6, ground := Ground.guard }], guard := some (6, true) }) rfl (fun K hK => ?_) AllReadyH.nil
      go_simp
      refine (bytes_any B' g' was _ hCd (by omega) hne).mono ?_; rintro e u1 ⟨q1, d1, rfl, hq1, r1, h1⟩; have e1 := hd.trans h1
      refine reg_next hK h1 ?_
      clear hK K
      try simp only [Act.put, List.setIfInBounds_toArray, List.set_cons_zero, List.set_cons_succ]
      as_aux_lemma =>
      refine reg_take 9 (some 87) (v := ?_) rfl rfl (by kernel_rfl) (by kernel_rfl) (by kernel_rfl) (fun _ _ _ h => h) (by rfl) ?_ ?_
      rotate_left
      · intro W hW; have k1 := conv_src (cap := d1) (r1.kept hW (by simp)).src; go_simp; first | done | with_reducible rfl
      try simp only [Act.put, List.setIfInBounds_toArray, List.set_cons_zero, List.set_cons_succ]
      refine reg_take 12 (some 90) (v := ?_) rfl rfl (by kernel_rfl) (by kernel_rfl) (by kernel_rfl) (fun _ _ _ h => h) (by rfl) ?_ ?_
      rotate_left
      · intro W hW; go_simp; first | done | with_reducible rfl
      try simp only [Act.put, List.setIfInBounds_toArray, List.set_cons_zero, List.set_cons_succ]
      refine reg_take 13 (some 91) (v := ?_) rfl rfl (by kernel_rfl) (by kernel_rfl) (by kernel_rfl) (fun _ _ _ h => h) (by rfl) ?_ ?_
      rotate_left
      · intro W hW; go_simp; first | done | with_reducible rfl
      try simp only [Act.put, List.setIfInBounds_toArray, List.set_cons_zero, List.set_cons_succ]
      refine reg_take 14 (some 92) (v := ?_) rfl rfl (by kernel_rfl) (by kernel_rfl) (by kernel_rfl) (fun _ _ _ h => h) (by rfl) ?_ ?_
      rotate_left
      · intro W hW; go_simp; first | done | with_reducible rfl
      try simp only [Act.put, List.setIfInBounds_toArray, List.set_cons_zero, List.set_cons_succ]
      refine reg_take 15 (some 93) (v := ?_) rfl rfl (by kernel_rfl) (by kernel_rfl) (by kernel_rfl) (fun _ _ _ h => h) (by rfl) ?_ ?_
      rotate_left
      · intro W hW; go_simp; first | done | with_reducible rfl
      try simp only [Act.put, List.setIfInBounds_toArray, List.set_cons_zero, List.set_cons_succ]
      refine reg_take 18 (some 96) (v := ?_) rfl rfl (by kernel_rfl) (by kernel_rfl) (by kernel_rfl) (fun _ _ _ h => h) (by rfl) ?_ ?_
      rotate_left
      · intro W hW; go_simp; first | done | with_reducible rfl
      try simp only [Act.put, List.setIfInBounds_toArray, List.set_cons_zero, List.set_cons_succ]
      refine wpAnyH_ready (rs := [16]) (by kernel_rfl) (by simp) ?_
      refine AllReadyH.cons (o := { dst := some 94, op := Op.call { callee := Callee.value (Operand.func 20), args := #[Operand.tmp 93], argTypes := #[28] }, type := 22, pos := "law.go:128", after := #[{ on := 15, ground := Ground.data }, { on := 14, ground := Ground.chain }, { on := 14, ground := Ground.guard }], guard := some (14, true) }) rfl (fun K hK => ?_) AllReadyH.nil
      go_simp
      refine (bytes_any B g bl _ (hFd.keptNone h1) (by omega) hblne).mono ?_; rintro e u2 ⟨q2, d2, rfl, hq2, r2, h2⟩; have e2 := e1.trans h2; have h12 := h1.trans h2
      refine reg_next hK h2 ?_
      clear hK K
      try simp only [Act.put, List.setIfInBounds_toArray, List.set_cons_zero, List.set_cons_succ]
      refine reg_take 17 (some 95) (v := ?_) rfl rfl (by kernel_rfl) (by kernel_rfl) (by kernel_rfl) (fun _ _ _ h => h) (by rfl) ?_ ?_
      rotate_left
      · intro W hW; have k1 := conv_src (cap := d2) (r2.kept hW (by simp)).src; go_simp; first | done | with_reducible rfl
      try simp only [Act.put, List.setIfInBounds_toArray, List.set_cons_zero, List.set_cons_succ]
      refine reg_take 19 (some 97) (v := ?_) rfl rfl (by kernel_rfl) (by kernel_rfl) (by kernel_rfl) (fun _ _ _ h => h) (by rfl) ?_ ?_
      rotate_left
      · intro W hW; go_simp; first | done | with_reducible rfl
      try simp only [Act.put, List.setIfInBounds_toArray, List.set_cons_zero, List.set_cons_succ]
      refine reg_take 20 (some 98) (v := ?_) rfl rfl (by kernel_rfl) (by kernel_rfl) (by kernel_rfl) (fun _ _ _ h => h) (by rfl) ?_ ?_
      rotate_left
      · intro W hW; go_simp; first | done | with_reducible rfl
      try simp only [Act.put, List.setIfInBounds_toArray, List.set_cons_zero, List.set_cons_succ]
      refine reg_take 21 (some 99) (v := ?_) rfl rfl (by kernel_rfl) (by kernel_rfl) (by kernel_rfl) (fun _ _ _ h => h) (by rfl) ?_ ?_
      rotate_left
      · intro W hW; go_simp; first | done | with_reducible rfl
      try simp only [Act.put, List.setIfInBounds_toArray, List.set_cons_zero, List.set_cons_succ]
      refine reg_take 22 (some 100) (v := ?_) rfl rfl (by kernel_rfl) (by kernel_rfl) (by kernel_rfl) (fun _ _ _ h => h) (by rfl) ?_ ?_
      rotate_left
      · intro W hW; go_simp; first | done | with_reducible rfl
      try simp only [Act.put, List.setIfInBounds_toArray, List.set_cons_zero, List.set_cons_succ]
      refine reg_take 23 (some 101) (v := ?_) rfl rfl (by kernel_rfl) (by kernel_rfl) (by kernel_rfl) (fun _ _ _ h => h) (by rfl) ?_ ?_
      rotate_left
      · intro W hW; go_simp; first | done | with_reducible rfl
      try simp only [Act.put, List.setIfInBounds_toArray, List.set_cons_zero, List.set_cons_succ]
      refine reg_take 25 (some 103) (v := ?_) rfl rfl (by kernel_rfl) (by kernel_rfl) (by kernel_rfl) (fun _ _ _ h => h) (by rfl) ?_ ?_
      rotate_left
      · intro W hW; go_simp; first | done | with_reducible rfl
      try simp only [Act.put, List.setIfInBounds_toArray, List.set_cons_zero, List.set_cons_succ]
      refine reg_take 26 (some 104) (v := ?_) rfl rfl (by kernel_rfl) (by kernel_rfl) (by kernel_rfl) (fun _ _ _ h => h) (by rfl) ?_ ?_
      rotate_left
      · intro W hW; go_simp; first | done | with_reducible rfl
      try simp only [Act.put, List.setIfInBounds_toArray, List.set_cons_zero, List.set_cons_succ]
      refine reg_take 27 (some 105) (v := ?_) rfl rfl (by kernel_rfl) (by kernel_rfl) (by kernel_rfl) (fun _ _ _ h => h) (by rfl) ?_ ?_
      rotate_left
      · intro W hW; have k1 := conv_src (cap := was.length) (hrowd.kept (h12.trans hW) (by simp)).src; go_simp; first | done | with_reducible rfl
      try simp only [Act.put, List.setIfInBounds_toArray, List.set_cons_zero, List.set_cons_succ]
      refine reg_take 28 (some 106) (v := ?_) rfl rfl (by kernel_rfl) (by kernel_rfl) (by kernel_rfl) (fun _ _ _ h => h) (by rfl) ?_ ?_
      rotate_left
      · intro W hW; go_simp; first | done | with_reducible rfl
      try simp only [Act.put, List.setIfInBounds_toArray, List.set_cons_zero, List.set_cons_succ]
      refine wpAnyH_ready (rs := [24]) (by kernel_rfl) (by simp) ?_
      refine AllReadyH.cons (o := { dst := some 102, op := Op.call { callee := Callee.value (Operand.func 26), args := #[Operand.tmp 100, Operand.tmp 101], argTypes := #[28, 28] }, type := 4, pos := "law.go:128", after := #[{ on := 22, ground := Ground.data }, { on := 23, ground := Ground.data }, { on := 21, ground := Ground.chain }, { on := 21, ground := Ground.guard }], guard := some (21, true) }) rfl (fun K hK => ?_) AllReadyH.nil
      go_simp
      refine (same_any B g B' g' bl was _ (hFd.keptNone h12) (hCd.keptNone h12)).mono ?_; rintro e u3 ⟨rfl, n3, rfl⟩; have h13 := drewNr h12 n3; have e3 := drewNr e2 n3
      refine reg_next hK (drewNr (World.grownBy.refl _ _) n3) ?_
      clear hK K
      try simp only [Act.put, List.setIfInBounds_toArray, List.set_cons_zero, List.set_cons_succ]
      as_aux_lemma =>
      refine reg_take 29 (some 107) (v := ?_) rfl rfl (by kernel_rfl) (by kernel_rfl) (by kernel_rfl) (fun _ _ _ h => h) (by rfl) ?_ ?_
      rotate_left
      · intro W hW; go_simp; first | done | with_reducible rfl
      try simp only [Act.put, List.setIfInBounds_toArray, List.set_cons_zero, List.set_cons_succ]
      refine reg_take 30 (some 108) (v := ?_) rfl rfl (by kernel_rfl) (by kernel_rfl) (by kernel_rfl) (fun _ _ _ h => h) (by rfl) ?_ ?_
      rotate_left
      · intro W hW; go_simp; first | done | with_reducible rfl
      try simp only [Act.put, List.setIfInBounds_toArray, List.set_cons_zero, List.set_cons_succ]
      refine reg_take 31 (some 109) (v := ?_) rfl rfl (by kernel_rfl) (by kernel_rfl) (by kernel_rfl) (fun _ _ _ h => h) (by rfl) ?_ ?_
      rotate_left
      · intro W hW; go_simp; first | done | with_reducible rfl
      try simp only [Act.put, List.setIfInBounds_toArray, List.set_cons_zero, List.set_cons_succ]
      refine reg_take 32 (some 110) (v := ?_) rfl rfl (by kernel_rfl) (by kernel_rfl) (by kernel_rfl) (fun _ _ _ h => h) (by rfl) ?_ ?_
      rotate_left
      · intro W hW; go_simp; first | done | with_reducible rfl
      try simp only [Act.put, List.setIfInBounds_toArray, List.set_cons_zero, List.set_cons_succ]
      refine wpAnyH_ready (rs := [33]) (by kernel_rfl) (by simp) ?_
      refine AllReadyH.cons (o := { dst := some 111, op := Op.call { callee := Callee.value (Operand.func 15), args := #[Operand.tmp 110], argTypes := #[29] }, type := 3, pos := "law.go:128", after := #[{ on := 32, ground := Ground.data }, { on := 31, ground := Ground.chain }, { on := 31, ground := Ground.guard }], guard := some (31, true) }) rfl (fun K hK => ?_) AllReadyH.nil
      go_simp
      refine (num_any _ _).mono ?_; rintro e w' ⟨rfl, rfl⟩
      refine reg_same hK ?_
      clear hK K
      try simp only [Act.put, List.setIfInBounds_toArray, List.set_cons_zero, List.set_cons_succ]
      refine reg_take 34 (some 112) (v := ?_) rfl rfl (by kernel_rfl) (by kernel_rfl) (by kernel_rfl) (fun _ _ _ h => h) (by rfl) ?_ ?_
      rotate_left
      · intro W hW; go_simp; first | done | with_reducible rfl
      try simp only [Act.put, List.setIfInBounds_toArray, List.set_cons_zero, List.set_cons_succ]
      refine reg_take 35 (some 113) (v := ?_) rfl rfl (by kernel_rfl) (by kernel_rfl) (by kernel_rfl) (fun _ _ _ h => h) (by rfl) ?_ ?_
      rotate_left
      · intro W hW; go_simp; first | done | with_reducible rfl
      try simp only [Act.put, List.setIfInBounds_toArray, List.set_cons_zero, List.set_cons_succ]
      refine reg_take 36 (some 114) (v := ?_) rfl rfl (by kernel_rfl) (by kernel_rfl) (by kernel_rfl) (fun _ _ _ h => h) (by rfl) ?_ ?_
      rotate_left
      · intro W hW; go_simp; first | done | with_reducible rfl
      try simp only [Act.put, List.setIfInBounds_toArray, List.set_cons_zero, List.set_cons_succ]
      refine reg_take 37 (some 115) (v := ?_) rfl rfl (by kernel_rfl) (by kernel_rfl) (by kernel_rfl) (fun _ _ _ h => h) (by rfl) ?_ ?_
      rotate_left
      · intro W hW; go_simp; first | done | with_reducible rfl
      try simp only [Act.put, List.setIfInBounds_toArray, List.set_cons_zero, List.set_cons_succ]
      refine wpAnyH_ready (rs := [38]) (by kernel_rfl) (by simp) ?_
      refine AllReadyH.cons (o := { dst := some 116, op := Op.call { callee := Callee.value (Operand.func 18), args := #[Operand.tmp 115, Operand.const (Value.int IntKind.u32 0), Operand.const (Value.int IntKind.i64 1), Operand.const (Value.int IntKind.u32 0)], argTypes := #[28, 23, 3, 23] }, type := 29, pos := "law.go:128", after := #[{ on := 37, ground := Ground.data }, { on := 36, ground := Ground.chain }, { on := 36, ground := Ground.guard }], guard := some (36, true) }) rfl (fun K hK => ?_) AllReadyH.nil
      go_simp
      refine (write_nil 0 0 1 _).mono ?_; rintro e u4 ⟨rfl, h4⟩; have h14 := h13.trans h4; have e4 := e3.trans h4
      refine reg_next hK h4 ?_
      clear hK K
      try simp only [Act.put, List.setIfInBounds_toArray, List.set_cons_zero, List.set_cons_succ]
      as_aux_lemma =>
      refine wpAnyH_ready (rs := [39]) (by kernel_rfl) (by simp) ?_
      refine AllReadyH.cons (o := { dst := some 117, op := Op.call { callee := Callee.value (Operand.func 15), args := #[Operand.tmp 116], argTypes := #[29] }, type := 3, pos := "law.go:128", after := #[{ on := 38, ground := Ground.data }, { on := 38, ground := Ground.chain }, { on := 36, ground := Ground.guard }], guard := some (36, true) }) rfl (fun K hK => ?_) AllReadyH.nil
      go_simp
      refine (num_any _ _).mono ?_; rintro e w' ⟨rfl, rfl⟩
      refine reg_same hK ?_
      clear hK K
      try simp only [Act.put, List.setIfInBounds_toArray, List.set_cons_zero, List.set_cons_succ]
      refine reg_take 40 (some 118) (v := ?_) rfl rfl (by kernel_rfl) (by kernel_rfl) (by kernel_rfl) (fun _ _ _ h => h) (by rfl) ?_ ?_
      rotate_left
      · intro W hW; go_simp; first | done | with_reducible rfl
      try simp only [Act.put, List.setIfInBounds_toArray, List.set_cons_zero, List.set_cons_succ]
      refine reg_take 41 (some 119) (v := ?_) rfl rfl (by kernel_rfl) (by kernel_rfl) (by kernel_rfl) (fun _ _ _ h => h) (by rfl) ?_ ?_
      rotate_left
      · intro W hW; go_simp; first | done | with_reducible rfl
      try simp only [Act.put, List.setIfInBounds_toArray, List.set_cons_zero, List.set_cons_succ]
      refine reg_take 42 (some 120) (v := ?_) rfl rfl (by kernel_rfl) (by kernel_rfl) (by kernel_rfl) (fun _ _ _ h => h) (by rfl) ?_ ?_
      rotate_left
      · intro W hW; go_simp; first | done | with_reducible rfl
      try simp only [Act.put, List.setIfInBounds_toArray, List.set_cons_zero, List.set_cons_succ]
      refine reg_take 43 (some 121) (v := ?_) rfl rfl (by kernel_rfl) (by kernel_rfl) (by kernel_rfl) (fun _ _ _ h => h) (by rfl) ?_ ?_
      rotate_left
      · intro W hW; go_simp; first | done | with_reducible rfl
      try simp only [Act.put, List.setIfInBounds_toArray, List.set_cons_zero, List.set_cons_succ]
      refine wpAnyH_ready (rs := [44]) (by kernel_rfl) (by simp) ?_
      refine AllReadyH.cons (o := { dst := some 122, op := Op.call { callee := Callee.value (Operand.func 23), args := #[Operand.tmp 121, Operand.const (Value.int IntKind.u32 0), Operand.const (Value.slice none 0 0)], argTypes := #[28, 23, 22] }, type := 29, pos := "law.go:128", after := #[{ on := 43, ground := Ground.data }, { on := 42, ground := Ground.chain }, { on := 42, ground := Ground.guard }], guard := some (42, true) }) rfl (fun K hK => ?_) AllReadyH.nil
      go_simp
      refine (load_nil 0 _).mono ?_; rintro e u5 ⟨rfl, h5⟩; have h15 := h14.trans h5; have e5 := e4.trans h5
      refine reg_next hK h5 ?_
      clear hK K
      try simp only [Act.put, List.setIfInBounds_toArray, List.set_cons_zero, List.set_cons_succ]
      as_aux_lemma =>
      refine wpAnyH_ready (rs := [45]) (by kernel_rfl) (by simp) ?_
      refine AllReadyH.cons (o := { dst := some 123, op := Op.call { callee := Callee.value (Operand.func 15), args := #[Operand.tmp 122], argTypes := #[29] }, type := 3, pos := "law.go:128", after := #[{ on := 44, ground := Ground.data }, { on := 44, ground := Ground.chain }, { on := 42, ground := Ground.guard }], guard := some (42, true) }) rfl (fun K hK => ?_) AllReadyH.nil
      go_simp
      refine (num_any _ _).mono ?_; rintro e w' ⟨rfl, rfl⟩
      refine reg_same hK ?_
      clear hK K
      try simp only [Act.put, List.setIfInBounds_toArray, List.set_cons_zero, List.set_cons_succ]
      refine reg_take 46 (some 124) (v := ?_) rfl rfl (by kernel_rfl) (by kernel_rfl) (by kernel_rfl) (fun _ _ _ h => h) (by rfl) ?_ ?_
      rotate_left
      · intro W hW; go_simp; first | done | with_reducible rfl
      try simp only [Act.put, List.setIfInBounds_toArray, List.set_cons_zero, List.set_cons_succ]
      refine reg_take 47 (some 125) (v := ?_) rfl rfl (by kernel_rfl) (by kernel_rfl) (by kernel_rfl) (fun _ _ _ h => h) (by rfl) ?_ ?_
      rotate_left
      · intro W hW; go_simp; first | done | with_reducible rfl
      try simp only [Act.put, List.setIfInBounds_toArray, List.set_cons_zero, List.set_cons_succ]
      refine reg_take 48 (some 126) (v := ?_) rfl rfl (by kernel_rfl) (by kernel_rfl) (by kernel_rfl) (fun _ _ _ h => h) (by rfl) ?_ ?_
      rotate_left
      · intro W hW; go_simp; first | done | with_reducible rfl
      try simp only [Act.put, List.setIfInBounds_toArray, List.set_cons_zero, List.set_cons_succ]
      refine reg_take 49 (some 127) (v := ?_) rfl rfl (by kernel_rfl) (by kernel_rfl) (by kernel_rfl) (fun _ _ _ h => h) (by rfl) ?_ ?_
      rotate_left
      · intro W hW; go_simp; first | done | with_reducible rfl
      try simp only [Act.put, List.setIfInBounds_toArray, List.set_cons_zero, List.set_cons_succ]
      refine wpAnyH_ready (rs := [50]) (by kernel_rfl) (by simp) ?_
      refine AllReadyH.cons (o := { dst := some 128, op := Op.call { callee := Callee.value (Operand.func 21), args := #[Operand.tmp 127], argTypes := #[28] }, type := 3, pos := "law.go:128", after := #[{ on := 49, ground := Ground.data }, { on := 48, ground := Ground.chain }, { on := 48, ground := Ground.guard }], guard := some (48, true) }) rfl (fun K hK => ?_) AllReadyH.nil
      go_simp
      refine (size_nil _).mono ?_; rintro e w' ⟨rfl, rfl⟩
      refine reg_same hK ?_
      clear hK K
      try simp only [Act.put, List.setIfInBounds_toArray, List.set_cons_zero, List.set_cons_succ]
      as_aux_lemma =>
      refine reg_take 51 (some 129) (v := ?_) rfl rfl (by kernel_rfl) (by kernel_rfl) (by kernel_rfl) (fun _ _ _ h => h) (by rfl) ?_ ?_
      rotate_left
      · intro W hW; go_simp; first | done | with_reducible rfl
      try simp only [Act.put, List.setIfInBounds_toArray, List.set_cons_zero, List.set_cons_succ]
      refine reg_take 52 (some 130) (v := ?_) rfl rfl (by kernel_rfl) (by kernel_rfl) (by kernel_rfl) (fun _ _ _ h => h) (by rfl) ?_ ?_
      rotate_left
      · intro W hW; go_simp; first | done | with_reducible rfl
      try simp only [Act.put, List.setIfInBounds_toArray, List.set_cons_zero, List.set_cons_succ]
      refine reg_take 53 (some 131) (v := ?_) rfl rfl (by kernel_rfl) (by kernel_rfl) (by kernel_rfl) (fun _ _ _ h => h) (by rfl) ?_ ?_
      rotate_left
      · intro W hW; go_simp; first | done | with_reducible rfl
      try simp only [Act.put, List.setIfInBounds_toArray, List.set_cons_zero, List.set_cons_succ]
      refine reg_take 54 (some 132) (v := ?_) rfl rfl (by kernel_rfl) (by kernel_rfl) (by kernel_rfl) (fun _ _ _ h => h) (by rfl) ?_ ?_
      rotate_left
      · intro W hW; go_simp; first | done | with_reducible rfl
      try simp only [Act.put, List.setIfInBounds_toArray, List.set_cons_zero, List.set_cons_succ]
      refine wpAnyH_ready (rs := [55]) (by kernel_rfl) (by simp) ?_
      refine AllReadyH.cons (o := { dst := some 133, op := Op.call { callee := Callee.value (Operand.func 20), args := #[Operand.tmp 132], argTypes := #[28] }, type := 22, pos := "law.go:128", after := #[{ on := 54, ground := Ground.data }, { on := 53, ground := Ground.chain }, { on := 53, ground := Ground.guard }], guard := some (53, true) }) rfl (fun K hK => ?_) AllReadyH.nil
      go_simp
      refine (bytes_nil _).mono ?_; rintro e w' ⟨rfl, rfl⟩
      refine reg_same hK ?_
      clear hK K
      try simp only [Act.put, List.setIfInBounds_toArray, List.set_cons_zero, List.set_cons_succ]
      refine reg_take 56 (some 134) (v := ?_) rfl rfl (by kernel_rfl) (by kernel_rfl) (by kernel_rfl) (fun _ _ _ h => h) (by rfl) ?_ ?_
      rotate_left
      · intro W hW; go_simp; first | done | with_reducible rfl
      try simp only [Act.put, List.setIfInBounds_toArray, List.set_cons_zero, List.set_cons_succ]
      refine reg_take 57 (some 135) (v := ?_) rfl rfl (by kernel_rfl) (by kernel_rfl) (by kernel_rfl) (fun _ _ _ h => h) (by rfl) ?_ ?_
      rotate_left
      · intro W hW; go_simp; first | done | with_reducible rfl
      try simp only [Act.put, List.setIfInBounds_toArray, List.set_cons_zero, List.set_cons_succ]
      refine reg_take 58 (some 136) (v := ?_) rfl rfl (by kernel_rfl) (by kernel_rfl) (by kernel_rfl) (fun _ _ _ h => h) (by rfl) ?_ ?_
      rotate_left
      · intro W hW; go_simp; first | done | with_reducible rfl
      try simp only [Act.put, List.setIfInBounds_toArray, List.set_cons_zero, List.set_cons_succ]
      refine reg_take 59 (some 137) (v := ?_) rfl rfl (by kernel_rfl) (by kernel_rfl) (by kernel_rfl) (fun _ _ _ h => h) (by rfl) ?_ ?_
      rotate_left
      · intro W hW; go_simp; first | done | with_reducible rfl
      try simp only [Act.put, List.setIfInBounds_toArray, List.set_cons_zero, List.set_cons_succ]
      refine reg_take 60 (some 138) (v := ?_) rfl rfl (by kernel_rfl) (by kernel_rfl) (by kernel_rfl) (fun _ _ _ h => h) (by rfl) ?_ ?_
      rotate_left
      · intro W hW; go_simp; first | done | with_reducible rfl
      try simp only [Act.put, List.setIfInBounds_toArray, List.set_cons_zero, List.set_cons_succ]
      refine wpAnyH_ready (rs := [61]) (by kernel_rfl) (by simp) ?_
      refine AllReadyH.cons (o := { dst := some 139, op := Op.call { callee := Callee.value (Operand.func 25), args := #[Operand.tmp 138], argTypes := #[28] }, type := 28, pos := "law.go:128", after := #[{ on := 60, ground := Ground.data }, { on := 59, ground := Ground.chain }, { on := 59, ground := Ground.guard }], guard := some (59, true) }) rfl (fun K hK => ?_) AllReadyH.nil
      go_simp
      refine (copy_nil _).mono ?_; rintro e w' ⟨rfl, rfl⟩
      refine reg_same hK ?_
      clear hK K
      try simp only [Act.put, List.setIfInBounds_toArray, List.set_cons_zero, List.set_cons_succ]
      as_aux_lemma =>
      refine reg_take 62 (some 140) (v := ?_) rfl rfl (by kernel_rfl) (by kernel_rfl) (by kernel_rfl) (fun _ _ _ h => h) (by rfl) ?_ ?_
      rotate_left
      · intro W hW; go_simp; first | done | with_reducible rfl
      try simp only [Act.put, List.setIfInBounds_toArray, List.set_cons_zero, List.set_cons_succ]
      refine reg_take 63 (some 141) (v := ?_) rfl rfl (by kernel_rfl) (by kernel_rfl) (by kernel_rfl) (fun _ _ _ h => h) (by rfl) ?_ ?_
      rotate_left
      · intro W hW; go_simp; first | done | with_reducible rfl
      try simp only [Act.put, List.setIfInBounds_toArray, List.set_cons_zero, List.set_cons_succ]
      refine reg_take 64 (some 142) (v := ?_) rfl rfl (by kernel_rfl) (by kernel_rfl) (by kernel_rfl) (fun _ _ _ h => h) (by rfl) ?_ ?_
      rotate_left
      · intro W hW; go_simp; first | done | with_reducible rfl
      try simp only [Act.put, List.setIfInBounds_toArray, List.set_cons_zero, List.set_cons_succ]
      refine reg_take 65 (some 143) (v := ?_) rfl rfl (by kernel_rfl) (by kernel_rfl) (by kernel_rfl) (fun _ _ _ h => h) (by rfl) ?_ ?_
      rotate_left
      · intro W hW; go_simp; first | done | with_reducible rfl
      try simp only [Act.put, List.setIfInBounds_toArray, List.set_cons_zero, List.set_cons_succ]
      refine wpAnyH_ready (rs := [66]) (by kernel_rfl) (by simp) ?_
      refine AllReadyH.cons (o := { dst := some 144, op := Op.call { callee := Callee.value (Operand.func 26), args := #[Operand.tmp 143, Operand.const (Value.pointer none)], argTypes := #[28, 28] }, type := 4, pos := "law.go:128", after := #[{ on := 65, ground := Ground.data }, { on := 64, ground := Ground.chain }, { on := 64, ground := Ground.guard }], guard := some (64, true) }) rfl (fun K hK => ?_) AllReadyH.nil
      go_simp
      refine (same_nn _).mono ?_; rintro e w' ⟨rfl, rfl⟩
      refine reg_same hK ?_
      clear hK K
      try simp only [Act.put, List.setIfInBounds_toArray, List.set_cons_zero, List.set_cons_succ]
      refine reg_take 67 (some 145) (v := ?_) rfl rfl (by kernel_rfl) (by kernel_rfl) (by kernel_rfl) (fun _ _ _ h => h) (by rfl) ?_ ?_
      rotate_left
      · intro W hW; go_simp; first | done | with_reducible rfl
      try simp only [Act.put, List.setIfInBounds_toArray, List.set_cons_zero, List.set_cons_succ]
      refine reg_take 68 (some 146) (v := ?_) rfl rfl (by kernel_rfl) (by kernel_rfl) (by kernel_rfl) (fun _ _ _ h => h) (by rfl) ?_ ?_
      rotate_left
      · intro W hW; go_simp; first | done | with_reducible rfl
      try simp only [Act.put, List.setIfInBounds_toArray, List.set_cons_zero, List.set_cons_succ]
      refine reg_take 69 (some 147) (v := ?_) rfl rfl (by kernel_rfl) (by kernel_rfl) (by kernel_rfl) (fun _ _ _ h => h) (by rfl) ?_ ?_
      rotate_left
      · intro W hW; go_simp; first | done | with_reducible rfl
      try simp only [Act.put, List.setIfInBounds_toArray, List.set_cons_zero, List.set_cons_succ]
      refine reg_take 70 (some 148) (v := ?_) rfl rfl (by kernel_rfl) (by kernel_rfl) (by kernel_rfl) (fun _ _ _ h => h) (by rfl) ?_ ?_
      rotate_left
      · intro W hW; go_simp; first | done | with_reducible rfl
      try simp only [Act.put, List.setIfInBounds_toArray, List.set_cons_zero, List.set_cons_succ]
      refine wpAnyH_ready (rs := [71]) (by kernel_rfl) (by simp) ?_
      refine AllReadyH.cons (o := { dst := some 149, op := Op.call { callee := Callee.value (Operand.func 26), args := #[Operand.tmp 147, Operand.tmp 148], argTypes := #[28, 28] }, type := 4, pos := "law.go:128", after := #[{ on := 69, ground := Ground.data }, { on := 70, ground := Ground.data }, { on := 68, ground := Ground.chain }, { on := 68, ground := Ground.guard }], guard := some (68, true) }) rfl (fun K hK => ?_) AllReadyH.nil
      go_simp
      refine (same_nf B g bl _ (hFd.keptNone h15)).mono ?_; rintro e w' ⟨rfl, rfl⟩
      refine reg_same hK ?_
      clear hK K
      try simp only [Act.put, List.setIfInBounds_toArray, List.set_cons_zero, List.set_cons_succ]
      as_aux_lemma =>
      refine reg_take 72 (some 150) (v := ?_) rfl rfl (by kernel_rfl) (by kernel_rfl) (by kernel_rfl) (fun _ _ _ h => h) (by rfl) ?_ ?_
      rotate_left
      · intro W hW; go_simp; first | done | with_reducible rfl
      try simp only [Act.put, List.setIfInBounds_toArray, List.set_cons_zero, List.set_cons_succ]
      refine reg_take 73 (some 151) (v := ?_) rfl rfl (by kernel_rfl) (by kernel_rfl) (by kernel_rfl) (fun _ _ _ h => h) (by rfl) ?_ ?_
      rotate_left
      · intro W hW; go_simp; first | done | with_reducible rfl
      try simp only [Act.put, List.setIfInBounds_toArray, List.set_cons_zero, List.set_cons_succ]
      refine reg_take 74 (some 152) (v := ?_) rfl rfl (by kernel_rfl) (by kernel_rfl) (by kernel_rfl) (fun _ _ _ h => h) (by rfl) ?_ ?_
      rotate_left
      · intro W hW; go_simp; first | done | with_reducible rfl
      try simp only [Act.put, List.setIfInBounds_toArray, List.set_cons_zero, List.set_cons_succ]
      refine reg_take 75 (some 153) (v := ?_) rfl rfl (by kernel_rfl) (by kernel_rfl) (by kernel_rfl) (fun _ _ _ h => h) (by rfl) ?_ ?_
      rotate_left
      · intro W hW; go_simp; first | done | with_reducible rfl
      try simp only [Act.put, List.setIfInBounds_toArray, List.set_cons_zero, List.set_cons_succ]
      refine reg_take 76 (some 154) (v := ?_) rfl rfl (by kernel_rfl) (by kernel_rfl) (by kernel_rfl) (fun _ _ _ h => h) (by rfl) ?_ ?_
      rotate_left
      · intro W hW; go_simp; first | done | with_reducible rfl
      try simp only [Act.put, List.setIfInBounds_toArray, List.set_cons_zero, List.set_cons_succ]
      refine wpAnyH_ready (rs := [77]) (by kernel_rfl) (by simp) ?_
      refine AllReadyH.cons (o := { dst := some 155, op := Op.call { callee := Callee.value (Operand.func 26), args := #[Operand.tmp 153, Operand.tmp 154], argTypes := #[28, 28] }, type := 4, pos := "law.go:128", after := #[{ on := 75, ground := Ground.data }, { on := 76, ground := Ground.data }, { on := 74, ground := Ground.chain }, { on := 74, ground := Ground.guard }], guard := some (74, true) }) rfl (fun K hK => ?_) AllReadyH.nil
      go_simp
      refine (same_fn B g bl _ (hFd.keptNone h15)).mono ?_; rintro e w' ⟨rfl, rfl⟩
      refine reg_same hK ?_
      clear hK K
      try simp only [Act.put, List.setIfInBounds_toArray, List.set_cons_zero, List.set_cons_succ]
      refine reg_take 78 (some 156) (v := ?_) rfl rfl (by kernel_rfl) (by kernel_rfl) (by kernel_rfl) (fun _ _ _ h => h) (by rfl) ?_ ?_
      rotate_left
      · intro W hW; go_simp; first | done | with_reducible rfl
      try simp only [Act.put, List.setIfInBounds_toArray, List.set_cons_zero, List.set_cons_succ]
      refine reg_take 79 (some 157) (v := ?_) rfl rfl (by kernel_rfl) (by kernel_rfl) (by kernel_rfl) (fun _ _ _ h => h) (by rfl) ?_ ?_
      rotate_left
      · intro W hW; go_simp; first | done | with_reducible rfl
      try simp only [Act.put, List.setIfInBounds_toArray, List.set_cons_zero, List.set_cons_succ]
      refine reg_take 80 (some 158) (v := ?_) rfl rfl (by kernel_rfl) (by kernel_rfl) (by kernel_rfl) (fun _ _ _ h => h) (by rfl) ?_ ?_
      rotate_left
      · intro W hW; go_simp; first | done | with_reducible rfl
      try simp only [Act.put, List.setIfInBounds_toArray, List.set_cons_zero, List.set_cons_succ]
      refine reg_take 81 (some 159) (v := ?_) rfl rfl (by kernel_rfl) (by kernel_rfl) (by kernel_rfl) (fun _ _ _ h => h) (by rfl) ?_ ?_
      rotate_left
      · intro W hW; go_simp; first | done | with_reducible rfl
      try simp only [Act.put, List.setIfInBounds_toArray, List.set_cons_zero, List.set_cons_succ]
      refine reg_take 82 (some 160) (v := ?_) rfl rfl (by kernel_rfl) (by kernel_rfl) (by kernel_rfl) (fun _ _ _ h => h) (by rfl) ?_ ?_
      rotate_left
      · intro W hW; go_simp; first | done | with_reducible rfl
      try simp only [Act.put, List.setIfInBounds_toArray, List.set_cons_zero, List.set_cons_succ]
      refine wpAnyH_ready (rs := [83]) (by kernel_rfl) (by simp) ?_
      refine AllReadyH.cons (o := { dst := some 161, op := Op.call { callee := Callee.value (Operand.func 26), args := #[Operand.tmp 159, Operand.tmp 160], argTypes := #[28, 28] }, type := 4, pos := "law.go:128", after := #[{ on := 81, ground := Ground.data }, { on := 82, ground := Ground.data }, { on := 80, ground := Ground.chain }, { on := 80, ground := Ground.guard }], guard := some (80, true) }) rfl (fun K hK => ?_) AllReadyH.nil
      go_simp
      refine (same_any Bw gww Bs gs bw bs _ (hWd.keptNone h15) (hSd.keptNone h15)).mono ?_; rintro e u6 ⟨rfl, n6, rfl⟩; have e6 := drewNr e5 n6
      refine reg_next hK (drewNr (World.grownBy.refl _ _) n6) ?_
      clear hK K
      try simp only [Act.put, List.setIfInBounds_toArray, List.set_cons_zero, List.set_cons_succ]
      as_aux_lemma =>
      refine reg_take 84 (some 162) (v := ?_) rfl rfl (by kernel_rfl) (by kernel_rfl) (by kernel_rfl) (fun _ _ _ h => h) (by rfl) ?_ ?_
      rotate_left
      · intro W hW; go_simp; first | done | with_reducible rfl
      try simp only [Act.put, List.setIfInBounds_toArray, List.set_cons_zero, List.set_cons_succ]
      refine reg_take 85 (some 163) (v := ?_) rfl rfl (by kernel_rfl) (by kernel_rfl) (by kernel_rfl) (fun _ _ _ h => h) (by rfl) ?_ ?_
      rotate_left
      · intro W hW; go_simp; first | done | with_reducible rfl
      try simp only [Act.put, List.setIfInBounds_toArray, List.set_cons_zero, List.set_cons_succ]
      refine reg_take 86 (some 164) (v := ?_) rfl rfl (by kernel_rfl) (by kernel_rfl) (by kernel_rfl) (fun _ _ _ h => h) (by rfl) ?_ ?_
      rotate_left
      · intro W hW; go_simp; first | done | with_reducible rfl
      try simp only [Act.put, List.setIfInBounds_toArray, List.set_cons_zero, List.set_cons_succ]
      refine wpAnyH_ready (rs := [87]) (by kernel_rfl) (by simp) ?_
      refine AllReadyH.cons (o := { dst := some 165, op := Op.call { callee := Callee.value (Operand.func 10), args := #[], argTypes := #[] }, type := 4, pos := "law.go:128", after := #[{ on := 86, ground := Ground.chain }, { on := 86, ground := Ground.guard }], guard := some (86, true) }) rfl (fun K hK => ?_) AllReadyH.nil
      go_simp
      refine (works_any _).mono ?_; rintro e u7 ⟨rfl, h7⟩; have e7 := e6.trans h7
      refine reg_next hK h7 ?_
      clear hK K
      try simp only [Act.put, List.setIfInBounds_toArray, List.set_cons_zero, List.set_cons_succ]
      refine reg_take 88 (some 166) (v := ?_) rfl rfl (by kernel_rfl) (by kernel_rfl) (by kernel_rfl) (fun _ _ _ h => h) (by rfl) ?_ ?_
      rotate_left
      · intro W hW; go_simp; first | done | with_reducible rfl
      try simp only [Act.put, List.setIfInBounds_toArray, List.set_cons_zero, List.set_cons_succ]
      refine reg_take 89 (some 6) (v := ?_) rfl rfl (by kernel_rfl) (by kernel_rfl) (by kernel_rfl) (fun _ _ _ h => h) (by rfl) ?_ ?_
      rotate_left
      · intro W hW; go_simp; first | done | with_reducible rfl
      try simp only [Act.put, List.setIfInBounds_toArray, List.set_cons_zero, List.set_cons_succ]
      refine wpAnyH_done (by kernel_rfl) ?_ _
      go_wp2
      go_ret
      exact ⟨rfl, e7⟩

theorem framesCopies_walk' (a : Option Addr) (n cap : Nat) (l : List UInt8) (pages width x y : Int) (w : World) (hn : n = l.length) (hs : Src w a l) (hm : n ≤ 9223372036854775807) (hx : (Lit.int .u32 x).wf = true) (hw : (Lit.int .i64 width).wf = true) (hy : (Lit.int .u32 y).wf = true) :
    Calls Try.prog 9 #[.slice a n cap, .int .i64 pages, .agg #[.int .u32 x, .int .i64 width, .int .u32 y]] w fun e w' => e = .returned (.bool true) ∧ w.grownBy w' none := by
  obtain ⟨addr, rfl, ha⟩ := wf_u32 hx
  obtain ⟨v, rfl, hv⟩ := wf_u32 hy
  exact framesCopies_walk a n cap l pages width addr v w hn hs hm ha hw

end Go.Proofs.Ytfldcclnfagmpaa
