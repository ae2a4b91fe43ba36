import Derived.Test.YtfldcclnfagmpaaReadsW
import Derived.Test.YtfldcclnfagmpaaReg
namespace Go.Proofs.Ytfldcclnfagmpaa
open Go.RowKit

set_option maxHeartbeats 2000000 in
theorem framesWrites_walk (a : Option Addr) (n cap : Nat) (l : List UInt8) (pages width : Int) (addr v : Nat) (w : World) (hn : n = l.length) (hs : Src w a l) (hm : n ≤ 9223372036854775807) (ha : addr < 4294967296) (hv : v < 4294967296) (hw : (Lit.int .i64 width).wf = true) :
    Calls Try.prog 6 #[.slice a n cap, .int .i64 pages, .agg #[.int .u32 addr, .int .i64 width, .int .u32 v]] w fun e w' => e = .returned (.bool true) ∧ w.grownBy w' none := by
  subst hn
  have hg0 := World.grownBy_alloc w (.cells #[.int .u32 addr, .int .i64 width, .int .u32 v] 25) none
  by_cases hbig : 3000 < l.length
  · have hb' : (3000 : Int) < l.length := by omega
    have H0 := Lib.hid hg0
    clear hg0
    go_enter Try.func6, Try.ntmps6
    go_wp2_with (go_at_call 10; refine (works_any _).mono ?_; rintro e w1 ⟨rfl, hg1⟩)
    go_ret
    exact ⟨rfl, H0.out.trans hg1⟩
  · obtain ⟨hp1, hp2, hp3⟩ := pageN_facts pages
    have C1 := paged_any a cap l pages _ (hs.keptNone hg0) (by omega)
    rw [← pagedL_length l pages] at C1 hp1 hp2 hp3
    obtain ⟨was, hwas⟩ : ∃ was, was = pagedL l pages := ⟨_, rfl⟩
    rw [← hwas] at C1 hp1 hp2 hp3
    have H0 := Lib.hid hg0
    have HA := Lib.hid (heap_alloc_new w (.cells #[.int .u32 addr, .int .i64 width, .int .u32 v] 25))
    have hne : was ≠ [] := fun e => by subst e; simp at hp1
    clear hg0 hwas
    have hb' : ¬ (3000 : Int) < l.length := by omega
    go_enter Try.func6, Try.ntmps6
    go_wp2_with fail
    refine C1.mono ?_; rintro e w1 ⟨gw, rfl, hgw, hrow, hg1⟩
    clear C1
    have HX := Lib.hid (hg1.block w.heap.size (by simp) (by simp))
    have hgw' : w.heap.size < gw := by simp at hgw; omega
    go_wp2_with fail
    refine (of_good gw 0 was.length was.length was rfl w1 hrow.src hp1 hp2 hp3).mono ?_; rintro e w2 ⟨B, g, rfl, hB, hg, hF, hg2⟩
    have hsz1 : w.heap.size < w1.heap.size := by have := hg1.size; simp at this; omega
    have hx : w2.heap[w.heap.size]? = some (.cells #[.int .u32 addr, .int .i64 width, .int .u32 v] 25 (0, 0)) := (hg2.block _ hsz1 (by simp)).trans (HX.out.trans HA.out)
    have hx0 : w2.cell? ⟨w.heap.size, 0, none⟩ = some (.int .u32 addr) := by simp [World.cell?, hx]
    have hx1 : w2.cell? ⟨w.heap.size, 1, none⟩ = some (.int .i64 width) := by simp [World.cell?, hx]
    have hx2 : w2.cell? ⟨w.heap.size, 2, none⟩ = some (.int .u32 v) := by simp [World.cell?, hx]
    go_wp2_with fail
    refine (write_any B g addr v width was w2 hF hp3 hp2 ha hw).mono ?_; rintro e w3 ⟨rfl, hF3, hg3⟩
    have hx3 : w3.heap[w.heap.size]? = some (.cells #[.int .u32 addr, .int .i64 width, .int .u32 v] 25 (0, 0)) := (hg3.block _ (lt_of_block hx) (by simp; omega)).trans hx
    have hx0 : w3.cell? ⟨w.heap.size, 0, none⟩ = some (.int .u32 addr) := by simp [World.cell?, hx3]
    have hx1 : w3.cell? ⟨w.heap.size, 1, none⟩ = some (.int .i64 width) := by simp [World.cell?, hx3]
    go_wp2_with fail
    refine (ref_refused _ was.length was.length addr width _ hp2 ha hw).mono ?_; rintro e w' ⟨rfl, rfl⟩
    have hgr : w.grownBy w3 none := (H0.out.trans hg1).trans (grown_new hg2 hg3 hg)
    have hrow3 : Row w3 gw was was.length := (hrow.kept hg2 (by simp)).kept hg3 (by have := hrow.lt; simp; omega)
    have hwl : (writeS was addr width v).length = was.length := by unfold writeS; split <;> simp [wrL_length]
    by_cases hno : refusedS was.length addr width = 0
    · obtain ⟨k, rfl, hk, _, hfit⟩ : ∃ k : Nat, width = k ∧ (k = 1 ∨ k = 4) ∧ addr % k = 0 ∧ addr + k ≤ was.length := by
        rcases refused_cases was.length addr width hp3 with ⟨hr, _⟩ | ⟨hr, _⟩ | ⟨k, h1, h2, h3, ⟨hr, _⟩ | ⟨hr, h4⟩⟩
        · omega
        · omega
        · omega
        · exact ⟨k, h1, h2, h3, h4⟩
      have hrs : writeS was addr k v = wrL was addr k v := by unfold writeS; rw [if_pos hno, Int.toNat_natCast]
      rw [hrs] at hF3
      rw [hno]
      have hnel : wrL was addr k v ≠ [] := fun e => by have := wrL_length was addr k v; rw [e] at this; simp at this; omega
      have hwl' := wrL_length was addr k v
      obtain ⟨bl, hbl⟩ : ∃ bl, bl = wrL was addr k v := ⟨_, rfl⟩
      have C5 : ∀ w4, w3.grownBy w4 none → Calls Try.prog 19 #[.slice (some ⟨gw, 0, none⟩) was.length was.length, .int .u32 addr, .int .i64 k, .int .u32 v] w4 fun e w' => ∃ g c, e = .returned (.slice (some ⟨g, 0, none⟩) bl.length c) ∧ w4.heap.size ≤ g ∧ Row w' g bl c ∧ w4.grownBy w' none := by
        intro w4 h4
        exact (ref_write gw 0 was.length was.length addr k v was w4 (hrow3.kept h4 (by simp)).src rfl hp2 hfit (by omega) (by omega) hv).mono fun e w' ⟨g, c, he, h1, h2, h3⟩ => ⟨g, c, by rw [he, hbl, hwl'], h1, by rw [hbl]; exact h2, h3⟩
      rw [← hbl] at hF3 hnel
      have hbl2 : bl.length ≤ 2048 := by rw [hbl, hwl']; exact hp2
      have HC5 := Lib.hid C5
      clear hrs hno hk hwl hwl' hbl C5 hx0 hx1
      go_wp2_with fail
      have hd0 : w3.grownBy w3.drew none := drewr (World.grownBy.refl _ _)
      have hcl : ∀ w4, w3.grownBy w4 none → w4.cell? ⟨w.heap.size, 0, none⟩ = some (.int .u32 addr) ∧ w4.cell? ⟨w.heap.size, 1, none⟩ = some (.int .i64 k) ∧ w4.cell? ⟨w.heap.size, 2, none⟩ = some (.int .u32 v) := fun w4 h4 => by
        have hx4 : w4.heap[w.heap.size]? = some (.cells #[.int .u32 addr, .int .i64 k, .int .u32 v] 25 (0, 0)) := (h4.block _ (lt_of_block hx3) (by simp)).trans hx3
        simp [World.cell?, hx4]
      have HCL := Lib.hid hcl
      clear hcl
      refine reg_open (none) (n := 27) rfl (by kernel_rfl) ?_
      refine reg_take 0 (some 60) (v := ?_) rfl rfl (by kernel_rfl) (by kernel_rfl) (by kernel_rfl) (fun _ _ _ h => h) (by rfl) ?_ ?_
      rotate_left
      · intro W hW; go_simp; first | done | with_reducible rfl
      try simp only [Act.put, List.setIfInBounds_toArray, List.set_cons_zero, List.set_cons_succ]
      refine wpAnyH_ready (rs := [1]) (by kernel_rfl) (by simp) ?_
      refine AllReadyH.cons (o := { dst := some 61, op := Op.call { callee := Callee.value (Operand.func 15), args := #[Operand.tmp 60], argTypes := #[29] }, type := 3, pos := "law.go:89", after := #[{ on := 0, ground := Ground.data }], guard := none }) rfl (fun K hK => ?_) AllReadyH.nil
      go_simp
      refine (num_any _ _).mono ?_; rintro e w' ⟨rfl, rfl⟩
      refine reg_same hK ?_
      clear hK K
      try simp only [Act.put, List.setIfInBounds_toArray, List.set_cons_zero, List.set_cons_succ]
      refine reg_take 2 (some 62) (v := ?_) rfl rfl (by kernel_rfl) (by kernel_rfl) (by kernel_rfl) (fun _ _ _ h => h) (by rfl) ?_ ?_
      rotate_left
      · intro W hW; go_simp; first | done | with_reducible rfl
      try simp only [Act.put, List.setIfInBounds_toArray, List.set_cons_zero, List.set_cons_succ]
      refine reg_take 3 (some 63) (v := ?_) rfl rfl (by kernel_rfl) (by kernel_rfl) (by kernel_rfl) (fun _ _ _ h => h) (by rfl) ?_ ?_
      rotate_left
      · intro W hW; go_simp; first | done | with_reducible rfl
      try simp only [Act.put, List.setIfInBounds_toArray, List.set_cons_zero, List.set_cons_succ]
      refine reg_take 4 (some 64) (v := ?_) rfl rfl (by kernel_rfl) (by kernel_rfl) (by kernel_rfl) (fun _ _ _ h => h) (by rfl) ?_ ?_
      rotate_left
      · intro W hW; go_simp; first | done | with_reducible rfl
      try simp only [Act.put, List.setIfInBounds_toArray, List.set_cons_zero, List.set_cons_succ]
      refine wpAnyH_ready (rs := [5]) (by kernel_rfl) (by simp) ?_
      refine AllReadyH.cons (o := { dst := some 65, op := Op.call { callee := Callee.value (Operand.func 15), args := #[Operand.tmp 64], argTypes := #[29] }, type := 3, pos := "law.go:89", after := #[{ on := 4, ground := Ground.data }, { on := 3, ground := Ground.chain }, { on := 3, ground := Ground.guard }], guard := some (3, true) }) rfl (fun K hK => ?_) AllReadyH.nil
      go_simp
      refine (num_any _ _).mono ?_; rintro e w' ⟨rfl, rfl⟩
      refine reg_same hK ?_
      clear hK K
      try simp only [Act.put, List.setIfInBounds_toArray, List.set_cons_zero, List.set_cons_succ]
      refine reg_take 6 (some 66) (v := ?_) rfl rfl (by kernel_rfl) (by kernel_rfl) (by kernel_rfl) (fun _ _ _ h => h) (by rfl) ?_ ?_
      rotate_left
      · intro W hW; go_simp; first | done | with_reducible rfl
      try simp only [Act.put, List.setIfInBounds_toArray, List.set_cons_zero, List.set_cons_succ]
      refine reg_take 7 (some 67) (v := ?_) rfl rfl (by kernel_rfl) (by kernel_rfl) (by kernel_rfl) (fun _ _ _ h => h) (by rfl) ?_ ?_
      rotate_left
      · intro W hW; go_simp; first | done | with_reducible rfl
      try simp only [Act.put, List.setIfInBounds_toArray, List.set_cons_zero, List.set_cons_succ]
      refine reg_take 8 (some 68) (v := ?_) rfl rfl (by kernel_rfl) (by kernel_rfl) (by kernel_rfl) (fun _ _ _ h => h) (by rfl) ?_ ?_
      rotate_left
      · intro W hW; go_simp; first | done | with_reducible rfl
      try simp only [Act.put, List.setIfInBounds_toArray, List.set_cons_zero, List.set_cons_succ]
      refine reg_take 9 (some 69) (v := ?_) rfl rfl (by kernel_rfl) (by kernel_rfl) (by kernel_rfl) (fun _ _ _ h => h) (by rfl) ?_ ?_
      rotate_left
      · intro W hW; go_simp; first | done | with_reducible rfl
      try simp only [Act.put, List.setIfInBounds_toArray, List.set_cons_zero, List.set_cons_succ]
      refine reg_take 12 (some 72) (v := ?_) rfl rfl (by kernel_rfl) (by kernel_rfl) (by kernel_rfl) (fun _ _ _ h => h) (by rfl) ?_ ?_
      rotate_left
      · intro W hW; go_simp; first | done | with_reducible rfl
      try simp only [Act.put, List.setIfInBounds_toArray, List.set_cons_zero, List.set_cons_succ]
      refine reg_take 13 (some 73) (v := ?_) rfl rfl (by kernel_rfl) (by kernel_rfl) (by kernel_rfl) (fun _ _ _ h => h) (by rfl) ?_ ?_
      rotate_left
      · intro W hW; go_simp; first | done | with_reducible rfl
      try simp only [Act.put, List.setIfInBounds_toArray, List.set_cons_zero, List.set_cons_succ]
      refine reg_take 14 (some 74) (v := ?_) rfl rfl (by kernel_rfl) (by kernel_rfl) (by kernel_rfl) (fun _ _ _ h => h) (by rfl) ?_ ?_
      rotate_left
      · intro W hW; have k1 := (HCL.out W (hd0.trans hW)).1; go_simp; first | done | with_reducible rfl
      try simp only [Act.put, List.setIfInBounds_toArray, List.set_cons_zero, List.set_cons_succ]
      refine reg_take 15 (some 75) (v := ?_) rfl rfl (by kernel_rfl) (by kernel_rfl) (by kernel_rfl) (fun _ _ _ h => h) (by rfl) ?_ ?_
      rotate_left
      · intro W hW; go_simp; first | done | with_reducible rfl
      try simp only [Act.put, List.setIfInBounds_toArray, List.set_cons_zero, List.set_cons_succ]
      refine reg_take 16 (some 76) (v := ?_) rfl rfl (by kernel_rfl) (by kernel_rfl) (by kernel_rfl) (fun _ _ _ h => h) (by rfl) ?_ ?_
      rotate_left
      · intro W hW; have k1 := (HCL.out W (hd0.trans hW)).2.1; go_simp; first | done | with_reducible rfl
      try simp only [Act.put, List.setIfInBounds_toArray, List.set_cons_zero, List.set_cons_succ]
      refine reg_take 17 (some 77) (v := ?_) rfl rfl (by kernel_rfl) (by kernel_rfl) (by kernel_rfl) (fun _ _ _ h => h) (by rfl) ?_ ?_
      rotate_left
      · intro W hW; go_simp; first | done | with_reducible rfl
      try simp only [Act.put, List.setIfInBounds_toArray, List.set_cons_zero, List.set_cons_succ]
      refine reg_take 18 (some 78) (v := ?_) rfl rfl (by kernel_rfl) (by kernel_rfl) (by kernel_rfl) (fun _ _ _ h => h) (by rfl) ?_ ?_
      rotate_left
      · intro W hW; have k1 := (HCL.out W (hd0.trans hW)).2.2; go_simp; first | done | with_reducible rfl
      try simp only [Act.put, List.setIfInBounds_toArray, List.set_cons_zero, List.set_cons_succ]
      refine wpAnyH_ready (rs := [10]) (by kernel_rfl) (by simp) ?_
      refine AllReadyH.cons (o := { dst := some 70, op := Op.call { callee := Callee.value (Operand.func 20), args := #[Operand.tmp 69], argTypes := #[28] }, type := 22, pos := "law.go:89", after := #[{ on := 9, ground := Ground.data }, { on := 8, ground := Ground.chain }, { on := 8, ground := Ground.guard }], guard := some (8, true) }) rfl (fun K hK => ?_) AllReadyH.nil
      go_simp
      refine (bytes_any B g bl _ (hF3.keptNone hd0) (by omega) hnel).mono ?_; rintro e w4 ⟨g4, c4, rfl, hg4, hr4, hgr4⟩; have hd4 := hd0.trans hgr4
      refine reg_next hK hgr4 ?_
      clear hK K
      try simp only [Act.put, List.setIfInBounds_toArray, List.set_cons_zero, List.set_cons_succ]
      refine reg_take 11 (some 71) (v := ?_) rfl rfl (by kernel_rfl) (by kernel_rfl) (by kernel_rfl) (fun _ _ _ h => h) (by rfl) ?_ ?_
      rotate_left
      · intro W hW; have k1 := conv_src (cap := c4) (hr4.kept hW (by simp)).src; go_simp; first | done | with_reducible rfl
      try simp only [Act.put, List.setIfInBounds_toArray, List.set_cons_zero, List.set_cons_succ]
      refine wpAnyH_ready (rs := [19]) (by kernel_rfl) (by simp) ?_
      refine AllReadyH.cons (o := { dst := some 79, op := Op.call { callee := Callee.value (Operand.func 19), args := #[Operand.tmp 72, Operand.tmp 74, Operand.tmp 76, Operand.tmp 78], argTypes := #[22, 23, 3, 23] }, type := 22, pos := "law.go:89", after := #[{ on := 12, ground := Ground.data }, { on := 14, ground := Ground.data }, { on := 16, ground := Ground.data }, { on := 18, ground := Ground.data }, { on := 10, ground := Ground.chain }, { on := 8, ground := Ground.guard }], guard := some (8, true) }) rfl (fun K hK => ?_) AllReadyH.nil
      go_simp
      refine (HC5.out _ hd4).mono ?_; rintro e w6 ⟨g6, c6, rfl, hg6, hr6, hgr6⟩; have hd6 := hd4.trans hgr6
      refine reg_next hK hgr6 ?_
      clear hK K
      try simp only [Act.put, List.setIfInBounds_toArray, List.set_cons_zero, List.set_cons_succ]
      refine reg_take 20 (some 80) (v := ?_) rfl rfl (by kernel_rfl) (by kernel_rfl) (by kernel_rfl) (fun _ _ _ h => h) (by rfl) ?_ ?_
      rotate_left
      · intro W hW; have k1 := conv_src (cap := c6) (hr6.kept hW (by simp)).src; go_simp; first | done | with_reducible rfl
      try simp only [Act.put, List.setIfInBounds_toArray, List.set_cons_zero, List.set_cons_succ]
      refine reg_take 21 (some 81) (v := ?_) rfl rfl (by kernel_rfl) (by kernel_rfl) (by kernel_rfl) (fun _ _ _ h => h) (by rfl) ?_ ?_
      rotate_left
      · intro W hW; go_simp; first | done | with_reducible rfl
      try simp only [Act.put, List.setIfInBounds_toArray, List.set_cons_zero, List.set_cons_succ]
      refine reg_take 22 (some 82) (v := ?_) rfl rfl (by kernel_rfl) (by kernel_rfl) (by kernel_rfl) (fun _ _ _ h => h) (by rfl) ?_ ?_
      rotate_left
      · intro W hW; go_simp; first | done | with_reducible rfl
      try simp only [Act.put, List.setIfInBounds_toArray, List.set_cons_zero, List.set_cons_succ]
      refine reg_take 23 (some 83) (v := ?_) rfl rfl (by kernel_rfl) (by kernel_rfl) (by kernel_rfl) (fun _ _ _ h => h) (by rfl) ?_ ?_
      rotate_left
      · intro W hW; go_simp; first | done | with_reducible rfl
      try simp only [Act.put, List.setIfInBounds_toArray, List.set_cons_zero, List.set_cons_succ]
      refine wpAnyH_ready (rs := [24]) (by kernel_rfl) (by simp) ?_
      refine AllReadyH.cons (o := { dst := some 84, op := Op.call { callee := Callee.value (Operand.func 10), args := #[], argTypes := #[] }, type := 4, pos := "law.go:89", after := #[{ on := 23, ground := Ground.chain }, { on := 23, ground := Ground.guard }], guard := some (23, true) }) rfl (fun K hK => ?_) AllReadyH.nil
      go_simp
      refine (works_any _).mono ?_; rintro e w5 ⟨rfl, hg5⟩; have hd5 := hd6.trans hg5
      refine reg_next hK hg5 ?_
      clear hK K
      try simp only [Act.put, List.setIfInBounds_toArray, List.set_cons_zero, List.set_cons_succ]
      refine reg_take 25 (some 85) (v := ?_) rfl rfl (by kernel_rfl) (by kernel_rfl) (by kernel_rfl) (fun _ _ _ h => h) (by rfl) ?_ ?_
      rotate_left
      · intro W hW; go_simp; first | done | with_reducible rfl
      try simp only [Act.put, List.setIfInBounds_toArray, List.set_cons_zero, List.set_cons_succ]
      refine reg_take 26 (some 6) (v := ?_) rfl rfl (by kernel_rfl) (by kernel_rfl) (by kernel_rfl) (fun _ _ _ h => h) (by rfl) ?_ ?_
      rotate_left
      · intro W hW; go_simp; first | done | with_reducible rfl
      try simp only [Act.put, List.setIfInBounds_toArray, List.set_cons_zero, List.set_cons_succ]
      refine wpAnyH_done (by kernel_rfl) ?_ _
      go_wp2
      go_ret
      exact ⟨rfl, hgr.trans hd5⟩
    · have hrs : writeS was addr width v = was := by unfold writeS; rw [if_neg hno]
      rw [hrs] at hF3
      have hq : (refusedS was.length addr width != 0) = true := by simpa using hno
      have hno := Lib.hid hno
      obtain ⟨no, hno'⟩ : ∃ no, no = refusedS was.length addr width := ⟨_, rfl⟩
      rw [← hno'] at hq ⊢
      clear hno' hrs hwl
      go_wp2_with fail
      have k2 : ∀ w4, w3.grownBy w4 none → (convert 22 9 (.slice (some ⟨gw, 0, none⟩) was.length was.length)).run Try.prog w4 = .ok (.string ⟨was.toArray⟩) w4 := fun w4 h4 => conv_src (hrow3.kept h4 (by simp)).src
      have k20 := k2 w3 (World.grownBy.refl _ _)
      have K2 := Lib.hid k2
      clear k2
      have hd0 : w3.grownBy w3.drew none := drewr (World.grownBy.refl _ _)
      refine reg_open (none) (n := 21) rfl (by kernel_rfl) ?_
      refine reg_take 0 (some 40) (v := ?_) rfl rfl (by kernel_rfl) (by kernel_rfl) (by kernel_rfl) (fun _ _ _ h => h) (by rfl) ?_ ?_
      rotate_left
      · intro W hW; go_simp; first | done | with_reducible rfl
      try simp only [Act.put, List.setIfInBounds_toArray, List.set_cons_zero, List.set_cons_succ]
      refine wpAnyH_ready (rs := [1]) (by kernel_rfl) (by simp) ?_
      refine AllReadyH.cons (o := { dst := some 41, op := Op.call { callee := Callee.value (Operand.func 15), args := #[Operand.tmp 40], argTypes := #[29] }, type := 3, pos := "law.go:87", after := #[{ on := 0, ground := Ground.data }], guard := none }) rfl (fun K hK => ?_) AllReadyH.nil
      go_simp
      refine (num_any _ _).mono ?_; rintro e w' ⟨rfl, rfl⟩
      refine reg_same hK ?_
      clear hK K
      try simp only [Act.put, List.setIfInBounds_toArray, List.set_cons_zero, List.set_cons_succ]
      refine reg_take 2 (some 42) (v := ?_) rfl rfl (by kernel_rfl) (by kernel_rfl) (by kernel_rfl) (fun _ _ _ h => h) (by rfl) ?_ ?_
      rotate_left
      · intro W hW; go_simp; first | done | with_reducible rfl
      try simp only [Act.put, List.setIfInBounds_toArray, List.set_cons_zero, List.set_cons_succ]
      refine reg_take 3 (some 43) (v := ?_) rfl rfl (by kernel_rfl) (by kernel_rfl) (by kernel_rfl) (fun _ _ _ h => h) (by rfl) ?_ ?_
      rotate_left
      · intro W hW; go_simp; first | done | with_reducible rfl
      try simp only [Act.put, List.setIfInBounds_toArray, List.set_cons_zero, List.set_cons_succ]
      refine reg_take 4 (some 44) (v := ?_) rfl rfl (by kernel_rfl) (by kernel_rfl) (by kernel_rfl) (fun _ _ _ h => h) (by rfl) ?_ ?_
      rotate_left
      · intro W hW; go_simp; first | done | with_reducible rfl
      try simp only [Act.put, List.setIfInBounds_toArray, List.set_cons_zero, List.set_cons_succ]
      refine reg_take 6 (some 46) (v := ?_) rfl rfl (by kernel_rfl) (by kernel_rfl) (by kernel_rfl) (fun _ _ _ h => h) (by rfl) ?_ ?_
      rotate_left
      · intro W hW; go_simp; first | done | with_reducible rfl
      try simp only [Act.put, List.setIfInBounds_toArray, List.set_cons_zero, List.set_cons_succ]
      refine wpAnyH_ready (rs := [5]) (by kernel_rfl) (by simp) ?_
      refine AllReadyH.cons (o := { dst := some 45, op := Op.call { callee := Callee.value (Operand.func 15), args := #[Operand.tmp 44], argTypes := #[29] }, type := 3, pos := "law.go:87", after := #[{ on := 4, ground := Ground.data }, { on := 3, ground := Ground.chain }, { on := 3, ground := Ground.guard }], guard := some (3, true) }) rfl (fun K hK => ?_) AllReadyH.nil
      go_simp
      refine (num_any _ _).mono ?_; rintro e w' ⟨rfl, rfl⟩
      refine reg_same hK ?_
      clear hK K
      try simp only [Act.put, List.setIfInBounds_toArray, List.set_cons_zero, List.set_cons_succ]
      refine reg_take 7 (some 47) (v := ?_) rfl rfl (by kernel_rfl) (by kernel_rfl) (by kernel_rfl) (fun _ _ _ h => h) (by rfl) ?_ ?_
      rotate_left
      · intro W hW; go_simp; first | done | with_reducible rfl
      try simp only [Act.put, List.setIfInBounds_toArray, List.set_cons_zero, List.set_cons_succ]
      refine reg_take 8 (some 48) (v := ?_) rfl rfl (by kernel_rfl) (by kernel_rfl) (by kernel_rfl) (fun _ _ _ h => h) (by rfl) ?_ ?_
      rotate_left
      · intro W hW; go_simp; first | done | with_reducible rfl
      try simp only [Act.put, List.setIfInBounds_toArray, List.set_cons_zero, List.set_cons_succ]
      refine reg_take 9 (some 49) (v := ?_) rfl rfl (by kernel_rfl) (by kernel_rfl) (by kernel_rfl) (fun _ _ _ h => h) (by rfl) ?_ ?_
      rotate_left
      · intro W hW; go_simp; first | done | with_reducible rfl
      try simp only [Act.put, List.setIfInBounds_toArray, List.set_cons_zero, List.set_cons_succ]
      refine reg_take 10 (some 50) (v := ?_) rfl rfl (by kernel_rfl) (by kernel_rfl) (by kernel_rfl) (fun _ _ _ h => h) (by rfl) ?_ ?_
      rotate_left
      · intro W hW; go_simp; first | done | with_reducible rfl
      try simp only [Act.put, List.setIfInBounds_toArray, List.set_cons_zero, List.set_cons_succ]
      refine reg_take 13 (some 53) (v := ?_) rfl rfl (by kernel_rfl) (by kernel_rfl) (by kernel_rfl) (fun _ _ _ h => h) (by rfl) ?_ ?_
      rotate_left
      · intro W hW; go_simp; first | done | with_reducible rfl
      try simp only [Act.put, List.setIfInBounds_toArray, List.set_cons_zero, List.set_cons_succ]
      refine reg_take 14 (some 54) (v := ?_) rfl rfl (by kernel_rfl) (by kernel_rfl) (by kernel_rfl) (fun _ _ _ h => h) (by rfl) ?_ ?_
      rotate_left
      · intro W hW; have k1 := K2.out W (hd0.trans hW); go_simp; first | done | with_reducible rfl
      try simp only [Act.put, List.setIfInBounds_toArray, List.set_cons_zero, List.set_cons_succ]
      refine wpAnyH_ready (rs := [11]) (by kernel_rfl) (by simp) ?_
      refine AllReadyH.cons (o := { dst := some 51, op := Op.call { callee := Callee.value (Operand.func 20), args := #[Operand.tmp 50], argTypes := #[28] }, type := 22, pos := "law.go:87", after := #[{ on := 10, ground := Ground.data }, { on := 9, ground := Ground.chain }, { on := 9, ground := Ground.guard }], guard := some (9, true) }) rfl (fun K hK => ?_) AllReadyH.nil
      go_simp
      refine (bytes_any B g was _ (hF3.keptNone hd0) (by omega) hne).mono ?_; rintro e w4 ⟨g4, c4, rfl, hg4, hr4, hgr4⟩; have hd4 := hd0.trans hgr4
      refine reg_next hK hgr4 ?_
      clear hK K
      try simp only [Act.put, List.setIfInBounds_toArray, List.set_cons_zero, List.set_cons_succ]
      refine reg_take 12 (some 52) (v := ?_) rfl rfl (by kernel_rfl) (by kernel_rfl) (by kernel_rfl) (fun _ _ _ h => h) (by rfl) ?_ ?_
      rotate_left
      · intro W hW; have k1 := conv_src (cap := c4) (hr4.kept hW (by simp)).src; go_simp; first | done | with_reducible rfl
      try simp only [Act.put, List.setIfInBounds_toArray, List.set_cons_zero, List.set_cons_succ]
      refine reg_take 15 (some 55) (v := ?_) rfl rfl (by kernel_rfl) (by kernel_rfl) (by kernel_rfl) (fun _ _ _ h => h) (by rfl) ?_ ?_
      rotate_left
      · intro W hW; go_simp; first | done | with_reducible rfl
      try simp only [Act.put, List.setIfInBounds_toArray, List.set_cons_zero, List.set_cons_succ]
      refine reg_take 16 (some 56) (v := ?_) rfl rfl (by kernel_rfl) (by kernel_rfl) (by kernel_rfl) (fun _ _ _ h => h) (by rfl) ?_ ?_
      rotate_left
      · intro W hW; go_simp; first | done | with_reducible rfl
      try simp only [Act.put, List.setIfInBounds_toArray, List.set_cons_zero, List.set_cons_succ]
      refine reg_take 17 (some 57) (v := ?_) rfl rfl (by kernel_rfl) (by kernel_rfl) (by kernel_rfl) (fun _ _ _ h => h) (by rfl) ?_ ?_
      rotate_left
      · intro W hW; go_simp; first | done | with_reducible rfl
      try simp only [Act.put, List.setIfInBounds_toArray, List.set_cons_zero, List.set_cons_succ]
      refine wpAnyH_ready (rs := [18]) (by kernel_rfl) (by simp) ?_
      refine AllReadyH.cons (o := { dst := some 58, op := Op.call { callee := Callee.value (Operand.func 10), args := #[], argTypes := #[] }, type := 4, pos := "law.go:87", after := #[{ on := 17, ground := Ground.chain }, { on := 17, ground := Ground.guard }], guard := some (17, true) }) rfl (fun K hK => ?_) AllReadyH.nil
      go_simp
      refine (works_any _).mono ?_; rintro e w5 ⟨rfl, hg5⟩; have hd5 := hd4.trans hg5
      refine reg_next hK hg5 ?_
      clear hK K
      try simp only [Act.put, List.setIfInBounds_toArray, List.set_cons_zero, List.set_cons_succ]
      refine reg_take 19 (some 59) (v := ?_) rfl rfl (by kernel_rfl) (by kernel_rfl) (by kernel_rfl) (fun _ _ _ h => h) (by rfl) ?_ ?_
      rotate_left
      · intro W hW; go_simp; first | done | with_reducible rfl
      try simp only [Act.put, List.setIfInBounds_toArray, List.set_cons_zero, List.set_cons_succ]
      refine reg_take 20 (some 6) (v := ?_) rfl rfl (by kernel_rfl) (by kernel_rfl) (by kernel_rfl) (fun _ _ _ h => h) (by rfl) ?_ ?_
      rotate_left
      · intro W hW; go_simp; first | done | with_reducible rfl
      try simp only [Act.put, List.setIfInBounds_toArray, List.set_cons_zero, List.set_cons_succ]
      refine wpAnyH_done (by kernel_rfl) ?_ _
      go_wp2
      go_ret
      exact ⟨rfl, hgr.trans hd5⟩
theorem framesWrites_walk' (a : Option Addr) (n cap : Nat) (l : List UInt8) (pages width x y : Int) (w : World) (hn : n = l.length) (hs : Src w a l) (hm : n ≤ 9223372036854775807) (hx : (Lit.int .u32 x).wf = true) (hw : (Lit.int .i64 width).wf = true) (hy : (Lit.int .u32 y).wf = true) :
    Calls Try.prog 6 #[.slice a n cap, .int .i64 pages, .agg #[.int .u32 x, .int .i64 width, .int .u32 y]] w fun e w' => e = .returned (.bool true) ∧ w.grownBy w' none := by
  obtain ⟨addr, rfl, ha⟩ := wf_u32 hx
  obtain ⟨v, rfl, hv⟩ := wf_u32 hy
  exact framesWrites_walk a n cap l pages width addr v w hn hs hm ha hv hw

end Go.Proofs.Ytfldcclnfagmpaa
