import Derived.Test.YtfldcclnfagmpaaLoadC
import Derived.Test.YtfldcclnfagmpaaReg
namespace Go.Proofs.Ytfldcclnfagmpaa
open Go.RowKit

theorem hBm {w : World} {B g gm cm : Nat} {l lm : List UInt8} (h : Fr w B g l) (hr : Row w gm lm cm) : B ≠ gm := by
  obtain ⟨cap, hb, _⟩ := h
  obtain ⟨_, _, cur, hc, _⟩ := hr
  intro e; subst e; rw [hb] at hc; simp at hc
theorem grown_new' {a b c : World} {g : Nat} (h : a.grownBy b none) (k : b.grownBy c (some g)) (hg : a.heap.size ≤ g) : a.grownBy c none := grown_new h k hg

set_option maxHeartbeats 4000000 in
theorem framesLoads_walk (a : Option Addr) (n cap : Nat) (l : List UInt8) (pages : Int) (addr : Nat) (a2 : Option Addr) (n2 cap2 : Nat) (l2 : List UInt8) (w : World) (hn : n = l.length) (hs : Src w a l) (hm : n ≤ 9223372036854775807) (ha : addr < 4294967296)
    (hn2 : n2 = l2.length) (hs2 : Src w a2 l2) (hm2 : n2 ≤ 9223372036854775807) (hnil : a2 = none → cap2 = 0) :
    Calls Try.prog 7 #[.slice a n cap, .int .i64 pages, .int .u32 addr, .slice a2 n2 cap2] w fun e w' => e = .returned (.bool true) ∧ w.grownBy w' none := by
  subst hn hn2
  by_cases hbig : 3000 < l.length
  · have hb' : (3000 : Int) < l.length := by omega
    go_enter Try.func7, Try.ntmps7
    go_wp2_with (go_at_call 10; refine (works_any _).mono ?_; rintro e w1 ⟨rfl, hg1⟩)
    go_ret
    exact ⟨rfl, hg1⟩
  by_cases hbig2 : 3000 < l2.length
  · have hb' : ¬ (3000 : Int) < l.length := by omega
    have hb2' : (3000 : Int) < l2.length := by omega
    go_enter Try.func7, Try.ntmps7
    go_wp2_with (go_at_call 10; refine (works_any _).mono ?_; rintro e w1 ⟨rfl, hg1⟩)
    go_ret
    exact ⟨rfl, hg1⟩
  obtain ⟨hp1, hp2, hp3⟩ := pageN_facts pages
  have C1 := paged_any a cap l pages _ hs (by omega)
  rw [← pagedL_length l pages] at C1 hp1 hp2 hp3
  obtain ⟨was, hwas⟩ : ∃ was, was = pagedL l pages := ⟨_, rfl⟩
  rw [← hwas] at C1 hp1 hp2 hp3
  have hne : was ≠ [] := fun e => by subst e; simp at hp1
  clear hwas
  have hb' : ¬ (3000 : Int) < l.length := by omega
  have hb2' : ¬ (3000 : Int) < l2.length := by omega
  go_enter Try.func7, Try.ntmps7
  go_wp2_with fail
  refine C1.mono ?_; rintro e w1 ⟨gw, rfl, hgw, hrow, hg1⟩
  clear C1
  go_wp2_with fail
  refine (of_good gw 0 was.length was.length was rfl w1 hrow.src hp1 hp2 hp3).mono ?_; rintro e w2 ⟨B, g, rfl, hB, hg, hF, hg2⟩
  have hg12 := hg1.trans hg2
  have hs22 : Src (w2.alloc (.cells #[] 5)) a2 l2 := (hs2.keptNone hg12).keptNone (World.grownBy_alloc _ _ _)
  have ho1 := OwnB.empty w2 w2.heap.size (Nat.le_refl _)
  have hv1 : (Value.slice (some ⟨w2.heap.size, 0, none⟩) 0 0) ≠ .slice none 0 0 := by simp
  go_wp2_with (at_builtin; refine wpList_bapp2 rfl _ _ rfl w2.heap.size _ [] l2 rfl ho1 hv1 _ _ _ rfl rfl hnil hs22 (by simp; omega) (by simp) ?_)
  intro gm cm w3 hgm hrm hg3' _
  have hg3 : w2.grownBy w3 none := grown_new (World.grownBy_alloc _ _ _) hg3' (Nat.le_refl _)
  have hrm : Row w3 gm l2 cm := hrm
  clear hg3' hs22 ho1
  go_wp2_with fail
  refine (load_any B g addr l2.length cm was l2 ⟨gm, 0, none⟩ w3 (hF.keptNone hg3) hp2 ha rfl (by omega) hrm.src).mono ?_; rintro e w4 ⟨rfl, hF4, hg4⟩
  have hggm : g ≠ gm := by have := hF.ltg; omega
  have hgwg : gw ≠ g := by have := hrow.lt; omega
  have hgB : w.heap.size ≤ g := Nat.le_trans hg1.size hg
  have hgr4 : w.grownBy w4 none := grown_new (hg12.trans hg3) hg4 hgB
  have hrow4 : Row w4 gw was was.length := ((hrow.kept hg2 (by simp)).kept hg3 (by simp)).kept hg4 (by simpa using hgwg)
  have hs24 : Src w4 a2 l2 := hs2.keptNone hgr4
  have hrm4 : Row w4 gm l2 cm := hrm.kept hg4 (by simpa using hggm.symm)
  -- the document's answer: a row of its own, or the very bytes
  have key : ∀ (gw2 cwant : Nat) (w5 : World), w4.grownBy w5 none → Row w5 gw2 (loadS was addr l2) cwant → gw2 ≠ gm → True := fun _ _ _ _ _ _ => trivial
  clear key
  have hbl : (loadS was addr l2).length = was.length := loadS_length _ _ _
  have CR : Calls Try.prog 24 #[.slice (some ⟨gw, 0, none⟩) was.length was.length, .int .u32 addr, .slice a2 l2.length cap2] w4 fun e w' => ∃ gx cx, e = .returned (.tuple #[.slice (some ⟨gx, 0, none⟩) was.length cx, .int .i64 (if was.length < addr + l2.length then 4 else 0)]) ∧ gx ≠ gm ∧ Row w' gx (loadS was addr l2) cx ∧ w4.grownBy w' none := by
    unfold loadS
    by_cases hno : was.length < addr + l2.length
    · rw [if_pos hno, if_pos hno]
      refine (ref_load_no gw 0 was.length was.length addr l2.length cap2 a2 w4 hp2 ha (by omega) hno).mono fun e w' ⟨he, hw⟩ => ?_
      subst hw
      exact ⟨gw, was.length, he, by have := hrow.lt; have := hg2.size; omega, hrow4, World.grownBy.refl _ _⟩
    · rw [if_neg hno, if_neg hno]
      refine (ref_load gw 0 was.length was.length addr l2.length cap2 was l2 a2 w4 hrow4.src rfl hne hp2 hs24 rfl (by omega)).mono fun e w' ⟨gx, cx, he, h1, h2, h3⟩ => ?_
      exact ⟨gx, cx, he, by have := hrm4.lt; omega, h2, h3⟩
  have hnel : loadS was addr l2 ≠ [] := fun e => by rw [e] at hbl; simp at hbl; omega
  obtain ⟨no, hno⟩ : ∃ no : Int, no = (if was.length < addr + l2.length then 4 else 0) := ⟨_, rfl⟩
  obtain ⟨bl, hbl0⟩ : ∃ bl, bl = loadS was addr l2 := ⟨_, rfl⟩
  rw [← hno, ← hbl0] at CR
  rw [← hno]
  rw [← hbl0] at hF4 hbl hnel
  rw [← hbl] at CR
  have HCR := Lib.hid CR
  clear hno hbl0 CR
  go_wp2_with fail
  have CR := HCR.out
  rw [hbl] at CR
  refine CR.mono ?_; rintro e w5 ⟨gx, cwant, rfl, hgx, hrx, hg5⟩
  clear CR HCR
  have hrm5 := hrm4.kept hg5 (by simp)
  have hs25 := hs24.keptNone hg5
  have hF5 := hF4.keptNone hg5
  have HBL := Lib.hid hbl
  clear hbl
  have k1 := conv_src (cap := cm) hrm5.src
  have k2 := conv_any (cap := cap2) hs25
  go_wp2_with fail
  go_loopw [17] (fun i wr => ∃ (k : Nat) (lm : List UInt8), k ≤ l2.length ∧ lm.length = l2.length ∧ i = .int .i64 k ∧ Row wr gm lm cm ∧ w5.grownBy wr (some gm)) (fun i _ => l2.length - (intOf i).toNat)
  case atStart => exact ⟨0, l2, Nat.zero_le _, rfl, rfl, hrm5, World.grownBy.refl _ _⟩
  case round =>
    obtain ⟨k, lm, hk, hlm, rfl, hrow6, hg6⟩ := hrel
    clear k1 k2
    by_cases hlt : k < l2.length
    · have hcell := hrow6.cell k (by omega)
      have hfz := hrow6.frozen k
      have hbx := lm[k].toNat_lt
      generalize hx : lm[k]'(by omega) = x at *
      clear hx
      go_wp2
      go_roundw
      case rel =>
        have := hrow6.set k (x + 1)
        have e : (((x + 1).toNat : Nat) : Int) = ((x.toNat : Int) + 1) % 256 := by simp [UInt8.toNat_add]
        rw [e] at this
        exact ⟨k + 1, lm.set k (x + 1), by omega, by simpa using hlm, by go_num, this, hg6.trans (grown_setCell _ _ _ _)⟩
      case measure => simp [intOf]; omega
    · obtain rfl : k = l2.length := by omega
      have hggx : gx ≠ gm := hgx
      have hgr5 : w.grownBy w5 none := hgr4.trans hg5
      have hgm0 : w.heap.size ≤ gm := Nat.le_trans hg12.size hgm
      have hgd : w.grownBy wr.drew none := drewr (grown_new' hgr5 hg6 hgm0)
      have hFd : Fr wr.drew B g bl := (show Fr wr B g bl from hF5.kept hg6 (by have := hF5.ltB; intro e; cases e; exact absurd rfl (hBm hF5 hrm5)) (by simpa using hggm))
      have hrd : Row wr.drew gx bl cwant := (show Row wr gx bl cwant from hrx.kept hg6 (by simpa using hggx))
      clear hrow6
      go_wp2_with fail
      refine reg_open (none) (n := 24) rfl (by kernel_rfl) ?_
      refine reg_take 0 (some 68) (v := ?_) rfl rfl (by kernel_rfl) (by kernel_rfl) (by kernel_rfl) (fun _ _ _ h => h) (by rfl) ?_ ?_
      rotate_left
      · intro W hW; go_simp; first | done | with_reducible rfl
      try simp only [Act.put, List.setIfInBounds_toArray, List.set_cons_zero, List.set_cons_succ]
      refine wpAnyH_ready (rs := [1]) (by kernel_rfl) (by simp) ?_
      refine AllReadyH.cons (o := { dst := some 69, op := Op.call { callee := Callee.value (Operand.func 15), args := #[Operand.tmp 68], argTypes := #[29] }, type := 3, pos := "law.go:106", after := #[{ on := 0, ground := Ground.data }], guard := none }) rfl (fun K hK => ?_) AllReadyH.nil
      go_simp
      refine (num_any _ _).mono ?_; rintro e w' ⟨rfl, rfl⟩
      refine reg_same hK ?_
      clear hK K
      try simp only [Act.put, List.setIfInBounds_toArray, List.set_cons_zero, List.set_cons_succ]
      refine reg_take 2 (some 70) (v := ?_) rfl rfl (by kernel_rfl) (by kernel_rfl) (by kernel_rfl) (fun _ _ _ h => h) (by rfl) ?_ ?_
      rotate_left
      · intro W hW; go_simp; first | done | with_reducible rfl
      try simp only [Act.put, List.setIfInBounds_toArray, List.set_cons_zero, List.set_cons_succ]
      refine reg_take 3 (some 71) (v := ?_) rfl rfl (by kernel_rfl) (by kernel_rfl) (by kernel_rfl) (fun _ _ _ h => h) (by rfl) ?_ ?_
      rotate_left
      · intro W hW; go_simp; first | done | with_reducible rfl
      try simp only [Act.put, List.setIfInBounds_toArray, List.set_cons_zero, List.set_cons_succ]
      refine reg_take 4 (some 72) (v := ?_) rfl rfl (by kernel_rfl) (by kernel_rfl) (by kernel_rfl) (fun _ _ _ h => h) (by rfl) ?_ ?_
      rotate_left
      · intro W hW; go_simp; first | done | with_reducible rfl
      try simp only [Act.put, List.setIfInBounds_toArray, List.set_cons_zero, List.set_cons_succ]
      refine reg_take 6 (some 74) (v := ?_) rfl rfl (by kernel_rfl) (by kernel_rfl) (by kernel_rfl) (fun _ _ _ h => h) (by rfl) ?_ ?_
      rotate_left
      · intro W hW; go_simp; first | done | with_reducible rfl
      try simp only [Act.put, List.setIfInBounds_toArray, List.set_cons_zero, List.set_cons_succ]
      refine wpAnyH_ready (rs := [5]) (by kernel_rfl) (by simp) ?_
      refine AllReadyH.cons (o := { dst := some 73, op := Op.call { callee := Callee.value (Operand.func 15), args := #[Operand.tmp 72], argTypes := #[29] }, type := 3, pos := "law.go:106", after := #[{ on := 4, ground := Ground.data }, { on := 3, ground := Ground.chain }, { on := 3, ground := Ground.guard }], guard := some (3, true) }) rfl (fun K hK => ?_) AllReadyH.nil
      go_simp
      refine (num_any _ _).mono ?_; rintro e w' ⟨rfl, rfl⟩
      refine reg_same hK ?_
      clear hK K
      try simp only [Act.put, List.setIfInBounds_toArray, List.set_cons_zero, List.set_cons_succ]
      refine reg_take 7 (some 75) (v := ?_) rfl rfl (by kernel_rfl) (by kernel_rfl) (by kernel_rfl) (fun _ _ _ h => h) (by rfl) ?_ ?_
      rotate_left
      · intro W hW; go_simp; first | done | with_reducible rfl
      try simp only [Act.put, List.setIfInBounds_toArray, List.set_cons_zero, List.set_cons_succ]
      refine reg_take 8 (some 76) (v := ?_) rfl rfl (by kernel_rfl) (by kernel_rfl) (by kernel_rfl) (fun _ _ _ h => h) (by rfl) ?_ ?_
      rotate_left
      · intro W hW; go_simp; first | done | with_reducible rfl
      try simp only [Act.put, List.setIfInBounds_toArray, List.set_cons_zero, List.set_cons_succ]
      refine reg_take 9 (some 77) (v := ?_) rfl rfl (by kernel_rfl) (by kernel_rfl) (by kernel_rfl) (fun _ _ _ h => h) (by rfl) ?_ ?_
      rotate_left
      · intro W hW; go_simp; first | done | with_reducible rfl
      try simp only [Act.put, List.setIfInBounds_toArray, List.set_cons_zero, List.set_cons_succ]
      refine reg_take 10 (some 78) (v := ?_) rfl rfl (by kernel_rfl) (by kernel_rfl) (by kernel_rfl) (fun _ _ _ h => h) (by rfl) ?_ ?_
      rotate_left
      · intro W hW; go_simp; first | done | with_reducible rfl
      try simp only [Act.put, List.setIfInBounds_toArray, List.set_cons_zero, List.set_cons_succ]
      refine reg_take 13 (some 81) (v := ?_) rfl rfl (by kernel_rfl) (by kernel_rfl) (by kernel_rfl) (fun _ _ _ h => h) (by rfl) ?_ ?_
      rotate_left
      · intro W hW; go_simp; first | done | with_reducible rfl
      try simp only [Act.put, List.setIfInBounds_toArray, List.set_cons_zero, List.set_cons_succ]
      refine reg_take 14 (some 82) (v := ?_) rfl rfl (by kernel_rfl) (by kernel_rfl) (by kernel_rfl) (fun _ _ _ h => h) (by rfl) ?_ ?_
      rotate_left
      · intro W hW; have k1 := conv_src (cap := cwant) (hrd.kept hW (by simp)).src; rw [HBL.out] at k1; go_simp; first | done | with_reducible rfl
      try simp only [Act.put, List.setIfInBounds_toArray, List.set_cons_zero, List.set_cons_succ]
      refine wpAnyH_ready (rs := [11]) (by kernel_rfl) (by simp) ?_
      refine AllReadyH.cons (o := { dst := some 79, op := Op.call { callee := Callee.value (Operand.func 20), args := #[Operand.tmp 78], argTypes := #[28] }, type := 22, pos := "law.go:106", after := #[{ on := 10, ground := Ground.data }, { on := 9, ground := Ground.chain }, { on := 9, ground := Ground.guard }], guard := some (9, true) }) rfl (fun K hK => ?_) AllReadyH.nil
      go_simp
      refine (bytes_any B g bl _ hFd (by rw [HBL.out]; omega) hnel).mono ?_; rintro e w8 ⟨g8, c8, rfl, hg8, hr8, hgr8⟩; have hd8 := hgd.trans hgr8
      refine reg_next hK hgr8 ?_
      clear hK K
      try simp only [Act.put, List.setIfInBounds_toArray, List.set_cons_zero, List.set_cons_succ]
      refine reg_take 12 (some 80) (v := ?_) rfl rfl (by kernel_rfl) (by kernel_rfl) (by kernel_rfl) (fun _ _ _ h => h) (by rfl) ?_ ?_
      rotate_left
      · intro W hW; have k1 := conv_src (cap := c8) (hr8.kept hW (by simp)).src; go_simp; first | done | with_reducible rfl
      try simp only [Act.put, List.setIfInBounds_toArray, List.set_cons_zero, List.set_cons_succ]
      refine reg_take 15 (some 83) (v := ?_) rfl rfl (by kernel_rfl) (by kernel_rfl) (by kernel_rfl) (fun _ _ _ h => h) (by rfl) ?_ ?_
      rotate_left
      · intro W hW; go_simp; first | done | with_reducible rfl
      try simp only [Act.put, List.setIfInBounds_toArray, List.set_cons_zero, List.set_cons_succ]
      refine reg_take 16 (some 84) (v := ?_) rfl rfl (by kernel_rfl) (by kernel_rfl) (by kernel_rfl) (fun _ _ _ h => h) (by rfl) ?_ ?_
      rotate_left
      · intro W hW; go_simp; first | done | with_reducible rfl
      try simp only [Act.put, List.setIfInBounds_toArray, List.set_cons_zero, List.set_cons_succ]
      refine reg_take 17 (some 85) (v := ?_) rfl rfl (by kernel_rfl) (by kernel_rfl) (by kernel_rfl) (fun _ _ _ h => h) (by rfl) ?_ ?_
      rotate_left
      · intro W hW; go_simp; first | done | with_reducible rfl
      try simp only [Act.put, List.setIfInBounds_toArray, List.set_cons_zero, List.set_cons_succ]
      refine reg_take 18 (some 86) (v := ?_) rfl rfl (by kernel_rfl) (by kernel_rfl) (by kernel_rfl) (fun _ _ _ h => h) (by rfl) ?_ ?_
      rotate_left
      · intro W hW; go_simp; first | done | with_reducible rfl
      try simp only [Act.put, List.setIfInBounds_toArray, List.set_cons_zero, List.set_cons_succ]
      refine reg_take 19 (some 87) (v := ?_) rfl rfl (by kernel_rfl) (by kernel_rfl) (by kernel_rfl) (fun _ _ _ h => h) (by rfl) ?_ ?_
      rotate_left
      · intro W hW; go_simp; first | done | with_reducible rfl
      try simp only [Act.put, List.setIfInBounds_toArray, List.set_cons_zero, List.set_cons_succ]
      refine reg_take 20 (some 88) (v := ?_) rfl rfl (by kernel_rfl) (by kernel_rfl) (by kernel_rfl) (fun _ _ _ h => h) (by rfl) ?_ ?_
      rotate_left
      · intro W hW; go_simp; first | done | with_reducible rfl
      try simp only [Act.put, List.setIfInBounds_toArray, List.set_cons_zero, List.set_cons_succ]
      refine wpAnyH_ready (rs := [21]) (by kernel_rfl) (by simp) ?_
      refine AllReadyH.cons (o := { dst := some 89, op := Op.call { callee := Callee.value (Operand.func 10), args := #[], argTypes := #[] }, type := 4, pos := "law.go:106", after := #[{ on := 20, ground := Ground.chain }, { on := 20, ground := Ground.guard }], guard := some (20, true) }) rfl (fun K hK => ?_) AllReadyH.nil
      go_simp
      refine (works_any _).mono ?_; rintro e w9 ⟨rfl, hg9⟩; have hd9 := hd8.trans hg9
      refine reg_next hK hg9 ?_
      clear hK K
      try simp only [Act.put, List.setIfInBounds_toArray, List.set_cons_zero, List.set_cons_succ]
      refine reg_take 22 (some 90) (v := ?_) rfl rfl (by kernel_rfl) (by kernel_rfl) (by kernel_rfl) (fun _ _ _ h => h) (by rfl) ?_ ?_
      rotate_left
      · intro W hW; go_simp; first | done | with_reducible rfl
      try simp only [Act.put, List.setIfInBounds_toArray, List.set_cons_zero, List.set_cons_succ]
      refine reg_take 23 (some 8) (v := ?_) rfl rfl (by kernel_rfl) (by kernel_rfl) (by kernel_rfl) (fun _ _ _ h => h) (by rfl) ?_ ?_
      rotate_left
      · intro W hW; go_simp; first | done | with_reducible rfl
      try simp only [Act.put, List.setIfInBounds_toArray, List.set_cons_zero, List.set_cons_succ]
      refine wpAnyH_done (by kernel_rfl) ?_ _
      go_wp2
      go_ret
      exact ⟨rfl, hd9⟩
theorem framesLoads_walk' (a : Option Addr) (n cap : Nat) (l : List UInt8) (pages x : Int) (a2 : Option Addr) (n2 cap2 : Nat) (l2 : List UInt8) (w : World) (hn : n = l.length) (hs : Src w a l) (hm : n ≤ 9223372036854775807) (hx : (Lit.int .u32 x).wf = true)
    (hn2 : n2 = l2.length) (hs2 : Src w a2 l2) (hm2 : n2 ≤ 9223372036854775807) (hnil : a2 = none → cap2 = 0) :
    Calls Try.prog 7 #[.slice a n cap, .int .i64 pages, .int .u32 x, .slice a2 n2 cap2] w fun e w' => e = .returned (.bool true) ∧ w.grownBy w' none := by
  obtain ⟨addr, rfl, ha⟩ := wf_u32 hx
  exact framesLoads_walk a n cap l pages addr a2 n2 cap2 l2 w hn hs hm ha hn2 hs2 hm2 hnil

end Go.Proofs.Ytfldcclnfagmpaa
