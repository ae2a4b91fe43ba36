/- The reader's closure, once more: what is left lies where it lay. -/
import Derived.Test.YtpoifobhbmhelaaF
import Derived.Laws.Bits128
set_option linter.unusedVariables false
set_option linter.unusedSimpArgs false
namespace Go.Proofs.Ytpoifobhbmhelaa
open Go.RowKit
/-- A reader. -/
def NextDP (BL N0 : Nat) (e1 e2 : Int) (w : World) (t : Tk) (e : Ending) (w' : World) : Prop :=
  match t with
  | .no => e = Pan e1 ∧ w.grownBy w' none
  | .soon => e = Pan e2 ∧ w.grownBy w' none
  | .num n r => e = .returned (.int .i64 (n : Nat)) ∧ ∃ x cap, r.length ≤ cap ∧ Go.Proofs.Ytpoifobhbmhelaa.Src w' x r ∧ (∀ b o, x = some ⟨b, o, none⟩ → r ≠ [] → b ≠ BL ∧ b < N0) ∧ w'.heap[BL]? = some (.cells #[.slice x r.length cap] 23 (0, 0)) ∧ w.grownBy w' (some BL)
theorem next_endP {BL N0 : Nat} {w : World} {x x' : Option Addr} {n cap cap' : Nat} {l r : List UInt8} (hb : w.heap[BL]? = some (.cells #[.slice x n cap] 23 (0, 0))) (hs : Go.Proofs.Ytpoifobhbmhelaa.Src w x' r) (hne : ∀ b o, x' = some ⟨b, o, none⟩ → r ≠ [] → b ≠ BL ∧ b < N0) (hc : r.length ≤ cap') (u : World) (hu : w.grownBy u none) :
    ∃ x cap, r.length ≤ cap ∧ Go.Proofs.Ytpoifobhbmhelaa.Src (u.setCell ⟨BL, 0, none⟩ (.slice x' r.length cap')) x r ∧ (∀ b o, x = some ⟨b, o, none⟩ → r ≠ [] → b ≠ BL ∧ b < N0) ∧ (u.setCell ⟨BL, 0, none⟩ (.slice x' r.length cap')).heap[BL]? = some (.cells #[.slice x r.length cap] 23 (0, 0)) ∧ w.grownBy (u.setCell ⟨BL, 0, none⟩ (.slice x' r.length cap')) (some BL) := by
  have hg := grown_setCell u BL 0 (.slice x' r.length cap')
  have hbu := (hu.block BL (lt_of_block hb) (by simp)).trans hb
  refine ⟨x', cap', hc, ?_, hne, heap_setCell_at _ hbu, (grown_none hu _).trans hg⟩
  rcases (hs.keptNone hu) with h | ⟨b, o, ha, hcl⟩
  · exact .inl h
  · by_cases hr : r = []
    · exact .inl hr
    · exact .inr ⟨b, o, ha, fun j hj => hg.cell (hcl j hj) (fun e => (hne b o ha hr).1 (by simpa using e))⟩
set_option maxRecDepth 100000 in
set_option maxHeartbeats 2000000 in
theorem next_anyP (C1 C2 C3 BL N0 : Nat) (e1 e2 : Int) (x : Option Addr) (cap : Nat) (l : List UInt8) (w : World) (hs : Go.Proofs.Ytpoifobhbmhelaa.Src w x l) (hcap : l.length ≤ cap) (hl : l.length ≤ 1000000) (hnb : ∀ b o, x = some ⟨b, o, none⟩ → l ≠ [] → b ≠ BL ∧ b < N0)
    (h1 : w.heap[C1]? = some (.cells #[.pointer (some ⟨BL, 0, none⟩)] 72 (0, 0))) (h2 : w.heap[C2]? = some (.cells #[.int .i64 e1] 32 (0, 0))) (h3 : w.heap[C3]? = some (.cells #[.int .i64 e2] 32 (0, 0))) (hb : w.heap[BL]? = some (.cells #[.slice x l.length cap] 23 (0, 0))) :
    Calls Try.prog 46 #[.pointer (some ⟨C1, 0, none⟩), .pointer (some ⟨C2, 0, none⟩), .pointer (some ⟨C3, 0, none⟩)] w fun e w' => NextDP BL N0 e1 e2 w (take l) e w' := by
  have HS := Lib.hid hs
  have HB := Lib.hid hb
  have HNB := Lib.hid hnb
  have HCB := Lib.hid (show C1 ≠ BL from fun e => by subst e; rw [hb] at h1; cases h1)
  have k1 : w.cell? ⟨C1, 0, none⟩ = some (.pointer (some ⟨BL, 0, none⟩)) := cells_all h1 0
  have k2 : w.cell? ⟨C2, 0, none⟩ = some (.int .i64 e1) := cells_all h2 0
  have k3 : w.cell? ⟨C3, 0, none⟩ = some (.int .i64 e2) := cells_all h3 0
  have kb : w.cell? ⟨BL, 0, none⟩ = some (.slice x l.length cap) := cells_all hb 0
  clear hs h1 h2 h3 hb hnb
  go_enter Try.func46, Try.ntmps46
  go_wp2
  go_loopw [4, 11] (fun n i wr => ∃ (k N : Nat), k ≤ l.length ∧ k ≤ 8 ∧ i = .int .i64 k ∧ n = .int .i64 (N : Nat) ∧ N < 128 ^ k ∧ tk k N (l.drop k) = take l ∧ w = wr) (fun _ i _ => l.length - (intOf i).toNat)
  case atStart => exact ⟨0, 0, Nat.zero_le _, by omega, rfl, rfl, by simp, rfl, rfl⟩
  case round =>
    obtain ⟨k, N, hk, hk8, rfl, rfl, hN, htk, rfl⟩ := hrel
    by_cases hlt : k < l.length
    · obtain ⟨b, o, hx, hc⟩ := src_some HS.out (fun e => by subst e; simp at hlt)
      obtain ⟨x', cap', hsl, hc', hs'⟩ := src_from HS.out hcap (k + 1) (by omega)
      have HXN := Lib.hid (show ∀ b' o', x' = some ⟨b', o', none⟩ → l.drop (k + 1) ≠ [] → b' ≠ BL ∧ b' < N0 from fun b' o' e hne => by
        have hb0 := HNB.out b o hx (fun e => by subst e; simp at hlt)
        by_cases hcp : cap = k + 1
        · exact absurd (List.drop_of_length_le (by omega)) hne
        · subst hx
          unfold sliced at hsl
          rw [if_neg hcp] at hsl
          injection hsl with e0 e1' e2'
          rw [e] at e0
          simp [Addr.add] at e0
          omega)
      have HSL := Lib.hid hsl
      have HS' := Lib.hid hs'
      subst hx
      have hcj := hc k hlt
      obtain ⟨c, hcc⟩ : ∃ c, c = l[k] := ⟨_, rfl⟩
      rw [drop_at hlt hcc] at htk
      rw [← hcc] at hcj
      clear hcc
      obtain ⟨d, hd⟩ : ∃ d : Nat, d = c.toNat := ⟨_, rfl⟩
      rw [← hd] at hcj
      have hd256 : d < 256 := by rw [hd]; exact c.toNat_lt
      have m1 := or_num hk8 hN hd256
      have m4 := (tk_num (d := d) hk8 hN rfl).2.2.2
      obtain ⟨M, hM⟩ : ∃ M : Nat, M = N + d % 128 * 128 ^ k := ⟨_, rfl⟩
      rw [← hM] at m1 m4
      have hlt' : (k : Int) < (l.length : Nat) := by omega
      have hwk : IntKind.i64.wrap ((k : Int) + 1) = ((k + 1 : Nat) : Int) := by rw [IntKind.wrap_i64]; omega
      have HD := Lib.hid hd
      have HT := Lib.hid htk
      have HN := Lib.hid hN
      have HM := Lib.hid hM
      have HM4 := Lib.hid m4
      have HC' := Lib.hid hc'
      clear hc hd htk hN hM m4 hsl hs' hc'
      by_cases hke : k = 8
      · have h8 : ¬ (k : Int) < 8 := by omega
        have h0 : ((k : Int) == 0) = false := by simp; omega
        have HKE := Lib.hid hke
        clear hke
        by_cases hdg : 128 ≤ d
        · have hlt2 : ¬ (d : Int) < 128 := by omega
          have hz : ((d : Int) != 0) = true := by simp; omega
          have HR := Lib.hid (show take l = .no from by rw [← HT.out, tk_no (by have := HD.out; have := HKE.out; omega)])
          clear HT HM4 HM HN
          go_wp2_with fail
          refine (must_no _ _).mono ?_; rintro e w2 ⟨rfl, rfl⟩
          go_wp2
          exact ⟨rfl, by rw [HR.out]; exact ⟨rfl, World.grownBy.refl _ _⟩⟩
        · by_cases hd0 : d = 0
          · have hlt2 : (d : Int) < 128 := by omega
            have hz : ((d : Int) != 0) = false := by simp; omega
            have HD0 := Lib.hid hd0
            clear hd0
            have HR := Lib.hid (show take l = .no from by rw [← HT.out, tk_no (by have := HD.out; have := HD0.out; have := HKE.out; omega)])
            clear HT HM4 HM HN
            go_wp2_with fail
            refine (must_no _ _).mono ?_; rintro e w2 ⟨rfl, rfl⟩
            go_wp2
            exact ⟨rfl, by rw [HR.out]; exact ⟨rfl, World.grownBy.refl _ _⟩⟩
          · have hlt2 : (d : Int) < 128 := by omega
            have hz : ((d : Int) != 0) = true := by simp; omega
            have HR := Lib.hid (show NextDP BL N0 e1 e2 w (take l) (.returned (.int .i64 (M : Nat))) (w.drew.setCell ⟨BL, 0, none⟩ (.slice x' (l.length - (k + 1)) cap')) from by
              rw [← HT.out, tk_ret (by have := HD.out; omega) (by have := HD.out; omega), ← HD.out, show N + d * 128 ^ k = M from by rw [HM.out, Nat.mod_eq_of_lt (by omega)], show l.length - (k + 1) = (l.drop (k + 1)).length from by simp]
              exact ⟨rfl, next_endP (l := l) HB.out HS'.out HXN.out (by have := HC'.out; simpa using this) w.drew ⟨rfl, rfl, rfl, Nat.le_refl _, fun _ _ _ => rfl⟩⟩)
            clear HT HM4 HM HN HS' HXN HC'
            go_wp2_with fail
            refine (must_yes _ _).mono ?_; rintro e w2 ⟨⟨v, rfl⟩, rfl⟩
            go_wp2
            refine reg_open ((some BL)) (n := 9) rfl (by kernel_rfl) ?_
            refine reg_take 0 (some 42) (v := ?_) rfl rfl (by kernel_rfl) (by kernel_rfl) (by kernel_rfl) (fun _ _ _ h => h) (by rfl) ?_ ?_
            rotate_left
            · intro W hW; have k4 := (hW).cell (show w.drew.cell? ⟨C1, 0, none⟩ = some (.pointer (some ⟨BL, 0, none⟩)) from k1) (by simpa using HCB.out); go_simp; first | done | with_reducible rfl
            try simp only [Act.put, List.setIfInBounds_toArray, List.set_cons_zero, List.set_cons_succ]
            refine reg_take 1 (some 43) (v := ?_) rfl rfl (by kernel_rfl) (by kernel_rfl) (by kernel_rfl) (fun _ _ _ h => h) (by rfl) ?_ ?_
            rotate_left
            · intro W hW; have k4 := (hW).cell (show w.drew.cell? ⟨C1, 0, none⟩ = some (.pointer (some ⟨BL, 0, none⟩)) from k1) (by simpa using HCB.out); go_simp; first | done | with_reducible rfl
            try simp only [Act.put, List.setIfInBounds_toArray, List.set_cons_zero, List.set_cons_succ]
            refine reg_take 2 (some 44) (v := ?_) rfl rfl (by kernel_rfl) (by kernel_rfl) (by kernel_rfl) (fun _ _ _ h => h) (by rfl) ?_ ?_
            rotate_left
            · intro W hW; go_simp; first | done | with_reducible rfl
            try simp only [Act.put, List.setIfInBounds_toArray, List.set_cons_zero, List.set_cons_succ]
            refine reg_take 4 (some 46) (v := ?_) rfl rfl (by kernel_rfl) (by kernel_rfl) (by kernel_rfl) (fun _ _ _ h => h) (by rfl) ?_ ?_
            rotate_left
            · intro W hW; go_simp; first | done | with_reducible rfl
            try simp only [Act.put, List.setIfInBounds_toArray, List.set_cons_zero, List.set_cons_succ]
            refine reg_take 5 (some 47) (v := ?_) rfl rfl (by kernel_rfl) (by kernel_rfl) (by kernel_rfl) (fun _ _ _ h => h) (by rfl) ?_ ?_
            rotate_left
            · intro W hW; go_simp; first | done | with_reducible rfl
            try simp only [Act.put, List.setIfInBounds_toArray, List.set_cons_zero, List.set_cons_succ]
            refine wpAnyH_ready (rs := [3]) (by kernel_rfl) (by simp) ?_
            refine (AllReadyH.cons (o := { dst := some 45, op := Op.load 23 (Operand.tmp 44), type := 23, pos := "log.go:131", after := #[{ on := 2, ground := Ground.data }], guard := none }) rfl (fun K hK => ?_) AllReadyH.nil)
            have k5 : w.drew.cell? ⟨BL, 0, none⟩ = _ := kb
            go_simp
            refine reg_same hK ?_
            clear hK K
            try simp only [Act.put, List.setIfInBounds_toArray, List.set_cons_zero, List.set_cons_succ]
            refine reg_take 6 (some 48) (v := ?_) rfl rfl (by kernel_rfl) (by kernel_rfl) (by kernel_rfl) (fun _ _ _ h => h) (by rfl) ?_ ?_
            rotate_left
            · intro W hW; refine exec_sl eB elemB (x := .tmp 45) (y := .tmp 47) ?_ (some ⟨b, o, none⟩) l.length cap (k + 1) ?_ ?_ (by omega) _ (.slice x' (l.length - (k + 1)) cap') HSL.out.symm <;> rfl
            try simp only [Act.put, List.setIfInBounds_toArray, List.set_cons_zero, List.set_cons_succ]
            refine reg_take 7 (some 49) (v := ?_) rfl rfl (by kernel_rfl) (by kernel_rfl) (by kernel_rfl) (fun _ _ _ h => h) (by rfl) ?_ ?_
            rotate_left
            · intro W hW; go_simp; first | done | with_reducible rfl
            try simp only [Act.put, List.setIfInBounds_toArray, List.set_cons_zero, List.set_cons_succ]
            refine wpAnyH_ready (rs := [8]) (by kernel_rfl) (by simp) ?_
            refine (AllReadyH.cons (o := { dst := none, op := Op.store 23 (Operand.tmp 49) (Operand.tmp 48), type := 0, pos := "log.go:131", after := #[{ on := 7, ground := Ground.data }, { on := 6, ground := Ground.data }, { on := 0, ground := Ground.phase }, { on := 1, ground := Ground.phase }, { on := 2, ground := Ground.phase }, { on := 3, ground := Ground.phase }, { on := 4, ground := Ground.phase }, { on := 5, ground := Ground.phase }, { on := 6, ground := Ground.phase }], guard := none }) rfl (fun K hK => ?_) AllReadyH.nil)
            have k5 : w.drew.cell? ⟨BL, 0, none⟩ = _ := kb
            have k6 := frozen_all (show w.drew.heap[BL]? = _ from HB.out) 0
            go_simp
            have g1 := grown_setCell w.drew BL 0 (.slice x' (l.length - (k + 1)) cap')
            refine reg_next hK g1 ?_
            clear hK K
            try simp only [Act.put]
            refine wpAnyH_done (by kernel_rfl) ?_ _
            go_wp2
            go_ret
            exact HR.out
      · have h8 : (k : Int) < 8 := by omega
        by_cases hk0 : k = 0
        · have h0 : ((k : Int) == 0) = true := by simp; omega
          have HK0 := Lib.hid hk0
          clear hk0
          by_cases hdg : 128 ≤ d
          · have hlt2 : ¬ (d : Int) < 128 := by omega
            have HR := Lib.hid (show tk (k + 1) M (l.drop (k + 1)) = take l from by rw [← HT.out, tk_go (by omega) (by have := HD.out; omega), ← HD.out, HM.out])
            clear HT HM HN HS' HXN HC' HSL
            go_wp2_with fail
            refine (must_yes _ _).mono ?_; rintro e w2 ⟨⟨v, rfl⟩, rfl⟩
            go_wp2
            go_roundw
            case rel => exact ⟨k + 1, M, by omega, by omega, rfl, by first | rfl | exact congrArg (Value.int .i64) m1, HM4.out, HR.out, by first | trivial | rfl⟩
            case measure => simp [intOf]; omega
          · have hlt2 : (d : Int) < 128 := by omega
            have HR := Lib.hid (show NextDP BL N0 e1 e2 w (take l) (.returned (.int .i64 (M : Nat))) (w.drew.setCell ⟨BL, 0, none⟩ (.slice x' (l.length - (k + 1)) cap')) from by
              rw [← HT.out, tk_ret (by have := HD.out; have := HK0.out; omega) (by have := HD.out; omega), ← HD.out, show N + d * 128 ^ k = M from by rw [HM.out, Nat.mod_eq_of_lt (by omega)], show l.length - (k + 1) = (l.drop (k + 1)).length from by simp]
              exact ⟨rfl, next_endP (l := l) HB.out HS'.out HXN.out (by have := HC'.out; simpa using this) w.drew ⟨rfl, rfl, rfl, Nat.le_refl _, fun _ _ _ => rfl⟩⟩)
            clear HT HM4 HM HN HS' HXN HC'
            go_wp2_with fail
            refine (must_yes _ _).mono ?_; rintro e w2 ⟨⟨v, rfl⟩, rfl⟩
            go_wp2
            refine reg_open ((some BL)) (n := 9) rfl (by kernel_rfl) ?_
            refine reg_take 0 (some 42) (v := ?_) rfl rfl (by kernel_rfl) (by kernel_rfl) (by kernel_rfl) (fun _ _ _ h => h) (by rfl) ?_ ?_
            rotate_left
            · intro W hW; have k4 := (hW).cell (show w.drew.cell? ⟨C1, 0, none⟩ = some (.pointer (some ⟨BL, 0, none⟩)) from k1) (by simpa using HCB.out); go_simp; first | done | with_reducible rfl
            try simp only [Act.put, List.setIfInBounds_toArray, List.set_cons_zero, List.set_cons_succ]
            refine reg_take 1 (some 43) (v := ?_) rfl rfl (by kernel_rfl) (by kernel_rfl) (by kernel_rfl) (fun _ _ _ h => h) (by rfl) ?_ ?_
            rotate_left
            · intro W hW; have k4 := (hW).cell (show w.drew.cell? ⟨C1, 0, none⟩ = some (.pointer (some ⟨BL, 0, none⟩)) from k1) (by simpa using HCB.out); go_simp; first | done | with_reducible rfl
            try simp only [Act.put, List.setIfInBounds_toArray, List.set_cons_zero, List.set_cons_succ]
            refine reg_take 2 (some 44) (v := ?_) rfl rfl (by kernel_rfl) (by kernel_rfl) (by kernel_rfl) (fun _ _ _ h => h) (by rfl) ?_ ?_
            rotate_left
            · intro W hW; go_simp; first | done | with_reducible rfl
            try simp only [Act.put, List.setIfInBounds_toArray, List.set_cons_zero, List.set_cons_succ]
            refine reg_take 4 (some 46) (v := ?_) rfl rfl (by kernel_rfl) (by kernel_rfl) (by kernel_rfl) (fun _ _ _ h => h) (by rfl) ?_ ?_
            rotate_left
            · intro W hW; go_simp; first | done | with_reducible rfl
            try simp only [Act.put, List.setIfInBounds_toArray, List.set_cons_zero, List.set_cons_succ]
            refine reg_take 5 (some 47) (v := ?_) rfl rfl (by kernel_rfl) (by kernel_rfl) (by kernel_rfl) (fun _ _ _ h => h) (by rfl) ?_ ?_
            rotate_left
            · intro W hW; go_simp; first | done | with_reducible rfl
            try simp only [Act.put, List.setIfInBounds_toArray, List.set_cons_zero, List.set_cons_succ]
            refine wpAnyH_ready (rs := [3]) (by kernel_rfl) (by simp) ?_
            refine (AllReadyH.cons (o := { dst := some 45, op := Op.load 23 (Operand.tmp 44), type := 23, pos := "log.go:131", after := #[{ on := 2, ground := Ground.data }], guard := none }) rfl (fun K hK => ?_) AllReadyH.nil)
            have k5 : w.drew.cell? ⟨BL, 0, none⟩ = _ := kb
            go_simp
            refine reg_same hK ?_
            clear hK K
            try simp only [Act.put, List.setIfInBounds_toArray, List.set_cons_zero, List.set_cons_succ]
            refine reg_take 6 (some 48) (v := ?_) rfl rfl (by kernel_rfl) (by kernel_rfl) (by kernel_rfl) (fun _ _ _ h => h) (by rfl) ?_ ?_
            rotate_left
            · intro W hW; refine exec_sl eB elemB (x := .tmp 45) (y := .tmp 47) ?_ (some ⟨b, o, none⟩) l.length cap (k + 1) ?_ ?_ (by omega) _ (.slice x' (l.length - (k + 1)) cap') HSL.out.symm <;> rfl
            try simp only [Act.put, List.setIfInBounds_toArray, List.set_cons_zero, List.set_cons_succ]
            refine reg_take 7 (some 49) (v := ?_) rfl rfl (by kernel_rfl) (by kernel_rfl) (by kernel_rfl) (fun _ _ _ h => h) (by rfl) ?_ ?_
            rotate_left
            · intro W hW; go_simp; first | done | with_reducible rfl
            try simp only [Act.put, List.setIfInBounds_toArray, List.set_cons_zero, List.set_cons_succ]
            refine wpAnyH_ready (rs := [8]) (by kernel_rfl) (by simp) ?_
            refine (AllReadyH.cons (o := { dst := none, op := Op.store 23 (Operand.tmp 49) (Operand.tmp 48), type := 0, pos := "log.go:131", after := #[{ on := 7, ground := Ground.data }, { on := 6, ground := Ground.data }, { on := 0, ground := Ground.phase }, { on := 1, ground := Ground.phase }, { on := 2, ground := Ground.phase }, { on := 3, ground := Ground.phase }, { on := 4, ground := Ground.phase }, { on := 5, ground := Ground.phase }, { on := 6, ground := Ground.phase }], guard := none }) rfl (fun K hK => ?_) AllReadyH.nil)
            have k5 : w.drew.cell? ⟨BL, 0, none⟩ = _ := kb
            have k6 := frozen_all (show w.drew.heap[BL]? = _ from HB.out) 0
            go_simp
            have g1 := grown_setCell w.drew BL 0 (.slice x' (l.length - (k + 1)) cap')
            refine reg_next hK g1 ?_
            clear hK K
            try simp only [Act.put]
            refine wpAnyH_done (by kernel_rfl) ?_ _
            go_wp2
            go_ret
            exact HR.out
        · have h0 : ((k : Int) == 0) = false := by simp; omega
          by_cases hdg : 128 ≤ d
          · have hlt2 : ¬ (d : Int) < 128 := by omega
            have hz : ((d : Int) != 0) = true := by simp; omega
            have HR := Lib.hid (show tk (k + 1) M (l.drop (k + 1)) = take l from by rw [← HT.out, tk_go (by omega) (by have := HD.out; omega), ← HD.out, HM.out])
            clear HT HM HN HS' HXN HC' HSL
            go_wp2_with fail
            refine (must_yes _ _).mono ?_; rintro e w2 ⟨⟨v, rfl⟩, rfl⟩
            go_wp2
            go_roundw
            case rel => exact ⟨k + 1, M, by omega, by omega, rfl, by first | rfl | exact congrArg (Value.int .i64) m1, HM4.out, HR.out, by first | trivial | rfl⟩
            case measure => simp [intOf]; omega
          · by_cases hd0 : d = 0
            · have hlt2 : (d : Int) < 128 := by omega
              have hz : ((d : Int) != 0) = false := by simp; omega
              have HD0 := Lib.hid hd0
              clear hd0
              have HR := Lib.hid (show take l = .no from by rw [← HT.out, tk_no (by have := HD.out; have := HD0.out; omega)])
              clear HT HM4 HM HN
              go_wp2_with fail
              refine (must_no _ _).mono ?_; rintro e w2 ⟨rfl, rfl⟩
              go_wp2
              exact ⟨rfl, by rw [HR.out]; exact ⟨rfl, World.grownBy.refl _ _⟩⟩
            · have hlt2 : (d : Int) < 128 := by omega
              have hz : ((d : Int) != 0) = true := by simp; omega
              have HR := Lib.hid (show NextDP BL N0 e1 e2 w (take l) (.returned (.int .i64 (M : Nat))) (w.drew.setCell ⟨BL, 0, none⟩ (.slice x' (l.length - (k + 1)) cap')) from by
                rw [← HT.out, tk_ret (by have := HD.out; omega) (by have := HD.out; omega), ← HD.out, show N + d * 128 ^ k = M from by rw [HM.out, Nat.mod_eq_of_lt (by omega)], show l.length - (k + 1) = (l.drop (k + 1)).length from by simp]
                exact ⟨rfl, next_endP (l := l) HB.out HS'.out HXN.out (by have := HC'.out; simpa using this) w.drew ⟨rfl, rfl, rfl, Nat.le_refl _, fun _ _ _ => rfl⟩⟩)
              clear HT HM4 HM HN HS' HXN HC'
              go_wp2_with fail
              refine (must_yes _ _).mono ?_; rintro e w2 ⟨⟨v, rfl⟩, rfl⟩
              go_wp2
              refine reg_open ((some BL)) (n := 9) rfl (by kernel_rfl) ?_
              refine reg_take 0 (some 42) (v := ?_) rfl rfl (by kernel_rfl) (by kernel_rfl) (by kernel_rfl) (fun _ _ _ h => h) (by rfl) ?_ ?_
              rotate_left
              · intro W hW; have k4 := (hW).cell (show w.drew.cell? ⟨C1, 0, none⟩ = some (.pointer (some ⟨BL, 0, none⟩)) from k1) (by simpa using HCB.out); go_simp; first | done | with_reducible rfl
              try simp only [Act.put, List.setIfInBounds_toArray, List.set_cons_zero, List.set_cons_succ]
              refine reg_take 1 (some 43) (v := ?_) rfl rfl (by kernel_rfl) (by kernel_rfl) (by kernel_rfl) (fun _ _ _ h => h) (by rfl) ?_ ?_
              rotate_left
              · intro W hW; have k4 := (hW).cell (show w.drew.cell? ⟨C1, 0, none⟩ = some (.pointer (some ⟨BL, 0, none⟩)) from k1) (by simpa using HCB.out); go_simp; first | done | with_reducible rfl
              try simp only [Act.put, List.setIfInBounds_toArray, List.set_cons_zero, List.set_cons_succ]
              refine reg_take 2 (some 44) (v := ?_) rfl rfl (by kernel_rfl) (by kernel_rfl) (by kernel_rfl) (fun _ _ _ h => h) (by rfl) ?_ ?_
              rotate_left
              · intro W hW; go_simp; first | done | with_reducible rfl
              try simp only [Act.put, List.setIfInBounds_toArray, List.set_cons_zero, List.set_cons_succ]
              refine reg_take 4 (some 46) (v := ?_) rfl rfl (by kernel_rfl) (by kernel_rfl) (by kernel_rfl) (fun _ _ _ h => h) (by rfl) ?_ ?_
              rotate_left
              · intro W hW; go_simp; first | done | with_reducible rfl
              try simp only [Act.put, List.setIfInBounds_toArray, List.set_cons_zero, List.set_cons_succ]
              refine reg_take 5 (some 47) (v := ?_) rfl rfl (by kernel_rfl) (by kernel_rfl) (by kernel_rfl) (fun _ _ _ h => h) (by rfl) ?_ ?_
              rotate_left
              · intro W hW; go_simp; first | done | with_reducible rfl
              try simp only [Act.put, List.setIfInBounds_toArray, List.set_cons_zero, List.set_cons_succ]
              refine wpAnyH_ready (rs := [3]) (by kernel_rfl) (by simp) ?_
              refine (AllReadyH.cons (o := { dst := some 45, op := Op.load 23 (Operand.tmp 44), type := 23, pos := "log.go:131", after := #[{ on := 2, ground := Ground.data }], guard := none }) rfl (fun K hK => ?_) AllReadyH.nil)
              have k5 : w.drew.cell? ⟨BL, 0, none⟩ = _ := kb
              go_simp
              refine reg_same hK ?_
              clear hK K
              try simp only [Act.put, List.setIfInBounds_toArray, List.set_cons_zero, List.set_cons_succ]
              refine reg_take 6 (some 48) (v := ?_) rfl rfl (by kernel_rfl) (by kernel_rfl) (by kernel_rfl) (fun _ _ _ h => h) (by rfl) ?_ ?_
              rotate_left
              · intro W hW; refine exec_sl eB elemB (x := .tmp 45) (y := .tmp 47) ?_ (some ⟨b, o, none⟩) l.length cap (k + 1) ?_ ?_ (by omega) _ (.slice x' (l.length - (k + 1)) cap') HSL.out.symm <;> rfl
              try simp only [Act.put, List.setIfInBounds_toArray, List.set_cons_zero, List.set_cons_succ]
              refine reg_take 7 (some 49) (v := ?_) rfl rfl (by kernel_rfl) (by kernel_rfl) (by kernel_rfl) (fun _ _ _ h => h) (by rfl) ?_ ?_
              rotate_left
              · intro W hW; go_simp; first | done | with_reducible rfl
              try simp only [Act.put, List.setIfInBounds_toArray, List.set_cons_zero, List.set_cons_succ]
              refine wpAnyH_ready (rs := [8]) (by kernel_rfl) (by simp) ?_
              refine (AllReadyH.cons (o := { dst := none, op := Op.store 23 (Operand.tmp 49) (Operand.tmp 48), type := 0, pos := "log.go:131", after := #[{ on := 7, ground := Ground.data }, { on := 6, ground := Ground.data }, { on := 0, ground := Ground.phase }, { on := 1, ground := Ground.phase }, { on := 2, ground := Ground.phase }, { on := 3, ground := Ground.phase }, { on := 4, ground := Ground.phase }, { on := 5, ground := Ground.phase }, { on := 6, ground := Ground.phase }], guard := none }) rfl (fun K hK => ?_) AllReadyH.nil)
              have k5 : w.drew.cell? ⟨BL, 0, none⟩ = _ := kb
              have k6 := frozen_all (show w.drew.heap[BL]? = _ from HB.out) 0
              go_simp
              have g1 := grown_setCell w.drew BL 0 (.slice x' (l.length - (k + 1)) cap')
              refine reg_next hK g1 ?_
              clear hK K
              try simp only [Act.put]
              refine wpAnyH_done (by kernel_rfl) ?_ _
              go_wp2
              go_ret
              exact HR.out
    · have HR := Lib.hid (show take l = .soon from by rw [← htk, show l.drop k = [] from List.drop_of_length_le (by omega)]; rfl)
      have hlt' : ¬ (k : Int) < (l.length : Nat) := by omega
      clear htk hN
      go_wp2
      exact ⟨rfl, by rw [HR.out]; exact ⟨rfl, World.grownBy.refl _ _⟩⟩
theorem next_numP {W : World} {BL N0 C1 C2 C3 : Nat} {e1 e2 : Int} {x : Option Addr} {cap n : Nat} {l r : List UInt8} (hr : Rd W BL C1 C2 C3 e1 e2) (hl : Lf W BL x cap l) (hN : ∀ b o, x = some ⟨b, o, none⟩ → l ≠ [] → b < N0) (hn : l.length ≤ 1000000) (ht : take l = .num n r) :
    Calls Try.prog 46 #[.pointer (some ⟨C1, 0, none⟩), .pointer (some ⟨C2, 0, none⟩), .pointer (some ⟨C3, 0, none⟩)] W fun e w' => ∃ x' cap', e = .returned (.int .i64 (n : Nat)) ∧ Lf w' BL x' cap' r ∧ W.grownBy w' (some BL) ∧ Rd w' BL C1 C2 C3 e1 e2 ∧ (∀ b o, x' = some ⟨b, o, none⟩ → r ≠ [] → b < N0) :=
  (next_anyP C1 C2 C3 BL N0 e1 e2 x cap l W hl.s hl.c hn (fun b o h1 h2 => ⟨hl.n b o h1 h2, hN b o h1 h2⟩) hr.c1 hr.c2 hr.c3 hl.b).mono (fun e w' h => by
    rw [ht] at h
    obtain ⟨h0, x', cap', h1, h2, h3, h4, h5⟩ := h
    obtain ⟨n1, n2, n3⟩ := hr.ne hl.b (by decide) (by decide)
    exact ⟨x', cap', h0, ⟨h2, h1, fun b o e1 e2 => (h3 b o e1 e2).1, h4⟩, h5, hr.row h5 n1 n2 n3, fun b o e1 e2 => (h3 b o e1 e2).2⟩)
/-- What is sliced lies where it lay. -/
theorem sliced_blk {x x' : Option Addr} {k n cap m c : Nat} (h : sliced x k n cap 1 = .slice x' m c) {N0 : Nat} {l l' : List UInt8} (hx : ∀ b o, x = some ⟨b, o, none⟩ → l ≠ [] → b < N0) (hl : l' ≠ [] → l ≠ []) (hs : ∀ b o s, x = some ⟨b, o, s⟩ → l ≠ [] → s = none) : ∀ b o, x' = some ⟨b, o, none⟩ → l' ≠ [] → b < N0 := by
  intro b o e he
  unfold sliced at h
  injection h with e0 e1 e2
  split at e0
  · exact hx b o (e0.trans e) (hl he)
  · cases x with
    | none => rw [e] at e0; cases e0
    | some a =>
      obtain ⟨b1, o1, s1⟩ := a
      have h1 := hs b1 o1 s1 rfl (hl he)
      subst h1
      rw [e] at e0
      simp [Addr.add] at e0
      split at e0 <;> (injection e0 with e3 e4; exact e3 ▸ hx b1 o1 rfl (hl he))
theorem src_spot {w : World} {x : Option Addr} {l : List UInt8} (h : Go.Proofs.Ytpoifobhbmhelaa.Src w x l) : ∀ b o s, x = some ⟨b, o, s⟩ → l ≠ [] → s = none := by
  intro b o s e hl
  rcases h with h | ⟨b', o', hx, _⟩
  · exact absurd h hl
  · rw [hx] at e; cases e; rfl
end Go.Proofs.Ytpoifobhbmhelaa
