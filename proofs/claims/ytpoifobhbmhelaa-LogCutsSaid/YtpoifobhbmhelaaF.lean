import Derived.Test.YtpoifobhbmhelaaE
import Derived.Laws.Bits128
set_option linter.unusedVariables false
set_option linter.unusedSimpArgs false
namespace Go.Proofs.Ytpoifobhbmhelaa
open Go.RowKit
theorem two_new3 (w : World) (a b c : Obj) : (((w.alloc a).alloc b).alloc c).heap[w.heap.size]? = some a ∧ (((w.alloc a).alloc b).alloc c).heap[w.heap.size + 1]? = some b ∧ (((w.alloc a).alloc b).alloc c).heap[w.heap.size + 1 + 1]? = some c := by
  have e1 : (w.alloc a).heap.size = w.heap.size + 1 := World.size_alloc _ _
  have e2 : ((w.alloc a).alloc b).heap.size = w.heap.size + 1 + 1 := by rw [World.size_alloc, e1]
  refine ⟨?_, ?_, ?_⟩
  · exact (heap_alloc_old _ _ (by omega)).trans ((heap_alloc_old _ _ (by omega)).trans (heap_alloc_new w a))
  · exact (heap_alloc_old _ _ (by omega)).trans (e1 ▸ heap_alloc_new (w.alloc a) b)
  · exact e2 ▸ heap_alloc_new ((w.alloc a).alloc b) c
theorem reader_any (BL : Nat) (e1 e2 : Int) (w : World) : Calls Try.prog 34 #[.pointer (some ⟨BL, 0, none⟩), .int .i64 e1, .int .i64 e2] w fun e w' => e = .returned (.func (.func 46) #[] #[.pointer (some ⟨w.heap.size, 0, none⟩), .pointer (some ⟨w.heap.size + 1, 0, none⟩), .pointer (some ⟨w.heap.size + 1 + 1, 0, none⟩)]) ∧ w.grownBy w' none ∧
    w'.heap[w.heap.size]? = some (.cells #[.pointer (some ⟨BL, 0, none⟩)] 72 (0, 0)) ∧ w'.heap[w.heap.size + 1]? = some (.cells #[.int .i64 e1] 32 (0, 0)) ∧ w'.heap[w.heap.size + 1 + 1]? = some (.cells #[.int .i64 e2] 32 (0, 0)) := by
  have H := Lib.hid (two_new3 w (.cells #[.pointer (some ⟨BL, 0, none⟩)] 72) (.cells #[.int .i64 e1] 32) (.cells #[.int .i64 e2] 32))
  go_enter Try.func34, Try.ntmps34
  go_wp2
  go_ret
  exact ⟨rfl, ((World.grownBy_alloc _ _ _).trans (World.grownBy_alloc _ _ _)).trans (World.grownBy_alloc _ _ _), H.out⟩
/-- A slice of bytes from a place on. -/
theorem src_from {w : World} {x : Option Addr} {cap : Nat} {l : List UInt8} (h : Go.Proofs.Ytpoifobhbmhelaa.Src w x l) (hc : l.length ≤ cap) (k : Nat) (hk : k ≤ l.length) : ∃ x' cap', sliced x k l.length cap 1 = .slice x' (l.length - k) cap' ∧ l.length - k ≤ cap' ∧ Go.Proofs.Ytpoifobhbmhelaa.Src w x' (l.drop k) := by
  unfold sliced
  by_cases he : cap = k
  · subst he
    rw [if_pos rfl]
    exact ⟨_, _, rfl, by omega, .inl (List.drop_of_length_le (by omega))⟩
  · rw [if_neg he]
    refine ⟨_, _, rfl, by omega, ?_⟩
    rcases h with rfl | ⟨b, o, rfl, hc⟩
    · exact .inl (by simp)
    · refine .inr ⟨b, o + k, by simp [Addr.add], fun j hj => ?_⟩
      rw [List.length_drop] at hj
      have := hc (k + j) (by omega)
      rw [← Nat.add_assoc] at this
      rw [this]
      simp
theorem i64_or_nat (a b : Nat) (ha : a < 9223372036854775808) (hb : b < 9223372036854775808) : bits .or .i64 (a : Int) (b : Int) = ((a ||| b : Nat) : Int) := by
  have hx : a ||| b < 2 ^ 63 := Nat.or_lt_two_pow (by omega) (by omega)
  show IntKind.i64.wrap ((BitVec.ofInt 64 (a : Int) ||| BitVec.ofInt 64 (b : Int)).toNat : Int) = _
  rw [BitVec.toNat_or, ofInt_u64 a (by omega), ofInt_u64 b (by omega), IntKind.wrap_i64]
  omega
theorem pow7 (k : Nat) : 2 ^ (7 * k) = 128 ^ k := by rw [Nat.pow_mul]
theorem or_num {k N d : Nat} (hk : k ≤ 8) (hN : N < 128 ^ k) (hd : d < 256) : bits .or .i64 (N : Int) (wrap64 (wrap64 (bits .and .u8 (d : Int) 127) * 2 ^ (7 * k))) = ((N + d % 128 * 128 ^ k : Nat) : Int) := by
  have e1 : bits .and .u8 (d : Int) 127 = ((d % 128 : Nat) : Int) := by
    have := u8_and_nat d 127 hd (by decide)
    rw [nat_mask7] at this
    exact this
  have h8 : 128 ^ k ≤ 128 ^ 8 := Nat.pow_le_pow_right (by decide) hk
  have hb : d % 128 * 128 ^ k ≤ 127 * 128 ^ k := Nat.mul_le_mul_right _ (by omega)
  rw [e1, IntWalk.wrap64_in ((d % 128 : Nat) : Int) ⟨by omega, by omega⟩]
  have e2 : ((d % 128 : Nat) : Int) * 2 ^ (7 * k) = ((d % 128 * 128 ^ k : Nat) : Int) := by rw [← pow7]; push_cast; rfl
  rw [e2, IntWalk.wrap64_in _ ⟨by omega, by omega⟩, i64_or_nat _ _ (by omega) (by omega)]
  rw [Nat.or_comm, nat_join (7 * k) _ _ (by rw [← pow7]; exact Nat.mul_mod_left _ _) (by rw [pow7]; exact hN), Nat.add_comm]
abbrev Pan (e : Int) : Ending := .panicked [{ v := .iface 66 (.agg #[.int .i64 e]), recovered := false }]
/-- What a reader does. -/
def NextDo (BL : Nat) (e1 e2 : Int) (w : World) (t : Tk) (e : Ending) (w' : World) : Prop :=
  match t with
  | .no => e = Pan e1 ∧ w.grownBy w' none
  | .soon => e = Pan e2 ∧ w.grownBy w' none
  | .num n r => e = .returned (.int .i64 (n : Nat)) ∧ ∃ x cap, r.length ≤ cap ∧ Go.Proofs.Ytpoifobhbmhelaa.Src w' x r ∧ (∀ b o, x = some ⟨b, o, none⟩ → r ≠ [] → b ≠ BL) ∧ w'.heap[BL]? = some (.cells #[.slice x r.length cap] 23 (0, 0)) ∧ w.grownBy w' (some BL)
theorem next_end {BL : Nat} {w : World} {x x' : Option Addr} {n cap cap' : Nat} {l r : List UInt8} (hb : w.heap[BL]? = some (.cells #[.slice x n cap] 23 (0, 0))) (hs : Go.Proofs.Ytpoifobhbmhelaa.Src w x' r) (hne : ∀ b o, x' = some ⟨b, o, none⟩ → r ≠ [] → b ≠ BL) (hc : r.length ≤ cap') (u : World) (hu : w.grownBy u none) :
    ∃ x cap, r.length ≤ cap ∧ Go.Proofs.Ytpoifobhbmhelaa.Src (u.setCell ⟨BL, 0, none⟩ (.slice x' r.length cap')) x r ∧ (∀ b o, x = some ⟨b, o, none⟩ → r ≠ [] → b ≠ BL) ∧ (u.setCell ⟨BL, 0, none⟩ (.slice x' r.length cap')).heap[BL]? = some (.cells #[.slice x r.length cap] 23 (0, 0)) ∧ w.grownBy (u.setCell ⟨BL, 0, none⟩ (.slice x' r.length cap')) (some BL) := by
  have hg := grown_setCell u BL 0 (.slice x' r.length cap')
  have hbu := (hu.block BL (lt_of_block hb) (by simp)).trans hb
  refine ⟨x', cap', hc, ?_, hne, heap_setCell_at _ hbu, (grown_none hu _).trans hg⟩
  rcases (hs.keptNone hu) with h | ⟨b, o, ha, hcl⟩
  · exact .inl h
  · by_cases hr : r = []
    · exact .inl hr
    · exact .inr ⟨b, o, ha, fun j hj => hg.cell (hcl j hj) (fun e => hne b o ha hr (by simpa using e))⟩
theorem drop_at {l : List UInt8} {k : Nat} {c : UInt8} (h : k < l.length) (hc : c = l[k]) : l.drop k = c :: l.drop (k + 1) := by rw [hc]; exact List.drop_eq_getElem_cons h
set_option maxRecDepth 100000 in
set_option maxHeartbeats 2000000 in
theorem next_any (C1 C2 C3 BL : Nat) (e1 e2 : Int) (x : Option Addr) (cap : Nat) (l : List UInt8) (w : World) (hs : Go.Proofs.Ytpoifobhbmhelaa.Src w x l) (hcap : l.length ≤ cap) (hl : l.length ≤ 1000000) (hnb : ∀ b o, x = some ⟨b, o, none⟩ → l ≠ [] → b ≠ BL)
    (h1 : w.heap[C1]? = some (.cells #[.pointer (some ⟨BL, 0, none⟩)] 72 (0, 0))) (h2 : w.heap[C2]? = some (.cells #[.int .i64 e1] 32 (0, 0))) (h3 : w.heap[C3]? = some (.cells #[.int .i64 e2] 32 (0, 0))) (hb : w.heap[BL]? = some (.cells #[.slice x l.length cap] 23 (0, 0))) :
    Calls Try.prog 46 #[.pointer (some ⟨C1, 0, none⟩), .pointer (some ⟨C2, 0, none⟩), .pointer (some ⟨C3, 0, none⟩)] w fun e w' => NextDo BL e1 e2 w (take l) e w' := by
  have HS := Lib.hid hs
  have HB := Lib.hid hb
  have HNB := Lib.hid hnb
  have HCB := Lib.hid (show C1 ≠ BL from fun e => by subst e; rw [hb] at h1; cases h1)
  have k1 : w.cell? ⟨C1, 0, none⟩ = some (.pointer (some ⟨BL, 0, none⟩)) := cells_all h1 0
  have k2 : w.cell? ⟨C2, 0, none⟩ = some (.int .i64 e1) := cells_all h2 0
  have k3 : w.cell? ⟨C3, 0, none⟩ = some (.int .i64 e2) := cells_all h3 0
  have kb : w.cell? ⟨BL, 0, none⟩ = some (.slice x l.length cap) := cells_all hb 0
  clear hs h1 h2 h3 hb hnb
  go_enter Try.func46, Try.ntmps46
  go_wp2
  go_loopw [4, 11] (fun n i wr => ∃ (k N : Nat), k ≤ l.length ∧ k ≤ 8 ∧ i = .int .i64 k ∧ n = .int .i64 (N : Nat) ∧ N < 128 ^ k ∧ tk k N (l.drop k) = take l ∧ w = wr) (fun _ i _ => l.length - (intOf i).toNat)
  case atStart => exact ⟨0, 0, Nat.zero_le _, by omega, rfl, rfl, by simp, rfl, rfl⟩
  case round =>
    obtain ⟨k, N, hk, hk8, rfl, rfl, hN, htk, rfl⟩ := hrel
    by_cases hlt : k < l.length
    · obtain ⟨b, o, hx, hc⟩ := src_some HS.out (fun e => by subst e; simp at hlt)
      obtain ⟨x', cap', hsl, hc', hs'⟩ := src_from HS.out hcap (k + 1) (by omega)
      have HXN := Lib.hid (show ∀ b' o', x' = some ⟨b', o', none⟩ → l.drop (k + 1) ≠ [] → b' ≠ BL from fun b' o' e hne => by
        have hb0 := HNB.out b o hx (fun e => by subst e; simp at hlt)
        by_cases hcp : cap = k + 1
        · exact absurd (List.drop_of_length_le (by omega)) hne
        · subst hx
          unfold sliced at hsl
          rw [if_neg hcp] at hsl
          injection hsl with e0 e1' e2'
          rw [e] at e0
          simp [Addr.add] at e0
          omega)
      have HSL := Lib.hid hsl
      have HS' := Lib.hid hs'
      subst hx
      have hcj := hc k hlt
      obtain ⟨c, hcc⟩ : ∃ c, c = l[k] := ⟨_, rfl⟩
      rw [drop_at hlt hcc] at htk
      rw [← hcc] at hcj
      clear hcc
      obtain ⟨d, hd⟩ : ∃ d : Nat, d = c.toNat := ⟨_, rfl⟩
      rw [← hd] at hcj
      have hd256 : d < 256 := by rw [hd]; exact c.toNat_lt
      have m1 := or_num hk8 hN hd256
      have m4 := (tk_num (d := d) hk8 hN rfl).2.2.2
      obtain ⟨M, hM⟩ : ∃ M : Nat, M = N + d % 128 * 128 ^ k := ⟨_, rfl⟩
      rw [← hM] at m1 m4
      have hlt' : (k : Int) < (l.length : Nat) := by omega
      have hwk : IntKind.i64.wrap ((k : Int) + 1) = ((k + 1 : Nat) : Int) := by rw [IntKind.wrap_i64]; omega
      have HD := Lib.hid hd
      have HT := Lib.hid htk
      have HN := Lib.hid hN
      have HM := Lib.hid hM
      have HM4 := Lib.hid m4
      have HC' := Lib.hid hc'
      clear hc hd htk hN hM m4 hsl hs' hc'
      by_cases hke : k = 8
      · have h8 : ¬ (k : Int) < 8 := by omega
        have h0 : ((k : Int) == 0) = false := by simp; omega
        have HKE := Lib.hid hke
        clear hke
        by_cases hdg : 128 ≤ d
        · have hlt2 : ¬ (d : Int) < 128 := by omega
          have hz : ((d : Int) != 0) = true := by simp; omega
          have HR := Lib.hid (show take l = .no from by rw [← HT.out, tk_no (by have := HD.out; have := HKE.out; omega)])
          clear HT HM4 HM HN
          go_wp2_with fail
          refine (must_no _ _).mono ?_; rintro e w2 ⟨rfl, rfl⟩
          go_wp2
          exact ⟨rfl, by rw [HR.out]; exact ⟨rfl, World.grownBy.refl _ _⟩⟩
        · by_cases hd0 : d = 0
          · have hlt2 : (d : Int) < 128 := by omega
            have hz : ((d : Int) != 0) = false := by simp; omega
            have HD0 := Lib.hid hd0
            clear hd0
            have HR := Lib.hid (show take l = .no from by rw [← HT.out, tk_no (by have := HD.out; have := HD0.out; have := HKE.out; omega)])
            clear HT HM4 HM HN
            go_wp2_with fail
            refine (must_no _ _).mono ?_; rintro e w2 ⟨rfl, rfl⟩
            go_wp2
            exact ⟨rfl, by rw [HR.out]; exact ⟨rfl, World.grownBy.refl _ _⟩⟩
          · have hlt2 : (d : Int) < 128 := by omega
            have hz : ((d : Int) != 0) = true := by simp; omega
            have HR := Lib.hid (show NextDo BL e1 e2 w (take l) (.returned (.int .i64 (M : Nat))) (w.drew.setCell ⟨BL, 0, none⟩ (.slice x' (l.length - (k + 1)) cap')) from by
              rw [← HT.out, tk_ret (by have := HD.out; omega) (by have := HD.out; omega), ← HD.out, show N + d * 128 ^ k = M from by rw [HM.out, Nat.mod_eq_of_lt (by omega)], show l.length - (k + 1) = (l.drop (k + 1)).length from by simp]
              exact ⟨rfl, next_end (l := l) HB.out HS'.out HXN.out (by have := HC'.out; simpa using this) w.drew ⟨rfl, rfl, rfl, Nat.le_refl _, fun _ _ _ => rfl⟩⟩)
            clear HT HM4 HM HN HS' HXN HC'
            go_wp2_with fail
            refine (must_yes _ _).mono ?_; rintro e w2 ⟨⟨v, rfl⟩, rfl⟩
            go_wp2
            refine reg_open ((some BL)) (n := 9) rfl (by kernel_rfl) ?_
            refine reg_take 0 (some 42) (v := ?_) rfl rfl (by kernel_rfl) (by kernel_rfl) (by kernel_rfl) (fun _ _ _ h => h) (by rfl) ?_ ?_
            rotate_left
            · intro W hW; have k4 := (hW).cell (show w.drew.cell? ⟨C1, 0, none⟩ = some (.pointer (some ⟨BL, 0, none⟩)) from k1) (by simpa using HCB.out); go_simp; first | done | with_reducible rfl
            try simp only [Act.put, List.setIfInBounds_toArray, List.set_cons_zero, List.set_cons_succ]
            refine reg_take 1 (some 43) (v := ?_) rfl rfl (by kernel_rfl) (by kernel_rfl) (by kernel_rfl) (fun _ _ _ h => h) (by rfl) ?_ ?_
            rotate_left
            · intro W hW; have k4 := (hW).cell (show w.drew.cell? ⟨C1, 0, none⟩ = some (.pointer (some ⟨BL, 0, none⟩)) from k1) (by simpa using HCB.out); go_simp; first | done | with_reducible rfl
            try simp only [Act.put, List.setIfInBounds_toArray, List.set_cons_zero, List.set_cons_succ]
            refine reg_take 2 (some 44) (v := ?_) rfl rfl (by kernel_rfl) (by kernel_rfl) (by kernel_rfl) (fun _ _ _ h => h) (by rfl) ?_ ?_
            rotate_left
            · intro W hW; go_simp; first | done | with_reducible rfl
            try simp only [Act.put, List.setIfInBounds_toArray, List.set_cons_zero, List.set_cons_succ]
            refine reg_take 4 (some 46) (v := ?_) rfl rfl (by kernel_rfl) (by kernel_rfl) (by kernel_rfl) (fun _ _ _ h => h) (by rfl) ?_ ?_
            rotate_left
            · intro W hW; go_simp; first | done | with_reducible rfl
            try simp only [Act.put, List.setIfInBounds_toArray, List.set_cons_zero, List.set_cons_succ]
            refine reg_take 5 (some 47) (v := ?_) rfl rfl (by kernel_rfl) (by kernel_rfl) (by kernel_rfl) (fun _ _ _ h => h) (by rfl) ?_ ?_
            rotate_left
            · intro W hW; go_simp; first | done | with_reducible rfl
            try simp only [Act.put, List.setIfInBounds_toArray, List.set_cons_zero, List.set_cons_succ]
            refine wpAnyH_ready (rs := [3]) (by kernel_rfl) (by simp) ?_
            refine (AllReadyH.cons (o := { dst := some 45, op := Op.load 23 (Operand.tmp 44), type := 23, pos := "log.go:131", after := #[{ on := 2, ground := Ground.data }], guard := none }) rfl (fun K hK => ?_) AllReadyH.nil)
            have k5 : w.drew.cell? ⟨BL, 0, none⟩ = _ := kb
            go_simp
            refine reg_same hK ?_
            clear hK K
            try simp only [Act.put, List.setIfInBounds_toArray, List.set_cons_zero, List.set_cons_succ]
            refine reg_take 6 (some 48) (v := ?_) rfl rfl (by kernel_rfl) (by kernel_rfl) (by kernel_rfl) (fun _ _ _ h => h) (by rfl) ?_ ?_
            rotate_left
            · intro W hW; refine exec_sl eB elemB (x := .tmp 45) (y := .tmp 47) ?_ (some ⟨b, o, none⟩) l.length cap (k + 1) ?_ ?_ (by omega) _ (.slice x' (l.length - (k + 1)) cap') HSL.out.symm <;> rfl
            try simp only [Act.put, List.setIfInBounds_toArray, List.set_cons_zero, List.set_cons_succ]
            refine reg_take 7 (some 49) (v := ?_) rfl rfl (by kernel_rfl) (by kernel_rfl) (by kernel_rfl) (fun _ _ _ h => h) (by rfl) ?_ ?_
            rotate_left
            · intro W hW; go_simp; first | done | with_reducible rfl
            try simp only [Act.put, List.setIfInBounds_toArray, List.set_cons_zero, List.set_cons_succ]
            refine wpAnyH_ready (rs := [8]) (by kernel_rfl) (by simp) ?_
            refine (AllReadyH.cons (o := { dst := none, op := Op.store 23 (Operand.tmp 49) (Operand.tmp 48), type := 0, pos := "log.go:131", after := #[{ on := 7, ground := Ground.data }, { on := 6, ground := Ground.data }, { on := 0, ground := Ground.phase }, { on := 1, ground := Ground.phase }, { on := 2, ground := Ground.phase }, { on := 3, ground := Ground.phase }, { on := 4, ground := Ground.phase }, { on := 5, ground := Ground.phase }, { on := 6, ground := Ground.phase }], guard := none }) rfl (fun K hK => ?_) AllReadyH.nil)
            have k5 : w.drew.cell? ⟨BL, 0, none⟩ = _ := kb
            have k6 := frozen_all (show w.drew.heap[BL]? = _ from HB.out) 0
            go_simp
            have g1 := grown_setCell w.drew BL 0 (.slice x' (l.length - (k + 1)) cap')
            refine reg_next hK g1 ?_
            clear hK K
            try simp only [Act.put]
            refine wpAnyH_done (by kernel_rfl) ?_ _
            go_wp2
            go_ret
            exact HR.out
      · have h8 : (k : Int) < 8 := by omega
        by_cases hk0 : k = 0
        · have h0 : ((k : Int) == 0) = true := by simp; omega
          have HK0 := Lib.hid hk0
          clear hk0
          by_cases hdg : 128 ≤ d
          · have hlt2 : ¬ (d : Int) < 128 := by omega
            have HR := Lib.hid (show tk (k + 1) M (l.drop (k + 1)) = take l from by rw [← HT.out, tk_go (by omega) (by have := HD.out; omega), ← HD.out, HM.out])
            clear HT HM HN HS' HXN HC' HSL
            go_wp2_with fail
            refine (must_yes _ _).mono ?_; rintro e w2 ⟨⟨v, rfl⟩, rfl⟩
            go_wp2
            go_roundw
            case rel => exact ⟨k + 1, M, by omega, by omega, rfl, by first | rfl | exact congrArg (Value.int .i64) m1, HM4.out, HR.out, by first | trivial | rfl⟩
            case measure => simp [intOf]; omega
          · have hlt2 : (d : Int) < 128 := by omega
            have HR := Lib.hid (show NextDo BL e1 e2 w (take l) (.returned (.int .i64 (M : Nat))) (w.drew.setCell ⟨BL, 0, none⟩ (.slice x' (l.length - (k + 1)) cap')) from by
              rw [← HT.out, tk_ret (by have := HD.out; have := HK0.out; omega) (by have := HD.out; omega), ← HD.out, show N + d * 128 ^ k = M from by rw [HM.out, Nat.mod_eq_of_lt (by omega)], show l.length - (k + 1) = (l.drop (k + 1)).length from by simp]
              exact ⟨rfl, next_end (l := l) HB.out HS'.out HXN.out (by have := HC'.out; simpa using this) w.drew ⟨rfl, rfl, rfl, Nat.le_refl _, fun _ _ _ => rfl⟩⟩)
            clear HT HM4 HM HN HS' HXN HC'
            go_wp2_with fail
            refine (must_yes _ _).mono ?_; rintro e w2 ⟨⟨v, rfl⟩, rfl⟩
            go_wp2
            refine reg_open ((some BL)) (n := 9) rfl (by kernel_rfl) ?_
            refine reg_take 0 (some 42) (v := ?_) rfl rfl (by kernel_rfl) (by kernel_rfl) (by kernel_rfl) (fun _ _ _ h => h) (by rfl) ?_ ?_
            rotate_left
            · intro W hW; have k4 := (hW).cell (show w.drew.cell? ⟨C1, 0, none⟩ = some (.pointer (some ⟨BL, 0, none⟩)) from k1) (by simpa using HCB.out); go_simp; first | done | with_reducible rfl
            try simp only [Act.put, List.setIfInBounds_toArray, List.set_cons_zero, List.set_cons_succ]
            refine reg_take 1 (some 43) (v := ?_) rfl rfl (by kernel_rfl) (by kernel_rfl) (by kernel_rfl) (fun _ _ _ h => h) (by rfl) ?_ ?_
            rotate_left
            · intro W hW; have k4 := (hW).cell (show w.drew.cell? ⟨C1, 0, none⟩ = some (.pointer (some ⟨BL, 0, none⟩)) from k1) (by simpa using HCB.out); go_simp; first | done | with_reducible rfl
            try simp only [Act.put, List.setIfInBounds_toArray, List.set_cons_zero, List.set_cons_succ]
            refine reg_take 2 (some 44) (v := ?_) rfl rfl (by kernel_rfl) (by kernel_rfl) (by kernel_rfl) (fun _ _ _ h => h) (by rfl) ?_ ?_
            rotate_left
            · intro W hW; go_simp; first | done | with_reducible rfl
            try simp only [Act.put, List.setIfInBounds_toArray, List.set_cons_zero, List.set_cons_succ]
            refine reg_take 4 (some 46) (v := ?_) rfl rfl (by kernel_rfl) (by kernel_rfl) (by kernel_rfl) (fun _ _ _ h => h) (by rfl) ?_ ?_
            rotate_left
            · intro W hW; go_simp; first | done | with_reducible rfl
            try simp only [Act.put, List.setIfInBounds_toArray, List.set_cons_zero, List.set_cons_succ]
            refine reg_take 5 (some 47) (v := ?_) rfl rfl (by kernel_rfl) (by kernel_rfl) (by kernel_rfl) (fun _ _ _ h => h) (by rfl) ?_ ?_
            rotate_left
            · intro W hW; go_simp; first | done | with_reducible rfl
            try simp only [Act.put, List.setIfInBounds_toArray, List.set_cons_zero, List.set_cons_succ]
            refine wpAnyH_ready (rs := [3]) (by kernel_rfl) (by simp) ?_
            refine (AllReadyH.cons (o := { dst := some 45, op := Op.load 23 (Operand.tmp 44), type := 23, pos := "log.go:131", after := #[{ on := 2, ground := Ground.data }], guard := none }) rfl (fun K hK => ?_) AllReadyH.nil)
            have k5 : w.drew.cell? ⟨BL, 0, none⟩ = _ := kb
            go_simp
            refine reg_same hK ?_
            clear hK K
            try simp only [Act.put, List.setIfInBounds_toArray, List.set_cons_zero, List.set_cons_succ]
            refine reg_take 6 (some 48) (v := ?_) rfl rfl (by kernel_rfl) (by kernel_rfl) (by kernel_rfl) (fun _ _ _ h => h) (by rfl) ?_ ?_
            rotate_left
            · intro W hW; refine exec_sl eB elemB (x := .tmp 45) (y := .tmp 47) ?_ (some ⟨b, o, none⟩) l.length cap (k + 1) ?_ ?_ (by omega) _ (.slice x' (l.length - (k + 1)) cap') HSL.out.symm <;> rfl
            try simp only [Act.put, List.setIfInBounds_toArray, List.set_cons_zero, List.set_cons_succ]
            refine reg_take 7 (some 49) (v := ?_) rfl rfl (by kernel_rfl) (by kernel_rfl) (by kernel_rfl) (fun _ _ _ h => h) (by rfl) ?_ ?_
            rotate_left
            · intro W hW; go_simp; first | done | with_reducible rfl
            try simp only [Act.put, List.setIfInBounds_toArray, List.set_cons_zero, List.set_cons_succ]
            refine wpAnyH_ready (rs := [8]) (by kernel_rfl) (by simp) ?_
            refine (AllReadyH.cons (o := { dst := none, op := Op.store 23 (Operand.tmp 49) (Operand.tmp 48), type := 0, pos := "log.go:131", after := #[{ on := 7, ground := Ground.data }, { on := 6, ground := Ground.data }, { on := 0, ground := Ground.phase }, { on := 1, ground := Ground.phase }, { on := 2, ground := Ground.phase }, { on := 3, ground := Ground.phase }, { on := 4, ground := Ground.phase }, { on := 5, ground := Ground.phase }, { on := 6, ground := Ground.phase }], guard := none }) rfl (fun K hK => ?_) AllReadyH.nil)
            have k5 : w.drew.cell? ⟨BL, 0, none⟩ = _ := kb
            have k6 := frozen_all (show w.drew.heap[BL]? = _ from HB.out) 0
            go_simp
            have g1 := grown_setCell w.drew BL 0 (.slice x' (l.length - (k + 1)) cap')
            refine reg_next hK g1 ?_
            clear hK K
            try simp only [Act.put]
            refine wpAnyH_done (by kernel_rfl) ?_ _
            go_wp2
            go_ret
            exact HR.out
        · have h0 : ((k : Int) == 0) = false := by simp; omega
          by_cases hdg : 128 ≤ d
          · have hlt2 : ¬ (d : Int) < 128 := by omega
            have hz : ((d : Int) != 0) = true := by simp; omega
            have HR := Lib.hid (show tk (k + 1) M (l.drop (k + 1)) = take l from by rw [← HT.out, tk_go (by omega) (by have := HD.out; omega), ← HD.out, HM.out])
            clear HT HM HN HS' HXN HC' HSL
            go_wp2_with fail
            refine (must_yes _ _).mono ?_; rintro e w2 ⟨⟨v, rfl⟩, rfl⟩
            go_wp2
            go_roundw
            case rel => exact ⟨k + 1, M, by omega, by omega, rfl, by first | rfl | exact congrArg (Value.int .i64) m1, HM4.out, HR.out, by first | trivial | rfl⟩
            case measure => simp [intOf]; omega
          · by_cases hd0 : d = 0
            · have hlt2 : (d : Int) < 128 := by omega
              have hz : ((d : Int) != 0) = false := by simp; omega
              have HD0 := Lib.hid hd0
              clear hd0
              have HR := Lib.hid (show take l = .no from by rw [← HT.out, tk_no (by have := HD.out; have := HD0.out; omega)])
              clear HT HM4 HM HN
              go_wp2_with fail
              refine (must_no _ _).mono ?_; rintro e w2 ⟨rfl, rfl⟩
              go_wp2
              exact ⟨rfl, by rw [HR.out]; exact ⟨rfl, World.grownBy.refl _ _⟩⟩
            · have hlt2 : (d : Int) < 128 := by omega
              have hz : ((d : Int) != 0) = true := by simp; omega
              have HR := Lib.hid (show NextDo BL e1 e2 w (take l) (.returned (.int .i64 (M : Nat))) (w.drew.setCell ⟨BL, 0, none⟩ (.slice x' (l.length - (k + 1)) cap')) from by
                rw [← HT.out, tk_ret (by have := HD.out; omega) (by have := HD.out; omega), ← HD.out, show N + d * 128 ^ k = M from by rw [HM.out, Nat.mod_eq_of_lt (by omega)], show l.length - (k + 1) = (l.drop (k + 1)).length from by simp]
                exact ⟨rfl, next_end (l := l) HB.out HS'.out HXN.out (by have := HC'.out; simpa using this) w.drew ⟨rfl, rfl, rfl, Nat.le_refl _, fun _ _ _ => rfl⟩⟩)
              clear HT HM4 HM HN HS' HXN HC'
              go_wp2_with fail
              refine (must_yes _ _).mono ?_; rintro e w2 ⟨⟨v, rfl⟩, rfl⟩
              go_wp2
              refine reg_open ((some BL)) (n := 9) rfl (by kernel_rfl) ?_
              refine reg_take 0 (some 42) (v := ?_) rfl rfl (by kernel_rfl) (by kernel_rfl) (by kernel_rfl) (fun _ _ _ h => h) (by rfl) ?_ ?_
              rotate_left
              · intro W hW; have k4 := (hW).cell (show w.drew.cell? ⟨C1, 0, none⟩ = some (.pointer (some ⟨BL, 0, none⟩)) from k1) (by simpa using HCB.out); go_simp; first | done | with_reducible rfl
              try simp only [Act.put, List.setIfInBounds_toArray, List.set_cons_zero, List.set_cons_succ]
              refine reg_take 1 (some 43) (v := ?_) rfl rfl (by kernel_rfl) (by kernel_rfl) (by kernel_rfl) (fun _ _ _ h => h) (by rfl) ?_ ?_
              rotate_left
              · intro W hW; have k4 := (hW).cell (show w.drew.cell? ⟨C1, 0, none⟩ = some (.pointer (some ⟨BL, 0, none⟩)) from k1) (by simpa using HCB.out); go_simp; first | done | with_reducible rfl
              try simp only [Act.put, List.setIfInBounds_toArray, List.set_cons_zero, List.set_cons_succ]
              refine reg_take 2 (some 44) (v := ?_) rfl rfl (by kernel_rfl) (by kernel_rfl) (by kernel_rfl) (fun _ _ _ h => h) (by rfl) ?_ ?_
              rotate_left
              · intro W hW; go_simp; first | done | with_reducible rfl
              try simp only [Act.put, List.setIfInBounds_toArray, List.set_cons_zero, List.set_cons_succ]
              refine reg_take 4 (some 46) (v := ?_) rfl rfl (by kernel_rfl) (by kernel_rfl) (by kernel_rfl) (fun _ _ _ h => h) (by rfl) ?_ ?_
              rotate_left
              · intro W hW; go_simp; first | done | with_reducible rfl
              try simp only [Act.put, List.setIfInBounds_toArray, List.set_cons_zero, List.set_cons_succ]
              refine reg_take 5 (some 47) (v := ?_) rfl rfl (by kernel_rfl) (by kernel_rfl) (by kernel_rfl) (fun _ _ _ h => h) (by rfl) ?_ ?_
              rotate_left
              · intro W hW; go_simp; first | done | with_reducible rfl
              try simp only [Act.put, List.setIfInBounds_toArray, List.set_cons_zero, List.set_cons_succ]
              refine wpAnyH_ready (rs := [3]) (by kernel_rfl) (by simp) ?_
              refine (AllReadyH.cons (o := { dst := some 45, op := Op.load 23 (Operand.tmp 44), type := 23, pos := "log.go:131", after := #[{ on := 2, ground := Ground.data }], guard := none }) rfl (fun K hK => ?_) AllReadyH.nil)
              have k5 : w.drew.cell? ⟨BL, 0, none⟩ = _ := kb
              go_simp
              refine reg_same hK ?_
              clear hK K
              try simp only [Act.put, List.setIfInBounds_toArray, List.set_cons_zero, List.set_cons_succ]
              refine reg_take 6 (some 48) (v := ?_) rfl rfl (by kernel_rfl) (by kernel_rfl) (by kernel_rfl) (fun _ _ _ h => h) (by rfl) ?_ ?_
              rotate_left
              · intro W hW; refine exec_sl eB elemB (x := .tmp 45) (y := .tmp 47) ?_ (some ⟨b, o, none⟩) l.length cap (k + 1) ?_ ?_ (by omega) _ (.slice x' (l.length - (k + 1)) cap') HSL.out.symm <;> rfl
              try simp only [Act.put, List.setIfInBounds_toArray, List.set_cons_zero, List.set_cons_succ]
              refine reg_take 7 (some 49) (v := ?_) rfl rfl (by kernel_rfl) (by kernel_rfl) (by kernel_rfl) (fun _ _ _ h => h) (by rfl) ?_ ?_
              rotate_left
              · intro W hW; go_simp; first | done | with_reducible rfl
              try simp only [Act.put, List.setIfInBounds_toArray, List.set_cons_zero, List.set_cons_succ]
              refine wpAnyH_ready (rs := [8]) (by kernel_rfl) (by simp) ?_
              refine (AllReadyH.cons (o := { dst := none, op := Op.store 23 (Operand.tmp 49) (Operand.tmp 48), type := 0, pos := "log.go:131", after := #[{ on := 7, ground := Ground.data }, { on := 6, ground := Ground.data }, { on := 0, ground := Ground.phase }, { on := 1, ground := Ground.phase }, { on := 2, ground := Ground.phase }, { on := 3, ground := Ground.phase }, { on := 4, ground := Ground.phase }, { on := 5, ground := Ground.phase }, { on := 6, ground := Ground.phase }], guard := none }) rfl (fun K hK => ?_) AllReadyH.nil)
              have k5 : w.drew.cell? ⟨BL, 0, none⟩ = _ := kb
              have k6 := frozen_all (show w.drew.heap[BL]? = _ from HB.out) 0
              go_simp
              have g1 := grown_setCell w.drew BL 0 (.slice x' (l.length - (k + 1)) cap')
              refine reg_next hK g1 ?_
              clear hK K
              try simp only [Act.put]
              refine wpAnyH_done (by kernel_rfl) ?_ _
              go_wp2
              go_ret
              exact HR.out
    · have HR := Lib.hid (show take l = .soon from by rw [← htk, show l.drop k = [] from List.drop_of_length_le (by omega)]; rfl)
      have hlt' : ¬ (k : Int) < (l.length : Nat) := by omega
      clear htk hN
      go_wp2
      exact ⟨rfl, by rw [HR.out]; exact ⟨rfl, World.grownBy.refl _ _⟩⟩
theorem reader_ex (BL : Nat) (e1 e2 : Int) (w : World) : Calls Try.prog 34 #[.pointer (some ⟨BL, 0, none⟩), .int .i64 e1, .int .i64 e2] w fun e w' => ∃ C1 C2 C3, e = .returned (.func (.func 46) #[] #[.pointer (some ⟨C1, 0, none⟩), .pointer (some ⟨C2, 0, none⟩), .pointer (some ⟨C3, 0, none⟩)]) ∧ w.grownBy w' none ∧
    w'.heap[C1]? = some (.cells #[.pointer (some ⟨BL, 0, none⟩)] 72 (0, 0)) ∧ w'.heap[C2]? = some (.cells #[.int .i64 e1] 32 (0, 0)) ∧ w'.heap[C3]? = some (.cells #[.int .i64 e2] 32 (0, 0)) :=
  (reader_any BL e1 e2 w).mono (fun e w' h => ⟨_, _, _, h.1, h.2.1, h.2.2⟩)
/-- A reader's variables. -/
structure Rd (W : World) (BL C1 C2 C3 : Nat) (e1 e2 : Int) : Prop where
  c1 : W.heap[C1]? = some (.cells #[.pointer (some ⟨BL, 0, none⟩)] 72 (0, 0))
  c2 : W.heap[C2]? = some (.cells #[.int .i64 e1] 32 (0, 0))
  c3 : W.heap[C3]? = some (.cells #[.int .i64 e2] 32 (0, 0))
/-- What is left to read. -/
structure Lf (W : World) (BL : Nat) (x : Option Addr) (cap : Nat) (l : List UInt8) : Prop where
  s : Go.Proofs.Ytpoifobhbmhelaa.Src W x l
  c : l.length ≤ cap
  n : ∀ b o, x = some ⟨b, o, none⟩ → l ≠ [] → b ≠ BL
  b : W.heap[BL]? = some (.cells #[.slice x l.length cap] 23 (0, 0))
theorem Rd.kept {W W' : World} {BL C1 C2 C3 : Nat} {e1 e2 : Int} (h : Rd W BL C1 C2 C3 e1 e2) (hg : W.grownBy W' none) : Rd W' BL C1 C2 C3 e1 e2 := ⟨keep_blk hg h.c1, keep_blk hg h.c2, keep_blk hg h.c3⟩
theorem Rd.row {W W' : World} {BL C1 C2 C3 B : Nat} {e1 e2 : Int} (h : Rd W BL C1 C2 C3 e1 e2) (hg : W.grownBy W' (some B)) (h1 : C1 ≠ B) (h2 : C2 ≠ B) (h3 : C3 ≠ B) : Rd W' BL C1 C2 C3 e1 e2 :=
  ⟨(hg.block _ (lt_of_block h.c1) (by simpa using h1)).trans h.c1, (hg.block _ (lt_of_block h.c2) (by simpa using h2)).trans h.c2, (hg.block _ (lt_of_block h.c3) (by simpa using h3)).trans h.c3⟩
theorem Rd.ne {W : World} {BL C1 C2 C3 B : Nat} {e1 e2 : Int} {cs : Array Value} {t : TypeId} (h : Rd W BL C1 C2 C3 e1 e2) (hb : W.heap[B]? = some (.cells cs t (0, 0))) (h1 : t ≠ 72) (h2 : t ≠ 32) : C1 ≠ B ∧ C2 ≠ B ∧ C3 ≠ B :=
  ⟨fun e => by have := h.c1; rw [e, hb] at this; cases this; exact h1 rfl, fun e => by have := h.c2; rw [e, hb] at this; cases this; exact h2 rfl, fun e => by have := h.c3; rw [e, hb] at this; cases this; exact h2 rfl⟩
theorem next_num {W : World} {BL C1 C2 C3 : Nat} {e1 e2 : Int} {x : Option Addr} {cap n : Nat} {l r : List UInt8} (hr : Rd W BL C1 C2 C3 e1 e2) (hl : Lf W BL x cap l) (hn : l.length ≤ 1000000) (ht : take l = .num n r) :
    Calls Try.prog 46 #[.pointer (some ⟨C1, 0, none⟩), .pointer (some ⟨C2, 0, none⟩), .pointer (some ⟨C3, 0, none⟩)] W fun e w' => ∃ x' cap', e = .returned (.int .i64 (n : Nat)) ∧ Lf w' BL x' cap' r ∧ W.grownBy w' (some BL) ∧ Rd w' BL C1 C2 C3 e1 e2 :=
  (next_any C1 C2 C3 BL e1 e2 x cap l W hl.s hl.c hn hl.n hr.c1 hr.c2 hr.c3 hl.b).mono (fun e w' h => by
    rw [ht] at h
    obtain ⟨h0, x', cap', h1, h2, h3, h4, h5⟩ := h
    obtain ⟨n1, n2, n3⟩ := hr.ne hl.b (by decide) (by decide)
    exact ⟨x', cap', h0, ⟨h2, h1, h3, h4⟩, h5, hr.row h5 n1 n2 n3⟩)
theorem next_no {W : World} {BL C1 C2 C3 : Nat} {e1 e2 : Int} {x : Option Addr} {cap : Nat} {l : List UInt8} (hr : Rd W BL C1 C2 C3 e1 e2) (hl : Lf W BL x cap l) (hn : l.length ≤ 1000000) (ht : take l = .no) :
    Calls Try.prog 46 #[.pointer (some ⟨C1, 0, none⟩), .pointer (some ⟨C2, 0, none⟩), .pointer (some ⟨C3, 0, none⟩)] W fun e w' => e = Pan e1 ∧ W.grownBy w' none :=
  (next_any C1 C2 C3 BL e1 e2 x cap l W hl.s hl.c hn hl.n hr.c1 hr.c2 hr.c3 hl.b).mono (fun e w' h => by rw [ht] at h; exact h)
theorem next_soon {W : World} {BL C1 C2 C3 : Nat} {e1 e2 : Int} {x : Option Addr} {cap : Nat} {l : List UInt8} (hr : Rd W BL C1 C2 C3 e1 e2) (hl : Lf W BL x cap l) (hn : l.length ≤ 1000000) (ht : take l = .soon) :
    Calls Try.prog 46 #[.pointer (some ⟨C1, 0, none⟩), .pointer (some ⟨C2, 0, none⟩), .pointer (some ⟨C3, 0, none⟩)] W fun e w' => e = Pan e2 ∧ W.grownBy w' none :=
  (next_any C1 C2 C3 BL e1 e2 x cap l W hl.s hl.c hn hl.n hr.c1 hr.c2 hr.c3 hl.b).mono (fun e w' h => by rw [ht] at h; exact h)
end Go.Proofs.Ytpoifobhbmhelaa
