import Derived.Test.YtmdgehpmeikgfaaAE
import Derived.Laws.StructEq
import Derived.ChangeKeysEq
set_option linter.unusedVariables false
namespace Go.Proofs.Ytmdgehpmeikgfaa
open Go.RowKit
theorem Sl.cell' {w : World} {a : Option Addr} {cap : Nat} {l : List UInt8} (h : Sl w (.slice a l.length cap) l) (j : Nat) (hj : j < l.length) : ∃ g o, a = some ⟨g, o, none⟩ ∧ w.cell? ⟨g, o + j, none⟩ = some (.int .u8 ((l[j]'hj).toNat : Int)) := by
  rcases id h with ⟨h0, hl⟩ | ⟨g, o, cap', cur, h0, _⟩
  · rw [hl] at hj; simp at hj
  · injection h0 with e0 e1 e2
    subst e0
    exact ⟨g, o, rfl, h.cell j _ (bV_get l j hj)⟩
set_option maxHeartbeats 8000000 in
/-- 'slices.Equal' of bytes. -/
theorem equal_sl (xa ya : Option Addr) (xc yc : Nat) (la lb : List UInt8) (w : World) (hA : Sl w (.slice xa la.length xc) la) (hB : Sl w (.slice ya lb.length yc) lb) (hl : la.length ≤ 1000000) :
    Calls Try.prog 53 #[.slice xa la.length xc, .slice ya lb.length yc] w fun e w' => e = .returned (.bool (decide (la = lb))) ∧ w.grownBy w' none := by
  by_cases hlen : la.length = lb.length
  rotate_left
  · have hd : decide (la = lb) = false := by simp; intro e; exact hlen (by rw [e])
    have hlen' : ((la.length : Int) != (lb.length : Nat)) = true := by simp; omega
    clear hA hB
    go_enter Try.func53, Try.ntmps53
    go_wp2
    go_ret
    exact ⟨by first | rfl | (rw [hd]; rfl), World.grownBy.refl _ _⟩
  have HA := Lib.hid hA
  have HB := Lib.hid hB
  have HLEN := Lib.hid hlen
  have hle : ((la.length : Int) != (lb.length : Nat)) = false := by simp; omega
  clear hA hB hlen
  go_enter Try.func53, Try.ntmps53
  go_wp2
  go_loopw [13] (fun i wr => ∃ j : Nat, j ≤ la.length ∧ i = .int .i64 j ∧ (∀ k (h1 : k < la.length) (h2 : k < lb.length), k < j → la[k] = lb[k]) ∧ w.grownBy wr none) (fun i _ => la.length - (intOf i).toNat)
  case atStart => exact ⟨0, Nat.zero_le _, rfl, fun k _ _ h => absurd h (by omega), World.grownBy.refl _ _⟩
  case round =>
    obtain ⟨j, hj, rfl, hall, hgr⟩ := hrel
    have HG := Lib.hid hgr
    have HALL := Lib.hid hall
    by_cases hlt : j < la.length
    · have hlb : j < lb.length := HLEN.out ▸ hlt
      obtain ⟨ga, oa, rfl, ha0⟩ := (HA.out.keptNone hgr).cell' j hlt
      obtain ⟨gb, ob, rfl, hb0⟩ := (HB.out.keptNone hgr).cell' j hlb
      have hlt' : (j : Int) < (la.length : Nat) := by omega
      have hlb' : (j : Int) < (lb.length : Nat) := by omega
      have hwj : IntKind.i64.wrap ((j : Int) + 1) = ((j + 1 : Nat) : Int) := by rw [IntKind.wrap_i64]; omega
      by_cases hab : la[j] = lb[j]
      · have hne : (((la[j]).toNat : Int) != ((lb[j]).toNat : Int)) = false := by simp [hab]
        have HST := Lib.hid (show ∀ k (h1 : k < la.length) (h2 : k < lb.length), k < j + 1 → la[k] = lb[k] from fun k h1 h2 h => (Nat.lt_or_ge k j).elim (fun h3 => HALL.out k h1 h2 h3) (fun h3 => by
          obtain rfl : k = j := by omega
          exact hab))
        generalize ((la[j]).toNat : Int) = xx at ha0 hne
        generalize ((lb[j]).toNat : Int) = yy at hb0 hne
        clear hall hgr hab
        go_wp2
        refine reg_open (none) (n := 9) rfl (by kernel_rfl) ?_
        refine reg_take 0 (some 16) (v := ?_) rfl rfl (by kernel_rfl) (by kernel_rfl) (by kernel_rfl) (fun _ _ _ h => h) (by rfl) ?_ ?_
        rotate_left
        · intro W hW; go_simp; first | done | with_reducible rfl
        try simp only [Act.put, List.setIfInBounds_toArray, List.set_cons_zero, List.set_cons_succ]
        refine reg_take 1 (some 17) (v := ?_) rfl rfl (by kernel_rfl) (by kernel_rfl) (by kernel_rfl) (fun _ _ _ h => h) (by rfl) ?_ ?_
        rotate_left
        · intro W hW; go_simp; first | done | with_reducible rfl
        try simp only [Act.put, List.setIfInBounds_toArray, List.set_cons_zero, List.set_cons_succ]
        refine reg_take 2 (some 18) (v := ?_) rfl rfl (by kernel_rfl) (by kernel_rfl) (by kernel_rfl) (fun _ _ _ h => h) (by rfl) ?_ ?_
        rotate_left
        · intro W hW; go_simp; first | done | with_reducible rfl
        try simp only [Act.put, List.setIfInBounds_toArray, List.set_cons_zero, List.set_cons_succ]
        refine reg_take 3 (some 19) (v := ?_) rfl rfl (by kernel_rfl) (by kernel_rfl) (by kernel_rfl) (fun _ _ _ h => h) (by rfl) ?_ ?_
        rotate_left
        · intro W hW; have k1 := (hW.cell ha0 (by simp)); go_simp; first | done | with_reducible rfl
        try simp only [Act.put, List.setIfInBounds_toArray, List.set_cons_zero, List.set_cons_succ]
        refine reg_take 4 (some 20) (v := ?_) rfl rfl (by kernel_rfl) (by kernel_rfl) (by kernel_rfl) (fun _ _ _ h => h) (by rfl) ?_ ?_
        rotate_left
        · intro W hW; go_simp; first | done | with_reducible rfl
        try simp only [Act.put, List.setIfInBounds_toArray, List.set_cons_zero, List.set_cons_succ]
        refine reg_take 5 (some 21) (v := ?_) rfl rfl (by kernel_rfl) (by kernel_rfl) (by kernel_rfl) (fun _ _ _ h => h) (by rfl) ?_ ?_
        rotate_left
        · intro W hW; go_simp; first | done | with_reducible rfl
        try simp only [Act.put, List.setIfInBounds_toArray, List.set_cons_zero, List.set_cons_succ]
        refine reg_take 6 (some 22) (v := ?_) rfl rfl (by kernel_rfl) (by kernel_rfl) (by kernel_rfl) (fun _ _ _ h => h) (by rfl) ?_ ?_
        rotate_left
        · intro W hW; go_simp; first | done | with_reducible rfl
        try simp only [Act.put, List.setIfInBounds_toArray, List.set_cons_zero, List.set_cons_succ]
        refine reg_take 7 (some 23) (v := ?_) rfl rfl (by kernel_rfl) (by kernel_rfl) (by kernel_rfl) (fun _ _ _ h => h) (by rfl) ?_ ?_
        rotate_left
        · intro W hW; have k1 := (hW.cell hb0 (by simp)); go_simp; first | done | with_reducible rfl
        try simp only [Act.put, List.setIfInBounds_toArray, List.set_cons_zero, List.set_cons_succ]
        refine reg_take 8 (some 24) (v := ?_) rfl rfl (by kernel_rfl) (by kernel_rfl) (by kernel_rfl) (fun _ _ _ h => h) (by rfl) ?_ ?_
        rotate_left
        · intro W hW; go_simp; first | done | with_reducible rfl
        try simp only [Act.put, List.setIfInBounds_toArray, List.set_cons_zero, List.set_cons_succ]
        refine wpAnyH_done (by kernel_rfl) ?_ _
        have HG2 := Lib.hid (HG.out.trans (drewl (World.grownBy.refl _ _)))
        go_wp2
        go_roundw
        case rel => exact ⟨j + 1, by omega, rfl, HST.out, HG2.out⟩
        case measure => simp [intOf]; omega
      · have hne : (((la[j]).toNat : Int) != ((lb[j]).toNat : Int)) = true := by
          simp
          intro e
          exact hab (UInt8.toNat_inj.1 (by omega))
        have hd : decide (la = lb) = false := by
          simp
          intro e
          subst e
          exact hab rfl
        generalize ((la[j]).toNat : Int) = xx at ha0 hne
        generalize ((lb[j]).toNat : Int) = yy at hb0 hne
        clear hall hgr hab
        go_wp2
        refine reg_open (none) (n := 9) rfl (by kernel_rfl) ?_
        refine reg_take 0 (some 16) (v := ?_) rfl rfl (by kernel_rfl) (by kernel_rfl) (by kernel_rfl) (fun _ _ _ h => h) (by rfl) ?_ ?_
        rotate_left
        · intro W hW; go_simp; first | done | with_reducible rfl
        try simp only [Act.put, List.setIfInBounds_toArray, List.set_cons_zero, List.set_cons_succ]
        refine reg_take 1 (some 17) (v := ?_) rfl rfl (by kernel_rfl) (by kernel_rfl) (by kernel_rfl) (fun _ _ _ h => h) (by rfl) ?_ ?_
        rotate_left
        · intro W hW; go_simp; first | done | with_reducible rfl
        try simp only [Act.put, List.setIfInBounds_toArray, List.set_cons_zero, List.set_cons_succ]
        refine reg_take 2 (some 18) (v := ?_) rfl rfl (by kernel_rfl) (by kernel_rfl) (by kernel_rfl) (fun _ _ _ h => h) (by rfl) ?_ ?_
        rotate_left
        · intro W hW; go_simp; first | done | with_reducible rfl
        try simp only [Act.put, List.setIfInBounds_toArray, List.set_cons_zero, List.set_cons_succ]
        refine reg_take 3 (some 19) (v := ?_) rfl rfl (by kernel_rfl) (by kernel_rfl) (by kernel_rfl) (fun _ _ _ h => h) (by rfl) ?_ ?_
        rotate_left
        · intro W hW; have k1 := (hW.cell ha0 (by simp)); go_simp; first | done | with_reducible rfl
        try simp only [Act.put, List.setIfInBounds_toArray, List.set_cons_zero, List.set_cons_succ]
        refine reg_take 4 (some 20) (v := ?_) rfl rfl (by kernel_rfl) (by kernel_rfl) (by kernel_rfl) (fun _ _ _ h => h) (by rfl) ?_ ?_
        rotate_left
        · intro W hW; go_simp; first | done | with_reducible rfl
        try simp only [Act.put, List.setIfInBounds_toArray, List.set_cons_zero, List.set_cons_succ]
        refine reg_take 5 (some 21) (v := ?_) rfl rfl (by kernel_rfl) (by kernel_rfl) (by kernel_rfl) (fun _ _ _ h => h) (by rfl) ?_ ?_
        rotate_left
        · intro W hW; go_simp; first | done | with_reducible rfl
        try simp only [Act.put, List.setIfInBounds_toArray, List.set_cons_zero, List.set_cons_succ]
        refine reg_take 6 (some 22) (v := ?_) rfl rfl (by kernel_rfl) (by kernel_rfl) (by kernel_rfl) (fun _ _ _ h => h) (by rfl) ?_ ?_
        rotate_left
        · intro W hW; go_simp; first | done | with_reducible rfl
        try simp only [Act.put, List.setIfInBounds_toArray, List.set_cons_zero, List.set_cons_succ]
        refine reg_take 7 (some 23) (v := ?_) rfl rfl (by kernel_rfl) (by kernel_rfl) (by kernel_rfl) (fun _ _ _ h => h) (by rfl) ?_ ?_
        rotate_left
        · intro W hW; have k1 := (hW.cell hb0 (by simp)); go_simp; first | done | with_reducible rfl
        try simp only [Act.put, List.setIfInBounds_toArray, List.set_cons_zero, List.set_cons_succ]
        refine reg_take 8 (some 24) (v := ?_) rfl rfl (by kernel_rfl) (by kernel_rfl) (by kernel_rfl) (fun _ _ _ h => h) (by rfl) ?_ ?_
        rotate_left
        · intro W hW; go_simp; first | done | with_reducible rfl
        try simp only [Act.put, List.setIfInBounds_toArray, List.set_cons_zero, List.set_cons_succ]
        refine wpAnyH_done (by kernel_rfl) ?_ _
        have HG2 := Lib.hid (HG.out.trans (drewl (World.grownBy.refl _ _)))
        go_wp2
        go_ret
        exact ⟨by first | rfl | (rw [hd]; rfl), HG2.out⟩
    · obtain rfl : j = la.length := by omega
      have hd : decide (la = lb) = true := by
        simp
        exact List.ext_getElem HLEN.out (fun k h1 h2 => hall k h1 h2 h1)
      clear hall hgr
      go_wp2
      go_ret
      exact ⟨by first | rfl | (rw [hd]; rfl), HG.out⟩
theorem like_sl (xa ya : Option Addr) (xc yc : Nat) (la lb : List UInt8) (w : World) (hA : Sl w (.slice xa la.length xc) la) (hB : Sl w (.slice ya lb.length yc) lb) (hl : la.length ≤ 1000000) :
    Calls Try.prog 47 #[.slice xa la.length xc, .slice ya lb.length yc] w fun e w' => e = .returned (.bool (decide (la = lb))) ∧ w.grownBy w' none := by
  have C := equal_sl xa ya xc yc la lb w hA hB hl
  clear hA hB
  go_enter Try.func47, Try.ntmps47
  go_wp2_with fail
  refine C.mono ?_; rintro e w' ⟨rfl, hg⟩
  go_wp2
  go_ret
  exact ⟨rfl, hg⟩
theorem copy_nil (w : World) : Calls Try.prog 34 #[.pointer none] w fun e w' => e = .returned (.pointer none) ∧ w = w' := by
  go_enter Try.func34, Try.ntmps34
  go_wp2_with fail
  refine (none_nil _).mono ?_; rintro e w' ⟨rfl, rfl⟩
  go_wp2
  go_ret
  exact ⟨rfl, rfl⟩
theorem eqGuard_none {op : BinOp} {t : TypeId} {x y : Operand} {xs ys : Array Value} (h : Try.prog.eqGuardType Try.prog.depth t = false) (w : World) : (eqGuard op t x y (.agg xs) (.agg ys)).run Try.prog w = .ok () w := by
  unfold eqGuard
  cases op <;> simp [h, go_sem]
theorem exec_eql {op : Oper} {ρ : Operand → Value} {x y : Operand} {t ty : TypeId} {xs ys : Array Value} {b : Bool} (ho : op.op = .binOp .eql ty x y t) (hx : ρ x = .agg xs) (hy : ρ y = .agg ys) (hg : Try.prog.eqGuardType Try.prog.depth ty = false)
    {w : World} (h : (Op.equalIn 10000 ty (.agg xs) (.agg ys)).run Try.prog w = .ok b w) : (execOp ρ op).run Try.prog w = .ok (.value (.bool b)) w := by
  simp only [execOp, ho, hx, hy, binOp, Op.equal, Op.maxDepth, Sem.run_bind, eqGuard_none hg, Result.andThen_ok, h]
  rfl
theorem Try.guard26 : Try.prog.eqGuardType Try.prog.depth 26 = false := by kernel_rfl
theorem part4 (xs : Array Value) (o : Nat) (v : Value) (h : xs[o]? = some v) (w : World) : (part 4 xs o).run Try.prog w = .ok v w := by
  simp only [part, Sem.run_bind]
  go_simp
theorem eqb (x y : Bool) (n : Nat) (w : World) : (Op.equalIn (n + 1) 4 (.bool x) (.bool y)).run Try.prog w = .ok (decide (x = y)) w := by
  cases x <;> cases y <;> (rw [Op.equalIn]; go_simp)
theorem bItem {n : Nat} {xs ys : Array Value} {j : Nat} {js : List Nat} {w : World} {x y : Bool} (hT : xs[j * 1]? = some (.bool x)) (hU : ys[j * 1]? = some (.bool y)) {b : Bool} (h : (Op.eqItems (n + 1) 4 1 xs ys js).run Try.prog w = .ok b w) :
    (Op.eqItems (n + 1) 4 1 xs ys (j :: js)).run Try.prog w = .ok (decide (x = y) && b) w := by
  simp only [Op.eqItems, Sem.run_bind, part4 xs _ _ hT, part4 ys _ _ hU, Result.andThen_ok, eqb]
  by_cases he : x = y <;> simp [he, h]
theorem bools4 (a b c d a' b' c' d' : Bool) (n : Nat) (w : World) : (Op.equalIn (n + 1 + 1) 26 (.agg #[.bool a, .bool b, .bool c, .bool d]) (.agg #[.bool a', .bool b', .bool c', .bool d'])).run Try.prog w = .ok (decide (a = a' ∧ b = b' ∧ c = c' ∧ d = d')) w := by
  obtain ⟨i, hi⟩ : ∃ i, Try.prog.info? 4 = some i := by
    have : (Try.prog.info? 4).isSome = true := by kernel_rfl
    exact Option.isSome_iff_exists.1 this
  have h4 : Try.prog.cellsOf 4 = 1 := by kernel_rfl
  rw [run_equalIn_array w (n + 1) _ _ Try.underlying26 hi, h4]
  rw [show List.range 4 = [0, 1, 2, 3] from rfl, bItem (x := a) (y := a') rfl rfl (bItem (x := b) (y := b') rfl rfl (bItem (x := c) (y := c') rfl rfl (bItem (x := d) (y := d') rfl rfl (b := true) (by simp [Op.eqItems]))))]
  simp
end Go.Proofs.Ytmdgehpmeikgfaa
