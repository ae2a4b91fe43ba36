/- A plain region in a round of the wide fence, walked as if it stood nowhere; numbers below nought. -/
import Derived.Test.YtpoifobhbmhelaaY
import Derived.Test.YtpoifobhbmhelaaBw
set_option linter.unusedVariables false
set_option linter.unusedSimpArgs false
namespace Go.Proofs.Ytpoifobhbmhelaa
open Go.RowKit
section
variable {l n : Nat} {P : Program} {ops : Array Oper} {Q : Exit → Act → World → Prop}
theorem wide_wpList (hQ : ¬ LetsOut Q) : ∀ (os : List Oper), (∀ o ∈ os, noDefer o.op = true) → ∀ (a : Act) (w : World), wpList P ops Q os a w → wpListIn (Fence.wide.inRound l) n P ops Q os a w
  | [], _, _, _, h => h
  | o :: rest, hp, a, w, h => by
    have ih := wide_wpList hQ rest (fun o ho => hp o (List.mem_cons_of_mem _ ho))
    have hpo := hp o (List.mem_cons_self ..)
    unfold wpList at h
    unfold wpListIn
    have hab : ∀ f, o.about P w a.eval = some f → (Fence.wide.inRound l).fn f := fun f _ => trivial
    split
    · rename_i hw
      simp only [hw, if_true] at h
      rcases h with h | h
      · refine ⟨hab, ?_⟩
        rw [noDefer_sem hpo]
        unfold Oper.wp at h
        generalize (execOp a.eval o).run P w = r at *
        cases r with
        | ok x w' =>
          cases x with
          | value v => exact ih _ _ h
          | skip => exact ih _ _ h
          | defer d => exact ih _ _ h
          | enter f args =>
            refine ⟨(fun e => by cases e), CallsIn.inRound l (callsIn_wide.2 ?_)⟩
            refine Calls.mono (show Calls _ _ _ _ _ from h) fun e w'' he => ?_
            cases e with
            | returned u => exact ih _ _ he
            | panicked c => exact he
            | outgrown => exact he
          | row row args => exact ⟨(fun e => by cases e), rowsIn_wide (Rows.mono h fun v w'' he => ih _ _ he)⟩
          | round l' f t x1 x2 => exact (h : False).elim
          | _ => exact (h : False).elim
        | halt x w' => cases x <;> exact h
      · exact (hQ h.2).elim
    · rename_i hw
      simp only [hw] at h
      exact ⟨hab, ih _ _ h⟩
theorem reg_plain_w {id : Nat} {os : List Oper} {a : Act} {w : World} (hQ : ¬ LetsOut Q) (hp : os.all (fun o => noDefer o.op) = true) (h : wpList P os.toArray Q os a w) : (Code.region id os.toArray false).wpIn (Fence.wide.inRound l) n P Q a w :=
  wpIn_region_lit (wide_wpList hQ os (fun o ho => List.all_eq_true.1 hp o ho) a w h)
end
/-- A number's bytes, and what the writer writes of a number below nought. -/
def encZ (d : Int) : List UInt8 := if d < 0 then [UInt8.ofNat (d % 256).toNat] else enc d.toNat
theorem encZ_nat (n : Nat) : encZ (n : Int) = enc n := by unfold encZ; rw [if_neg (by omega)]; simp
theorem encZ_len (d : Int) (h : d < 9223372036854775808) : (encZ d).length ≤ 9 := by
  unfold encZ
  split
  · simp
  · exact enc_len (by omega)
theorem encZ_pos (d : Int) : 0 < (encZ d).length := by
  unfold encZ
  split
  · simp
  · exact enc_len_pos _
set_option maxHeartbeats 2000000 in
theorem wnumber_neg (d : Int) (hd0 : -9223372036854775808 ≤ d) (hd : d < 0) (T : Nat) (w0 W : World) (v : Value) (l : List UInt8) (hW : W.heap[T]? = some (.cells #[v] 56 (0, 0))) (hv : Wb w0 W v l) (hg : w0.grownBy W none) (hT : w0.heap.size ≤ T) (hl : l.length ≤ 900000) : Calls Try.prog 26 #[.pointer (some ⟨T, 0, none⟩), .int .i64 d] W fun e W' => ∃ x v', e = .returned x ∧ W'.heap[T]? = some (.cells #[v'] 56 (0, 0)) ∧ Mb w0 W' v' (l ++ encZ d) ∧ w0.grownBy W' none ∧ Keeps (fun k => k = T ∨ rowOf v = some k) W W' ∧ (∀ k, rowOf v' = some k → rowOf v = some k ∨ W.heap.size ≤ k) := by
  obtain ⟨a, c, rfl, -⟩ := hv.shape
  obtain ⟨q, hq⟩ : ∃ q, q = l.length := ⟨_, rfl⟩
  rw [← hq] at hW hv
  have hb := hW
  have HQ := Lib.hid hq
  have HQL := Lib.hid (show q ≤ 900000 from by omega)
  have HB := Lib.hid hW
  have HU := Lib.hid hv
  have HGR := Lib.hid hg
  have HT := Lib.hid hT
  have i0 := cells_all hb 0
  have i1 := frozen_all hb 0
  rw [← hq]
  clear hq hv hg hb hT hl hW
  have hge : ¬ (128 : Int) ≤ d := by omega
  obtain ⟨z, hz⟩ : ∃ z : Int, z = d % 256 := ⟨_, rfl⟩
  have hwm : IntKind.u8.wrap d = z := by rw [IntKind.wrap_u8, hz]
  have HA := Lib.hid (World.grownBy_alloc W (.cells #[.int .u8 z] 5) none)
  obtain ⟨bt, hbt⟩ : ∃ bt, bt = UInt8.ofNat z.toNat := ⟨_, rfl⟩
  have HS := Lib.hid (src_one W z bt (by rw [hbt]; simp [UInt8.toNat_ofNat']; omega))
  have HEL := Lib.hid (show l ++ [bt] = l ++ encZ d from by unfold encZ; rw [if_pos hd, hbt, hz])
  clear hbt hz
  have HU2 := Lib.hid (HU.out.kept HA.out)
  have HB2 := Lib.hid (keep_blk HA.out HB.out)
  go_enter Try.func26, Try.ntmps26
  go_wp2
  go_loopw [1] (fun x wr => x = .int .i64 d ∧ W = wr) (fun _ _ => 0)
  case atStart => exact ⟨rfl, rfl⟩
  case round =>
    obtain ⟨rfl, rfl⟩ := hrel
    go_wp2_with (at_builtin; refine wpList_wb rfl _ _ 23 rfl a q c _ l [bt] 1 rfl rfl rfl HU2.out HQ.out (HGR.out.trans HA.out) HS.out (by omega) (by have := HQL.out; omega) ?_)
    intro v2 w2 hM hG hgr hr0 hr1
    obtain ⟨a2, c2, rfl, -⟩ := hM.shape
    obtain ⟨L2, hL2⟩ : ∃ L, L = (l ++ [bt]).length := ⟨_, rfl⟩
    rw [← hL2] at hM hr1 ⊢
    clear hL2
    obtain ⟨v2, hv2⟩ : ∃ v2, v2 = Value.slice a2 L2 c2 := ⟨_, rfl⟩
    have HV2 := Lib.hid hv2
    rw [← hv2] at hM hr1
    have hne := HU2.out.ne HB2.out (by decide)
    have hb2 := (hgr.block T (lt_of_block HB2.out) (fun e => hne e.symm)).trans HB2.out
    have hne2 := hM.1.ne hb2 (by decide)
    have j0 := cells_all hb2 0
    have j2 : w2.cell? ⟨T, 0, none⟩ = some (.slice a q c) := j0
    have j1 := frozen_all hb2 0
    have gs := grown_setCell w2 T 0 v2
    have HW2 := Lib.hid (heap_setCell_at (j := 0) v2 hb2)
    have HM2 := Lib.hid (show Mb w0 (w2.setCell ⟨T, 0, none⟩ v2) v2 (l ++ encZ d) from ⟨by rw [← HEL.out]; exact hM.1.kept gs (fun g e1 e2 => hne2 (e1.trans e2)), hM.2⟩)
    have HG2 := Lib.hid (grown_new hG gs HT.out)
    have HK2 := Lib.hid (show Keeps (fun k => k = T ∨ rowOf (.slice a q c) = some k) W (w2.setCell ⟨T, 0, none⟩ v2) from ((Keeps.keep HA.out).then (Keeps.of (X := fun i => rowOf (.slice a q c) = some i) hgr (fun r e => e)) (fun i hi hlt => .inr hi)).trans (Keeps.row gs (.inl rfl)))
    have HRO2 := Lib.hid (show ∀ k, rowOf v2 = some k → rowOf (.slice a q c) = some k ∨ W.heap.size ≤ k from fun k e => (hr1 k e).elim .inl (fun h => .inr (by omega)))
    rw [hv2] at HW2 HM2 HG2 HK2 HRO2
    clear hM hG hgr hr0 hr1 hne hb2 hne2 gs j0 hv2
    go_wp2
    go_end0
    exact ⟨_, _, rfl, HW2.out, HM2.out, HG2.out, HK2.out, HRO2.out⟩
theorem wnumber_int (d : Int) (hd0 : -9223372036854775808 ≤ d) (hd : d < 9223372036854775808) (T : Nat) (w0 W : World) (v : Value) (l : List UInt8) (hW : W.heap[T]? = some (.cells #[v] 56 (0, 0))) (hv : Wb w0 W v l) (hg : w0.grownBy W none) (hT : w0.heap.size ≤ T) (hl : l.length ≤ 900000) : Calls Try.prog 26 #[.pointer (some ⟨T, 0, none⟩), .int .i64 d] W fun e W' => ∃ x v', e = .returned x ∧ W'.heap[T]? = some (.cells #[v'] 56 (0, 0)) ∧ Mb w0 W' v' (l ++ encZ d) ∧ w0.grownBy W' none ∧ Keeps (fun k => k = T ∨ rowOf v = some k) W W' ∧ (∀ k, rowOf v' = some k → rowOf v = some k ∨ W.heap.size ≤ k) := by
  by_cases h : d < 0
  · exact wnumber_neg d hd0 h T w0 W v l hW hv hg hT hl
  · obtain ⟨n, rfl⟩ : ∃ n : Nat, d = n := ⟨d.toNat, by omega⟩
    rw [encZ_nat]
    exact wnumber_any n (by omega) T w0 W v l hW hv hg hT hl
end Go.Proofs.Ytpoifobhbmhelaa
