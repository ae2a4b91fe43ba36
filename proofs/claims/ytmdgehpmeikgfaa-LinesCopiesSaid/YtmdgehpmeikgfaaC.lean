import Derived.Test.YtmdgehpmeikgfaaB
import Derived.Test.YtmdgehpmeikgfaaBlkIn
namespace Go.Proofs.Ytmdgehpmeikgfaa
open Go.RowKit Go.Shelf
attribute [local go_sem] Oper.semAt_some
theorem block_kept {A B : World} {S : Nat} {cs : Array Value} {t : TypeId} {fz : Nat × Nat} {row : Option Nat} (h : A.heap[S]? = some (.cells cs t fz)) (hg : A.grownBy B row) (hr : ∀ r, row = some r → ∃ o : Obj, A.heap[r]? = some o ∧ o.isCells = false) : B.heap[S]? = some (.cells cs t fz) := by
  refine (hg.block S (lt_of_block h) (fun e => ?_)).trans h
  obtain ⟨o, ho, hc⟩ := hr S e.symm
  rw [h] at ho
  cases ho
  cases hc
theorem Wn.own {A A' : World} {S N G V B : Nat} {now : Int} {row : Option Nat} (h : Wn A S N G V B now) (hg : A.grownBy A' row) (hr : ∀ r, row = some r → ∃ o : Obj, A.heap[r]? = some o ∧ o.isCells = false) : Wn A' S N G V B now :=
  ⟨block_kept h.s hg hr, block_kept h.n hg hr, block_kept h.g hg hr, block_kept h.v hg hr⟩
theorem Wn.keptNone {A A' : World} {S N G V B : Nat} {now : Int} (h : Wn A S N G V B now) (hg : A.grownBy A' none) : Wn A' S N G V B now := h.own hg (fun r e => by cases e)
/-- What 'wanting' reads stays. -/
def KW (S N G V B : Nat) (now : Int) (c : Lc) (A A' : World) : Prop := Wn A S N G V B now ∧ Lk A B c → Wn A' S N G V B now ∧ Lk A' B c
def wl (b0 b1 b2 b3 : Bool) : List (Nat × Bool) := [(0, b0), (1, b1), (2, b2), (3, b3)]
def wseq (b0 b1 b2 b3 : Bool) (k : Nat) : List Nat := (((wl b0 b1 b2 b3).take k).filter (·.2)).map (·.1)
theorem wseq_length (b0 b1 b2 b3 : Bool) (k : Nat) : (wseq b0 b1 b2 b3 k).length ≤ k := by
  unfold wseq
  rw [List.length_map]
  exact Nat.le_trans (List.length_filter_le _ _) (by simp; omega)
theorem wseq_step_yes (b0 b1 b2 b3 : Bool) (k : Nat) (b : Bool) (h : (wl b0 b1 b2 b3)[k]? = some (k, b)) (hb : b = true) : wseq b0 b1 b2 b3 (k + 1) = wseq b0 b1 b2 b3 k ++ [k] := by
  unfold wseq
  rw [List.take_add_one, h, List.filter_append, List.map_append]
  simp [hb]
theorem wseq_step_no (b0 b1 b2 b3 : Bool) (k : Nat) (b : Bool) (h : (wl b0 b1 b2 b3)[k]? = some (k, b)) (hb : b = false) : wseq b0 b1 b2 b3 (k + 1) = wseq b0 b1 b2 b3 k := by
  unfold wseq
  rw [List.take_add_one, h, List.filter_append, List.map_append]
  simp [hb]
set_option maxRecDepth 100000 in
set_option maxHeartbeats 4000000 in
theorem wants_in (n : Nat) (hn : 1 ≤ n) (l S N G V B : Nat) (now : Int) (c : Lc) (qa : Option Addr) (qn qc : Nat) (hq : c.qv = .slice qa qn qc) (ha : 0 ≤ c.alarm) (ha2 : c.alarm < 4294967296) (B0 : Nat) (J Jx : List Nat → World → Prop) (hJ : AbidesFrom B0 J)
    (hY : ∀ pre (x : Nat) W, J pre W → pre.length < 4 → x < 4 → YieldAt Fence.wide (n - 1) Try.prog l #[.int .i64 (x : Int)] W fun e W' =>
      (e = .returned (.bool true) ∧ J (pre ++ [x]) W' ∧ KW S N G V B now c W W') ∨ (e = .returned (.bool false) ∧ Jx (pre ++ [x]) W'))
    (W : World) (hW : Wn W S N G V B now) (hL : Lk W B c) (h0 : J [] W) :
    CallsIn Fence.wide n Try.prog 52 #[.func (.yield l) #[] #[], .pointer (some ⟨S, 0, none⟩), .pointer (some ⟨V, 0, none⟩)] W fun e W' => (∃ v, e = .returned v) ∧
      ((∃ ys, ys = wseq (c.w0 now) (decide (0 < qn)) c.u2 c.u3 4 ∧ J ys W') ∨ (∃ pre, (∃ k, k ≤ 4 ∧ pre = wseq (c.w0 now) (decide (0 < qn)) c.u2 c.u3 k) ∧ Jx pre W')) := by
  have cs := cell_of_one hW.s
  have cv := cell_of_one hW.v
  have HW := Lib.hid hW
  have HL := Lib.hid hL
  have HJ0 := Lib.hid h0
  clear hW hL h0
  refine callsIn_of_wp Try.func52 rfl trivial ?_ rfl
  simp only [Try.ntmps52, List.size_toArray, List.length_cons, List.length_nil, Nat.reduceAdd, Nat.reduceSub, Array.replicate_succ, Array.replicate_zero, List.push_toArray, List.append_toArray, List.nil_append, List.cons_append]
  gi_wp2_with (refine ⟨trivial, ?_⟩; gi_at_call 39; refine (callsIn_wide.2 (none_lk B c _ HL.out)).mono ?_; rintro e w1 ⟨rfl, rfl⟩)
  gi_loopw [10] (fun i wr => ∃ k : Nat, k ≤ 4 ∧ i = .int .i64 k ∧ J (wseq (c.w0 now) (decide (0 < qn)) c.u2 c.u3 k) wr ∧ Wn wr S N G V B now ∧ Lk wr B c) (fun i _ => 4 - (intOf i).toNat)
  case atStart => exact ⟨0, Nat.zero_le _, rfl, HJ0.out, HW.out, HL.out⟩
  case round =>
    clear HW HL HJ0 cs cv
    obtain ⟨k, hk, rfl, hJs, hW, hL⟩ := hrel
    have HJ := Lib.hid hJs
    have HW := Lib.hid hW
    have HL := Lib.hid hL
    clear hJs hW hL
    obtain rfl | rfl | rfl | rfl | rfl : k = 0 ∨ k = 1 ∨ k = 2 ∨ k = 3 ∨ k = 4 := by omega
    · have cg : wr.cell? ⟨G, 0, none⟩ = some (.func (.func 48) #[] #[.pointer (some ⟨S, 0, none⟩), .pointer (some ⟨N, 0, none⟩)]) := cells_all HW.out.g 0
      have C := want0_lk S N B c ha ha2 now wr HW.out.s HW.out.n HL.out
      have hsy := wseq_step_yes (c.w0 now) (decide (0 < qn)) c.u2 c.u3 0 (c.w0 now) rfl
      have hsn := wseq_step_no (c.w0 now) (decide (0 < qn)) c.u2 c.u3 0 (c.w0 now) rfl
      have hlen := wseq_length (c.w0 now) (decide (0 < qn)) c.u2 c.u3 0
      by_cases hb : (c.w0 now) = true
      · replace hsy := hsy hb
        clear hsn
        rw [hb] at C
        clear hb
        gi_wp2_with (refine ⟨trivial, ?_⟩; gi_at_call 48; refine (callsIn_wide.2 C).mono ?_; rintro e w3 ⟨rfl, hg3⟩)
        have HJ3 := Lib.hid (hJ _ wr w3 none HJ.out hg3 (fun r e => by cases e))
        have HW3 := Lib.hid (HW.out.keptNone hg3)
        have HL3 := Lib.hid (HL.out.keptNone hg3)
        clear hg3 HJ HW HL cg C
        obtain ⟨fn, tmps, assign, body, hy, hR⟩ := hY _ 0 _ HJ3.out (by omega) (by omega)
        replace hy : (Instr.yield l #[.int .i64 0]).run Try.prog w3 = _ := hy
        rw [hy]
        gi_wp2
        refine hR.mono ?_
        rintro e W4 (⟨rfl, hJ4, hk4⟩ | ⟨rfl, hJx4⟩)
        · obtain ⟨hw4, hl4⟩ := hk4 ⟨HW3.out, HL3.out⟩
          gi_wp2
          go_roundw
          case rel => exact ⟨1, by omega, rfl, by rw [hsy]; exact hJ4, hw4, hl4⟩
          case measure => simp [intOf]
        · gi_wp2
          refine bodyPost_ret (results_none rfl _ _ _) rfl ?_
          exact ⟨⟨_, rfl⟩, .inr ⟨_, ⟨1, by omega, hsy.symm⟩, hJx4⟩⟩
      · rw [Bool.not_eq_true] at hb
        replace hsn := hsn hb
        clear hsy
        rw [hb] at C
        clear hb
        gi_wp2_with (refine ⟨trivial, ?_⟩; gi_at_call 48; refine (callsIn_wide.2 C).mono ?_; rintro e w3 ⟨rfl, hg3⟩)
        have HJ3 := Lib.hid (hJ _ wr w3 none HJ.out hg3 (fun r e => by cases e))
        have HW3 := Lib.hid (HW.out.keptNone hg3)
        have HL3 := Lib.hid (HL.out.keptNone hg3)
        clear hg3 HJ HW HL cg C
        refine ⟨fun _ h => (by cases h), ?_⟩
        gi_wp2
        go_roundw
        case rel => exact ⟨1, by omega, rfl, by rw [hsn]; exact HJ3.out, HW3.out, HL3.out⟩
        case measure => simp [intOf]
    · have cg : wr.cell? ⟨G, 1, none⟩ = some (.func (.func 49) #[] #[.pointer (some ⟨S, 0, none⟩)]) := cells_all HW.out.g 1
      have C := want1_lk S B c qa qn qc hq wr HW.out.s HL.out
      have hsy := wseq_step_yes (c.w0 now) (decide (0 < qn)) c.u2 c.u3 1 (decide (0 < qn)) rfl
      have hsn := wseq_step_no (c.w0 now) (decide (0 < qn)) c.u2 c.u3 1 (decide (0 < qn)) rfl
      have hlen := wseq_length (c.w0 now) (decide (0 < qn)) c.u2 c.u3 1
      by_cases hb : (decide (0 < qn)) = true
      · replace hsy := hsy hb
        clear hsn
        rw [hb] at C
        clear hb
        gi_wp2_with (refine ⟨trivial, ?_⟩; gi_at_call 49; refine (callsIn_wide.2 C).mono ?_; rintro e w3 ⟨rfl, rfl⟩)
        have HJ3 := HJ
        have HW3 := HW
        have HL3 := HL
        clear HJ HW HL cg C
        obtain ⟨fn, tmps, assign, body, hy, hR⟩ := hY _ 1 _ HJ3.out (by omega) (by omega)
        replace hy : (Instr.yield l #[.int .i64 1]).run Try.prog wr = _ := hy
        rw [hy]
        gi_wp2
        refine hR.mono ?_
        rintro e W4 (⟨rfl, hJ4, hk4⟩ | ⟨rfl, hJx4⟩)
        · obtain ⟨hw4, hl4⟩ := hk4 ⟨HW3.out, HL3.out⟩
          gi_wp2
          go_roundw
          case rel => exact ⟨2, by omega, rfl, by rw [hsy]; exact hJ4, hw4, hl4⟩
          case measure => simp [intOf]
        · gi_wp2
          refine bodyPost_ret (results_none rfl _ _ _) rfl ?_
          exact ⟨⟨_, rfl⟩, .inr ⟨_, ⟨2, by omega, hsy.symm⟩, hJx4⟩⟩
      · rw [Bool.not_eq_true] at hb
        replace hsn := hsn hb
        clear hsy
        rw [hb] at C
        clear hb
        gi_wp2_with (refine ⟨trivial, ?_⟩; gi_at_call 49; refine (callsIn_wide.2 C).mono ?_; rintro e w3 ⟨rfl, rfl⟩)
        have HJ3 := HJ
        have HW3 := HW
        have HL3 := HL
        clear HJ HW HL cg C
        refine ⟨fun _ h => (by cases h), ?_⟩
        gi_wp2
        go_roundw
        case rel => exact ⟨2, by omega, rfl, by rw [hsn]; exact HJ3.out, HW3.out, HL3.out⟩
        case measure => simp [intOf]
    · have cg : wr.cell? ⟨G, 2, none⟩ = some (.func (.func 50) #[] #[.pointer (some ⟨S, 0, none⟩)]) := cells_all HW.out.g 2
      have C := want2_lk S B c wr HW.out.s HL.out
      have hsy := wseq_step_yes (c.w0 now) (decide (0 < qn)) c.u2 c.u3 2 (c.u2) rfl
      have hsn := wseq_step_no (c.w0 now) (decide (0 < qn)) c.u2 c.u3 2 (c.u2) rfl
      have hlen := wseq_length (c.w0 now) (decide (0 < qn)) c.u2 c.u3 2
      by_cases hb : (c.u2) = true
      · replace hsy := hsy hb
        clear hsn
        rw [hb] at C
        clear hb
        gi_wp2_with (refine ⟨trivial, ?_⟩; gi_at_call 50; refine (callsIn_wide.2 C).mono ?_; rintro e w3 ⟨rfl, rfl⟩)
        have HJ3 := HJ
        have HW3 := HW
        have HL3 := HL
        clear HJ HW HL cg C
        obtain ⟨fn, tmps, assign, body, hy, hR⟩ := hY _ 2 _ HJ3.out (by omega) (by omega)
        replace hy : (Instr.yield l #[.int .i64 2]).run Try.prog wr = _ := hy
        rw [hy]
        gi_wp2
        refine hR.mono ?_
        rintro e W4 (⟨rfl, hJ4, hk4⟩ | ⟨rfl, hJx4⟩)
        · obtain ⟨hw4, hl4⟩ := hk4 ⟨HW3.out, HL3.out⟩
          gi_wp2
          go_roundw
          case rel => exact ⟨3, by omega, rfl, by rw [hsy]; exact hJ4, hw4, hl4⟩
          case measure => simp [intOf]
        · gi_wp2
          refine bodyPost_ret (results_none rfl _ _ _) rfl ?_
          exact ⟨⟨_, rfl⟩, .inr ⟨_, ⟨3, by omega, hsy.symm⟩, hJx4⟩⟩
      · rw [Bool.not_eq_true] at hb
        replace hsn := hsn hb
        clear hsy
        rw [hb] at C
        clear hb
        gi_wp2_with (refine ⟨trivial, ?_⟩; gi_at_call 50; refine (callsIn_wide.2 C).mono ?_; rintro e w3 ⟨rfl, rfl⟩)
        have HJ3 := HJ
        have HW3 := HW
        have HL3 := HL
        clear HJ HW HL cg C
        refine ⟨fun _ h => (by cases h), ?_⟩
        gi_wp2
        go_roundw
        case rel => exact ⟨3, by omega, rfl, by rw [hsn]; exact HJ3.out, HW3.out, HL3.out⟩
        case measure => simp [intOf]
    · have cg : wr.cell? ⟨G, 3, none⟩ = some (.func (.func 51) #[] #[.pointer (some ⟨S, 0, none⟩)]) := cells_all HW.out.g 3
      have C := want3_lk S B c wr HW.out.s HL.out
      have hsy := wseq_step_yes (c.w0 now) (decide (0 < qn)) c.u2 c.u3 3 (c.u3) rfl
      have hsn := wseq_step_no (c.w0 now) (decide (0 < qn)) c.u2 c.u3 3 (c.u3) rfl
      have hlen := wseq_length (c.w0 now) (decide (0 < qn)) c.u2 c.u3 3
      by_cases hb : (c.u3) = true
      · replace hsy := hsy hb
        clear hsn
        rw [hb] at C
        clear hb
        gi_wp2_with (refine ⟨trivial, ?_⟩; gi_at_call 51; refine (callsIn_wide.2 C).mono ?_; rintro e w3 ⟨rfl, rfl⟩)
        have HJ3 := HJ
        have HW3 := HW
        have HL3 := HL
        clear HJ HW HL cg C
        obtain ⟨fn, tmps, assign, body, hy, hR⟩ := hY _ 3 _ HJ3.out (by omega) (by omega)
        replace hy : (Instr.yield l #[.int .i64 3]).run Try.prog wr = _ := hy
        rw [hy]
        gi_wp2
        refine hR.mono ?_
        rintro e W4 (⟨rfl, hJ4, hk4⟩ | ⟨rfl, hJx4⟩)
        · obtain ⟨hw4, hl4⟩ := hk4 ⟨HW3.out, HL3.out⟩
          gi_wp2
          go_roundw
          case rel => exact ⟨4, by omega, rfl, by rw [hsy]; exact hJ4, hw4, hl4⟩
          case measure => simp [intOf]
        · gi_wp2
          refine bodyPost_ret (results_none rfl _ _ _) rfl ?_
          exact ⟨⟨_, rfl⟩, .inr ⟨_, ⟨4, by omega, hsy.symm⟩, hJx4⟩⟩
      · rw [Bool.not_eq_true] at hb
        replace hsn := hsn hb
        clear hsy
        rw [hb] at C
        clear hb
        gi_wp2_with (refine ⟨trivial, ?_⟩; gi_at_call 51; refine (callsIn_wide.2 C).mono ?_; rintro e w3 ⟨rfl, rfl⟩)
        have HJ3 := HJ
        have HW3 := HW
        have HL3 := HL
        clear HJ HW HL cg C
        refine ⟨fun _ h => (by cases h), ?_⟩
        gi_wp2
        go_roundw
        case rel => exact ⟨4, by omega, rfl, by rw [hsn]; exact HJ3.out, HW3.out, HL3.out⟩
        case measure => simp [intOf]
    · gi_wp2
      go_end0
      exact ⟨⟨_, rfl⟩, .inl ⟨_, rfl, HJ.out⟩⟩
/-- A line. -/
abbrev L4 : Type := { x : Nat // x < 4 }
theorem walked_wants (n : Nat) (hn : 1 ≤ n) (S N G V B : Nat) (now : Int) (c : Lc) (qa : Option Addr) (qn qc : Nat) (hq : c.qv = .slice qa qn qc) (ha : 0 ≤ c.alarm) (ha2 : c.alarm < 4294967296) (w : World) (hW : Wn w S N G V B now) (hL : Lk w B c) :
    SeqStopsK Fence.wide n Try.prog 52 #[.pointer (some ⟨S, 0, none⟩), .pointer (some ⟨V, 0, none⟩)] (fun x : L4 => #[.int .i64 (x.1 : Int)]) (KW S N G V B now c) (fun ys => ys.map (·.1) = wseq (c.w0 now) (decide (0 < qn)) c.u2 c.u3 4) (fun pre => ∃ k, k ≤ 4 ∧ pre.map (·.1) = wseq (c.w0 now) (decide (0 < qn)) c.u2 c.u3 k) 4 w := by
  intro l J Jx W hB hJ hJx hY h0
  have hW' : Wn W S N G V B now := ⟨(hB.block _ (lt_of_block hW.s)).trans hW.s, (hB.block _ (lt_of_block hW.n)).trans hW.n, (hB.block _ (lt_of_block hW.g)).trans hW.g, (hB.block _ (lt_of_block hW.v)).trans hW.v⟩
  have hL' : Lk W B c := (hB.block _ (lt_of_block hL)).trans hL
  have h := wants_in n hn l S N G V B now c qa qn qc hq ha ha2 W.heap.size (fun pre W => ∃ p : List L4, p.map (·.1) = pre ∧ J p W) (fun pre W => ∃ p : List L4, p.map (·.1) = pre ∧ Jx p W)
    (fun s A A' row hs hg hr => by obtain ⟨p, e, k⟩ := hs; exact ⟨p, e, hJ p A A' row k hg hr⟩)
    (fun pre x W1 hs hl hx => by
      obtain ⟨p, rfl, k⟩ := hs
      have hy := hY p ⟨x, hx⟩ W1 k (by simpa using hl)
      obtain ⟨fn, tmps, assign, body, h1, h2⟩ := hy
      refine ⟨fn, tmps, assign, body, h1, h2.mono ?_⟩
      rintro e W2 (⟨e1, e2, e3⟩ | ⟨e1, e2⟩)
      · exact .inl ⟨e1, ⟨_, by simp, e2⟩, e3⟩
      · exact .inr ⟨e1, ⟨_, by simp, e2⟩⟩)
    W hW' hL' ⟨[], rfl, h0⟩
  refine h.mono ?_
  rintro e W2 ⟨hv, ⟨ys, e1, p, e2, e3⟩ | ⟨pre, ⟨k, hk, e1⟩, p, e2, e3⟩⟩
  · exact ⟨hv, .inl ⟨p, e2.trans e1, e3⟩⟩
  · exact ⟨hv, .inr ⟨p, ⟨k, hk, e2.trans e1⟩, e3⟩⟩
theorem kw_t {S N G V B : Nat} {now : Int} {c : Lc} {A A' C : World} (h : KW S N G V B now c A A') (k : KW S N G V B now c A' C) : KW S N G V B now c A C := fun x => k (h x)
theorem kw_none {S N G V B : Nat} {now : Int} {c : Lc} {A A' : World} (hg : A.grownBy A' none) : KW S N G V B now c A A' := fun x => ⟨x.1.keptNone hg, x.2.keptNone hg⟩
theorem kw_b {S N G V B : Nat} {now : Int} {c : Lc} (W : World) (l : Nat) (o o' : Obj) (h : W.heap[l]? = some o) (ho : o.isCells = false) : KW S N G V B now c W (W.putObj l o') := fun x =>
  ⟨x.1.own (grownBy_putObj' W l o') (fun r e => by cases e; exact ⟨o, h, ho⟩), block_kept x.2.blk (grownBy_putObj' W l o') (fun r e => by cases e; exact ⟨o, h, ho⟩)⟩
end Go.Proofs.Ytmdgehpmeikgfaa
