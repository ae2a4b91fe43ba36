import Derived.Test.YtcahpmlajfbidaaD
import Derived.Test.YtcahpmlajfbidaaBlkIn
namespace Go.Proofs.Ytcahpmlajfbidaa
open Go.RowKit Go.Shelf
attribute [local go_sem] Oper.semAt_some
theorem Try.size28 : (Try.prog.info? 28).map (·.size) = some 16 := by kernel_rfl
def Tl.seq (T : Tl) (k : Nat) : List (Nat × Ent) := ([(0, T.a), (1, T.b), (2, T.c), (3, T.d)].take k).filter (·.2.th)
def Tl.four (T : Tl) : List (Nat × Ent) := [(0, T.a), (1, T.b), (2, T.c), (3, T.d)]
theorem Tl.seq_length (T : Tl) (k : Nat) : (T.seq k).length ≤ k := by
  unfold Tl.seq
  refine Nat.le_trans (List.length_filter_le _ _) ?_
  simp; omega
theorem cells4 {w : World} {g : Nat} {a b c d : Value} {t : TypeId} {fz : Nat × Nat} (h : w.heap[g]? = some (.cells #[a, b, c, d] t fz)) :
    w.cell? ⟨g, 0, none⟩ = some a ∧ w.cell? ⟨g, 1, none⟩ = some b ∧ w.cell? ⟨g, 2, none⟩ = some c ∧ w.cell? ⟨g, 3, none⟩ = some d := by
  refine ⟨?_, ?_, ?_, ?_⟩ <;> (rw [cells_all h]; rfl)
abbrev Tl.cells16 (T : Tl) : Array Value := #[.bool T.a.th, .int .u32 T.a.page, .int .u32 T.a.frame, .bool T.a.wr, .bool T.b.th, .int .u32 T.b.page, .int .u32 T.b.frame, .bool T.b.wr,
  .bool T.c.th, .int .u32 T.c.page, .int .u32 T.c.frame, .bool T.c.wr, .bool T.d.th, .int .u32 T.d.page, .int .u32 T.d.frame, .bool T.d.wr]
theorem ix0 (T : Tl) (w : World) : (Instr.index 28 (.agg (Tl.cells16 T)) (.int .i64 0)).run Try.prog w = .ok T.a.val w := by
  simp [Instr.index, run_underlying Try.underlying28, asIntOf]
  go_simp
theorem ix1 (T : Tl) (w : World) : (Instr.index 28 (.agg (Tl.cells16 T)) (.int .i64 1)).run Try.prog w = .ok T.b.val w := by
  simp [Instr.index, run_underlying Try.underlying28, asIntOf]
  go_simp
theorem ix2 (T : Tl) (w : World) : (Instr.index 28 (.agg (Tl.cells16 T)) (.int .i64 2)).run Try.prog w = .ok T.c.val w := by
  simp [Instr.index, run_underlying Try.underlying28, asIntOf]
  go_simp
theorem ix3 (T : Tl) (w : World) : (Instr.index 28 (.agg (Tl.cells16 T)) (.int .i64 3)).run Try.prog w = .ok T.d.val w := by
  simp [Instr.index, run_underlying Try.underlying28, asIntOf]
  go_simp
abbrev zero4 : Array Value := #[.bool false, .int .u32 0, .int .u32 0, .bool false]
theorem seq_yes {A B : List (Nat × Ent)} {x : Nat × Ent} (e : A = B ++ [x]) (h : x.2.th = true) : A.filter (·.2.th) = B.filter (·.2.th) ++ [x] := by
  rw [e, List.filter_append]; simp [h]
theorem seq_no {A B : List (Nat × Ent)} {x : Nat × Ent} (e : A = B ++ [x]) (h : x.2.th = false) : A.filter (·.2.th) = B.filter (·.2.th) := by
  rw [e, List.filter_append]; simp [h]
set_option maxRecDepth 100000 in
set_option maxHeartbeats 4000000 in
theorem walked1_in (F : Fence) (n : Nat) (h30 : F.fn 30) (hro : F.round = none) (hn : 1 ≤ n) (l Bs n₀ : Nat) (T : Tl) (B0 : Nat) (J Jx : List (Nat × Ent) → World → Prop) (hJ : AbidesFrom B0 J)
    (hY : ∀ pre x W, J pre W → pre.length < 4 → x ∈ T.four → x.2.th = true → YieldAt F (n - 1) Try.prog l #[.int .i64 (x.1 : Int), x.2.val] W fun e W' =>
      (e = .returned (.bool true) ∧ J (pre ++ [x]) W' ∧ Below n₀ W W') ∨ (e = .returned (.bool false) ∧ Jx (pre ++ [x]) W'))
    (W : World) (hBs : W.heap[Bs]? = some (.cells T.cells 62 (0, 0))) (h0 : J [] W) :
    CallsIn F n Try.prog 30 #[.func (.yield l) #[] #[], .pointer (some ⟨Bs, 0, none⟩)] W fun e W' => (∃ v, e = .returned v) ∧
      ((∃ ys, ys = T.seq 4 ∧ J ys W') ∨ (∃ pre, (∃ k, k ≤ 4 ∧ pre = T.seq k) ∧ Jx pre W')) := by
  have HBs := Lib.hid hBs
  clear hBs
  refine callsIn_of_wp Try.func30 rfl h30 ?_ hro
  simp only [Try.ntmps30, List.size_toArray, List.length_cons, List.length_nil, Nat.reduceAdd, Nat.reduceSub, Array.replicate_succ, Array.replicate_zero, List.push_toArray, List.append_toArray, List.nil_append, List.cons_append]
  gi_wp2_with (with_reducible refine hold_ldi 28 _ rfl ?_)
  apply Lib.hid
  with_reducible refine wpListIn_load_blk rfl 28 _ rfl _ ?o301 ?hx301 _ _ _ HBs.out _ 16 ?hn301 Try.underlying28 rfl Try.size28 ?_
  case hx301 => exact rfl
  case hn301 => exact rfl
  gi_wp2
  gi_loopw [7] (fun i wr => ∃ k : Nat, k ≤ 4 ∧ i = .int .i64 k ∧ J (T.seq k) wr) (fun i _ => 4 - (intOf i).toNat)
  case atStart => exact ⟨0, Nat.zero_le _, rfl, h0⟩
  case round =>
    obtain ⟨k, hk, rfl, hJs⟩ := hrel
    obtain rfl | rfl | rfl | rfl | rfl : k = 0 ∨ k = 1 ∨ k = 2 ∨ k = 3 ∨ k = 4 := by omega
    · have hix := ix0 T
      have HN := Lib.hid (heap_alloc_new wr (.cells zero4 27))
      gi_wp2_with (with_reducible refine hold_sti 27 _ _ rfl ?_)
      apply Lib.hid
      with_reducible refine wpListIn_store_all rfl 27 _ _ rfl _ ?cs302 ?hx302 ?hy302 _ _ HN.out ?hf302 _ ?hl302 Try.size27 ?h1302 ?_
      case hy302 => exact rfl
      case hx302 => exact rfl
      case hf302 => exact rfl
      case hl302 => exact rfl
      case h1302 => simp [allOne, Value.oneCell']
      intro w2 hb2 hg2
      have hg2' : wr.grownBy w2 none := grown_new (World.grownBy_alloc _ _ _) hg2 (Nat.le_refl _)
      obtain ⟨c0, c1, c2, c3⟩ := cells4 hb2
      have hJ2 := hJ _ wr w2 none hJs hg2' (fun r e => by cases e)
      clear hb2 hg2 hg2' hix HN
      by_cases ht : T.a.th = true
      · have hs : T.seq 1 = T.seq 0 ++ [(0, T.a)] := seq_yes (show ([(0, T.a), (1, T.b), (2, T.c), (3, T.d)] : List (Nat × Ent)).take 1 = [(0, T.a), (1, T.b), (2, T.c), (3, T.d)].take 0 ++ [(0, T.a)] from rfl) ht
        obtain ⟨fn, tmps, assign, body, hy, hR⟩ := hY _ (0, T.a) w2 hJ2 (by have := T.seq_length 0; omega) (by simp [Tl.four]) ht
        simp only [Ent.val, ht] at hy
        replace hy : (Instr.yield l #[.int .i64 0, .agg #[.bool true, .int .u32 T.a.page, .int .u32 T.a.frame, .bool T.a.wr]]).run Try.prog w2 = _ := hy
        rw [ht] at c0
        clear ht
        gi_wp2
        refine hR.mono ?_
        rintro e W3 (⟨rfl, hJ3, hk3⟩ | ⟨rfl, hJx3⟩)
        · gi_wp2
          go_roundw
          case rel => exact ⟨1, by omega, rfl, by rw [hs]; exact hJ3⟩
          case measure => simp [intOf]
        · gi_wp2
          refine bodyPost_ret (results_none rfl _ _ _) rfl ?_
          exact ⟨⟨_, rfl⟩, .inr ⟨_, ⟨1, by omega, hs.symm⟩, hJx3⟩⟩
      · rw [Bool.not_eq_true] at ht
        have hs : T.seq 1 = T.seq 0 := seq_no (x := (0, T.a)) (show ([(0, T.a), (1, T.b), (2, T.c), (3, T.d)] : List (Nat × Ent)).take 1 = [(0, T.a), (1, T.b), (2, T.c), (3, T.d)].take 0 ++ [(0, T.a)] from rfl) ht
        rw [ht] at c0
        clear ht
        gi_wp2
        refine ⟨fun _ h => (by cases h), ?_⟩
        gi_wp2
        go_roundw
        case rel => exact ⟨1, by omega, rfl, by rw [hs]; exact hJ2⟩
        case measure => simp [intOf]
    · have hix := ix1 T
      have HN := Lib.hid (heap_alloc_new wr (.cells zero4 27))
      gi_wp2_with (with_reducible refine hold_sti 27 _ _ rfl ?_)
      apply Lib.hid
      with_reducible refine wpListIn_store_all rfl 27 _ _ rfl _ ?cs303 ?hx303 ?hy303 _ _ HN.out ?hf303 _ ?hl303 Try.size27 ?h1303 ?_
      case hy303 => exact rfl
      case hx303 => exact rfl
      case hf303 => exact rfl
      case hl303 => exact rfl
      case h1303 => simp [allOne, Value.oneCell']
      intro w2 hb2 hg2
      have hg2' : wr.grownBy w2 none := grown_new (World.grownBy_alloc _ _ _) hg2 (Nat.le_refl _)
      obtain ⟨c0, c1, c2, c3⟩ := cells4 hb2
      have hJ2 := hJ _ wr w2 none hJs hg2' (fun r e => by cases e)
      clear hb2 hg2 hg2' hix HN
      by_cases ht : T.b.th = true
      · have hs : T.seq 2 = T.seq 1 ++ [(1, T.b)] := seq_yes (show ([(0, T.a), (1, T.b), (2, T.c), (3, T.d)] : List (Nat × Ent)).take 2 = [(0, T.a), (1, T.b), (2, T.c), (3, T.d)].take 1 ++ [(1, T.b)] from rfl) ht
        obtain ⟨fn, tmps, assign, body, hy, hR⟩ := hY _ (1, T.b) w2 hJ2 (by have := T.seq_length 1; omega) (by simp [Tl.four]) ht
        simp only [Ent.val, ht] at hy
        replace hy : (Instr.yield l #[.int .i64 1, .agg #[.bool true, .int .u32 T.b.page, .int .u32 T.b.frame, .bool T.b.wr]]).run Try.prog w2 = _ := hy
        rw [ht] at c0
        clear ht
        gi_wp2
        refine hR.mono ?_
        rintro e W3 (⟨rfl, hJ3, hk3⟩ | ⟨rfl, hJx3⟩)
        · gi_wp2
          go_roundw
          case rel => exact ⟨2, by omega, rfl, by rw [hs]; exact hJ3⟩
          case measure => simp [intOf]
        · gi_wp2
          refine bodyPost_ret (results_none rfl _ _ _) rfl ?_
          exact ⟨⟨_, rfl⟩, .inr ⟨_, ⟨2, by omega, hs.symm⟩, hJx3⟩⟩
      · rw [Bool.not_eq_true] at ht
        have hs : T.seq 2 = T.seq 1 := seq_no (x := (1, T.b)) (show ([(0, T.a), (1, T.b), (2, T.c), (3, T.d)] : List (Nat × Ent)).take 2 = [(0, T.a), (1, T.b), (2, T.c), (3, T.d)].take 1 ++ [(1, T.b)] from rfl) ht
        rw [ht] at c0
        clear ht
        gi_wp2
        refine ⟨fun _ h => (by cases h), ?_⟩
        gi_wp2
        go_roundw
        case rel => exact ⟨2, by omega, rfl, by rw [hs]; exact hJ2⟩
        case measure => simp [intOf]
    · have hix := ix2 T
      have HN := Lib.hid (heap_alloc_new wr (.cells zero4 27))
      gi_wp2_with (with_reducible refine hold_sti 27 _ _ rfl ?_)
      apply Lib.hid
      with_reducible refine wpListIn_store_all rfl 27 _ _ rfl _ ?cs304 ?hx304 ?hy304 _ _ HN.out ?hf304 _ ?hl304 Try.size27 ?h1304 ?_
      case hy304 => exact rfl
      case hx304 => exact rfl
      case hf304 => exact rfl
      case hl304 => exact rfl
      case h1304 => simp [allOne, Value.oneCell']
      intro w2 hb2 hg2
      have hg2' : wr.grownBy w2 none := grown_new (World.grownBy_alloc _ _ _) hg2 (Nat.le_refl _)
      obtain ⟨c0, c1, c2, c3⟩ := cells4 hb2
      have hJ2 := hJ _ wr w2 none hJs hg2' (fun r e => by cases e)
      clear hb2 hg2 hg2' hix HN
      by_cases ht : T.c.th = true
      · have hs : T.seq 3 = T.seq 2 ++ [(2, T.c)] := seq_yes (show ([(0, T.a), (1, T.b), (2, T.c), (3, T.d)] : List (Nat × Ent)).take 3 = [(0, T.a), (1, T.b), (2, T.c), (3, T.d)].take 2 ++ [(2, T.c)] from rfl) ht
        obtain ⟨fn, tmps, assign, body, hy, hR⟩ := hY _ (2, T.c) w2 hJ2 (by have := T.seq_length 2; omega) (by simp [Tl.four]) ht
        simp only [Ent.val, ht] at hy
        replace hy : (Instr.yield l #[.int .i64 2, .agg #[.bool true, .int .u32 T.c.page, .int .u32 T.c.frame, .bool T.c.wr]]).run Try.prog w2 = _ := hy
        rw [ht] at c0
        clear ht
        gi_wp2
        refine hR.mono ?_
        rintro e W3 (⟨rfl, hJ3, hk3⟩ | ⟨rfl, hJx3⟩)
        · gi_wp2
          go_roundw
          case rel => exact ⟨3, by omega, rfl, by rw [hs]; exact hJ3⟩
          case measure => simp [intOf]
        · gi_wp2
          refine bodyPost_ret (results_none rfl _ _ _) rfl ?_
          exact ⟨⟨_, rfl⟩, .inr ⟨_, ⟨3, by omega, hs.symm⟩, hJx3⟩⟩
      · rw [Bool.not_eq_true] at ht
        have hs : T.seq 3 = T.seq 2 := seq_no (x := (2, T.c)) (show ([(0, T.a), (1, T.b), (2, T.c), (3, T.d)] : List (Nat × Ent)).take 3 = [(0, T.a), (1, T.b), (2, T.c), (3, T.d)].take 2 ++ [(2, T.c)] from rfl) ht
        rw [ht] at c0
        clear ht
        gi_wp2
        refine ⟨fun _ h => (by cases h), ?_⟩
        gi_wp2
        go_roundw
        case rel => exact ⟨3, by omega, rfl, by rw [hs]; exact hJ2⟩
        case measure => simp [intOf]
    · have hix := ix3 T
      have HN := Lib.hid (heap_alloc_new wr (.cells zero4 27))
      gi_wp2_with (with_reducible refine hold_sti 27 _ _ rfl ?_)
      apply Lib.hid
      with_reducible refine wpListIn_store_all rfl 27 _ _ rfl _ ?cs305 ?hx305 ?hy305 _ _ HN.out ?hf305 _ ?hl305 Try.size27 ?h1305 ?_
      case hy305 => exact rfl
      case hx305 => exact rfl
      case hf305 => exact rfl
      case hl305 => exact rfl
      case h1305 => simp [allOne, Value.oneCell']
      intro w2 hb2 hg2
      have hg2' : wr.grownBy w2 none := grown_new (World.grownBy_alloc _ _ _) hg2 (Nat.le_refl _)
      obtain ⟨c0, c1, c2, c3⟩ := cells4 hb2
      have hJ2 := hJ _ wr w2 none hJs hg2' (fun r e => by cases e)
      clear hb2 hg2 hg2' hix HN
      by_cases ht : T.d.th = true
      · have hs : T.seq 4 = T.seq 3 ++ [(3, T.d)] := seq_yes (show ([(0, T.a), (1, T.b), (2, T.c), (3, T.d)] : List (Nat × Ent)).take 4 = [(0, T.a), (1, T.b), (2, T.c), (3, T.d)].take 3 ++ [(3, T.d)] from rfl) ht
        obtain ⟨fn, tmps, assign, body, hy, hR⟩ := hY _ (3, T.d) w2 hJ2 (by have := T.seq_length 3; omega) (by simp [Tl.four]) ht
        simp only [Ent.val, ht] at hy
        replace hy : (Instr.yield l #[.int .i64 3, .agg #[.bool true, .int .u32 T.d.page, .int .u32 T.d.frame, .bool T.d.wr]]).run Try.prog w2 = _ := hy
        rw [ht] at c0
        clear ht
        gi_wp2
        refine hR.mono ?_
        rintro e W3 (⟨rfl, hJ3, hk3⟩ | ⟨rfl, hJx3⟩)
        · gi_wp2
          go_roundw
          case rel => exact ⟨4, by omega, rfl, by rw [hs]; exact hJ3⟩
          case measure => simp [intOf]
        · gi_wp2
          refine bodyPost_ret (results_none rfl _ _ _) rfl ?_
          exact ⟨⟨_, rfl⟩, .inr ⟨_, ⟨4, by omega, hs.symm⟩, hJx3⟩⟩
      · rw [Bool.not_eq_true] at ht
        have hs : T.seq 4 = T.seq 3 := seq_no (x := (3, T.d)) (show ([(0, T.a), (1, T.b), (2, T.c), (3, T.d)] : List (Nat × Ent)).take 4 = [(0, T.a), (1, T.b), (2, T.c), (3, T.d)].take 3 ++ [(3, T.d)] from rfl) ht
        rw [ht] at c0
        clear ht
        gi_wp2
        refine ⟨fun _ h => (by cases h), ?_⟩
        gi_wp2
        go_roundw
        case rel => exact ⟨4, by omega, rfl, by rw [hs]; exact hJ2⟩
        case measure => simp [intOf]
    · gi_wp2
      go_end0
      exact ⟨⟨_, rfl⟩, .inl ⟨_, rfl, hJs⟩⟩
end Go.Proofs.Ytcahpmlajfbidaa
