/- few; the bounds. -/
import Derived.Test.YtpoifobhbmhelaaV
set_option linter.unusedVariables false
set_option linter.unusedSimpArgs false
namespace Go.Proofs.Ytpoifobhbmhelaa
open Go.RowKit
def fewS : List Rv → Nat
  | [] => 0
  | t :: r => (50 + min t.b.length 20001) + fewS r
def bdS : List Rv → Nat
  | [] => 0
  | t :: r => (16 + t.b.length) + bdS r
theorem fewS_append : ∀ (a b : List Rv), fewS (a ++ b) = fewS a + fewS b
  | [], b => by simp [fewS]
  | t :: r, b => by simp [fewS, fewS_append r b, Nat.add_assoc]
theorem bdS_append : ∀ (a b : List Rv), bdS (a ++ b) = bdS a + bdS b
  | [], b => by simp [bdS]
  | t :: r, b => by simp [bdS, bdS_append r b, Nat.add_assoc]
theorem fewS_succ (ts : List Rv) (k : Nat) (h : k < ts.length) : fewS (ts.take (k + 1)) = fewS (ts.take k) + (50 + min ts[k].b.length 20001) := by
  rw [List.take_succ_eq_append_getElem h, fewS_append]; simp [fewS]
theorem bdS_succ (ts : List Rv) (k : Nat) (h : k < ts.length) : bdS (ts.take (k + 1)) = bdS (ts.take k) + (16 + ts[k].b.length) := by
  rw [List.take_succ_eq_append_getElem h, bdS_append]; simp [bdS]
theorem fewS_take (ts : List Rv) (k : Nat) : fewS (ts.take k) ≤ fewS ts := by
  conv => rhs; rw [← List.take_append_drop k ts, fewS_append]
  omega
theorem fewS_len : ∀ (ts : List Rv), 50 * ts.length ≤ fewS ts
  | [] => by simp [fewS]
  | t :: r => by have := fewS_len r; simp only [fewS, List.length_cons]; omega
theorem fewS_mem : ∀ (ts : List Rv) (t : Rv), t ∈ ts → min t.b.length 20001 ≤ fewS ts
  | u :: r, t, h => by
    rcases List.mem_cons.1 h with rfl | h
    · simp only [fewS]; omega
    · have := fewS_mem r t h; simp only [fewS]; omega
theorem bdS_few : ∀ (ts : List Rv), fewS ts ≤ 20000 → bdS ts ≤ fewS ts
  | [], _ => by simp [bdS]
  | t :: r, h => by
    simp only [fewS] at h
    have := bdS_few r (by omega)
    simp only [fewS, bdS]; omega
theorem bdS_le (M : Nat) : ∀ (ts : List Rv), (∀ t ∈ ts, t.b.length ≤ M) → bdS ts ≤ ts.length * (16 + M)
  | [], _ => by simp [bdS]
  | t :: r, h => by
    have h1 := bdS_le M r (fun u hu => h u (by simp [hu]))
    have h2 := h t (by simp)
    simp only [bdS, List.length_cons, Nat.add_mul]; omega
set_option maxRecDepth 100000 in
set_option maxHeartbeats 4000000 in
theorem few_any (f s m : Int) (a : Option Addr) (c : Nat) (ts : List Rv) (wh : Bool) (e : Int) (w : World) (hs : RL w a ts) (hm : ts.length ≤ 9223372036854775807) :
    Calls Try.prog 19 #[lgV f s m a ts.length c wh e] w fun e' w' => e' = .returned (.bool (decide (fewS ts ≤ 20000))) ∧ w.grownBy w' none := by
  have HA := Lib.hid (World.grownBy_alloc w (boxL f s m a ts.length c wh e) none)
  have HB := Lib.hid (heap_alloc_new w (boxL f s m a ts.length c wh e))
  have HS := Lib.hid (hs.kept HA.out)
  clear hs
  obtain ⟨n, hn⟩ : ∃ n, n = ts.length := ⟨_, rfl⟩
  have HN := Lib.hid hn
  rw [← hn] at HA HB HS hm ⊢
  obtain ⟨r, hr⟩ : ∃ r, r = decide (fewS ts ≤ 20000) := ⟨_, rfl⟩
  have HR := Lib.hid hr
  rw [← hr]
  clear hn hr
  go_enter Try.func19, Try.ntmps19
  go_wp2
  go_loop [3, 4] (fun x i => ∃ k : Nat, k ≤ n ∧ i = .int .i64 k ∧ x = .int .i64 (fewS (ts.take k) : Nat) ∧ fewS (ts.take k) ≤ 60000) (fun _ i => n - (intOf i).toNat)
  case atStart => exact ⟨0, Nat.zero_le _, rfl, rfl, by simp [fewS]⟩
  case round =>
    obtain ⟨k, hk, rfl, rfl, hc⟩ := hrel
    have hmono := fewS_take ts k
    by_cases hlt : k < n
    · have hk1 : k < ts.length := by have := HN.out; omega
      by_cases hle : fewS (ts.take k) ≤ 20000
      · obtain ⟨g1, o1, rfl, hat1⟩ := HS.out.at k hk1
        have hsc := fewS_succ ts k hk1
        obtain ⟨t, ht⟩ : ∃ t, t = ts[k] := ⟨_, rfl⟩
        rw [← ht] at hat1 hsc
        obtain ⟨z, hz⟩ : ∃ z, z = fewS (ts.take k) := ⟨_, rfl⟩
        obtain ⟨q, hq⟩ : ∃ q, q = t.b.length := ⟨_, rfl⟩
        have p3 := hat1.c3
        rw [← hz, ← hq] at hsc
        rw [← hz] at hle ⊢
        rw [← hq] at p3
        have HSC := Lib.hid hsc
        have hlt' : (k : Int) < (n : Nat) := by omega
        have hle' : (z : Int) ≤ 20000 := by omega
        have hwk : IntKind.i64.wrap ((k : Int) + 1) = ((k + 1 : Nat) : Int) := by rw [IntKind.wrap_i64]; omega
        have hw1 : IntKind.i64.wrap ((z : Int) + 50) = (z : Int) + 50 := by rw [IntKind.wrap_i64]; omega
        clear hsc hz hq ht hat1 hk1 hmono hc
        by_cases hq2 : (q : Int) ≤ 20001
        · have hmin : min (q : Int) 20001 = (q : Int) := by omega
          have hw2 : IntKind.i64.wrap ((z : Int) + 50 + (q : Int)) = (z : Int) + 50 + (q : Int) := by rw [IntKind.wrap_i64]; omega
          go_wp2
          go_round
          case rel => exact ⟨k + 1, by omega, rfl, by rw [HSC.out]; exact congrArg (Value.int .i64) (by omega), by rw [HSC.out]; omega⟩
          case measure => simp [intOf]; omega
        · have hmin : min (q : Int) 20001 = 20001 := by omega
          have hw2 : IntKind.i64.wrap ((z : Int) + 50 + 20001) = (z : Int) + 50 + 20001 := by rw [IntKind.wrap_i64]; omega
          go_wp2
          go_round
          case rel => exact ⟨k + 1, by omega, rfl, by rw [HSC.out]; exact congrArg (Value.int .i64) (by omega), by rw [HSC.out]; omega⟩
          case measure => simp [intOf]; omega
      · have HF := Lib.hid (show r = false from by rw [HR.out]; simp; omega)
        obtain ⟨z, hz⟩ : ∃ z, z = fewS (ts.take k) := ⟨_, rfl⟩
        rw [← hz] at hle ⊢
        have hlt' : (k : Int) < (n : Nat) := by omega
        have hle' : ¬ (z : Int) ≤ 20000 := by omega
        clear hz
        go_wp2
        go_ret
        exact ⟨by rw [HF.out]; rfl, HA.out⟩
    · have hkn : ts.take k = ts := List.take_of_length_le (by have := HN.out; omega)
      have hlt' : ¬ (k : Int) < (n : Nat) := by omega
      rw [hkn] at hc ⊢
      obtain ⟨z, hz⟩ : ∃ z, z = fewS ts := ⟨_, rfl⟩
      rw [← hz] at hc ⊢
      have HZ := Lib.hid (hz ▸ HR.out : r = decide (z ≤ 20000))
      clear hkn hz hmono
      by_cases hle : z ≤ 20000
      · have hle' : (z : Int) ≤ 20000 := by omega
        have HD := Lib.hid (show r = true from by rw [HZ.out]; simp; omega)
        go_wp2
        go_ret
        exact ⟨by rw [HD.out]; rfl, HA.out⟩
      · have hle' : ¬ (z : Int) ≤ 20000 := by omega
        have HD := Lib.hid (show r = false from by rw [HZ.out]; simp; omega)
        go_wp2
        go_ret
        exact ⟨by rw [HD.out]; rfl, HA.out⟩
set_option maxRecDepth 100000 in
set_option maxHeartbeats 4000000 in
theorem rbound_any (f s m : Int) (a : Option Addr) (c : Nat) (ts : List Rv) (wh : Bool) (e : Int) (w : World) (hs : RL w a ts) (hm : ts.length ≤ 1000000) (hb : ∀ t ∈ ts, t.b.length ≤ 1000000) :
    Calls Try.prog 21 #[lgV f s m a ts.length c wh e] w fun e' w' => e' = .returned (.int .i64 ((32 + bdS ts : Nat) : Int)) ∧ w.grownBy w' none := by
  have HA := Lib.hid (World.grownBy_alloc w (boxL f s m a ts.length c wh e) none)
  have HB := Lib.hid (heap_alloc_new w (boxL f s m a ts.length c wh e))
  have HS := Lib.hid (hs.kept HA.out)
  have HBM := Lib.hid hb
  clear hs hb
  obtain ⟨n, hn⟩ : ∃ n, n = ts.length := ⟨_, rfl⟩
  have HN := Lib.hid hn
  rw [← hn] at HA HB HS hm ⊢
  obtain ⟨r, hr⟩ : ∃ r, r = 32 + bdS ts := ⟨_, rfl⟩
  have HR := Lib.hid hr
  rw [← hr]
  clear hn hr
  go_enter Try.func21, Try.ntmps21
  go_wp2
  go_loop [3, 4] (fun x i => ∃ (k z : Nat), k ≤ n ∧ i = .int .i64 k ∧ x = .int .i64 (z : Nat) ∧ z = 32 + bdS (ts.take k) ∧ z ≤ 32 + k * 1000016) (fun _ i => n - (intOf i).toNat)
  case atStart => exact ⟨0, 32, Nat.zero_le _, rfl, rfl, by simp [bdS], by omega⟩
  case round =>
    obtain ⟨k, z, hk, rfl, rfl, hz, hzl⟩ := hrel
    have HZ := Lib.hid hz
    clear hz
    by_cases hlt : k < n
    · have hk1 : k < ts.length := by have := HN.out; omega
      obtain ⟨g1, o1, rfl, hat1⟩ := HS.out.at k hk1
      have hsc := bdS_succ ts k hk1
      have hq0 := HBM.out _ (List.getElem_mem hk1)
      obtain ⟨t, ht⟩ : ∃ t, t = ts[k] := ⟨_, rfl⟩
      rw [← ht] at hat1 hsc hq0
      obtain ⟨q, hq⟩ : ∃ q, q = t.b.length := ⟨_, rfl⟩
      have p3 := hat1.c3
      rw [← hq] at hsc hq0 p3
      have HSC := Lib.hid hsc
      have hlt' : (k : Int) < (n : Nat) := by omega
      have hwk : IntKind.i64.wrap ((k : Int) + 1) = ((k + 1 : Nat) : Int) := by rw [IntKind.wrap_i64]; omega
      have hw1 : IntKind.i64.wrap ((z : Int) + 16) = (z : Int) + 16 := by rw [IntKind.wrap_i64]; omega
      have hw2 : IntKind.i64.wrap ((z : Int) + 16 + (q : Int)) = (z : Int) + 16 + (q : Int) := by rw [IntKind.wrap_i64]; omega
      clear hsc hq ht hat1 hk1
      go_wp2
      go_round
      case rel => exact ⟨k + 1, z + (16 + q), by omega, rfl, by exact congrArg (Value.int .i64) (by omega), by rw [HSC.out]; have := HZ.out; omega, by omega⟩
      case measure => simp [intOf]; omega
    · have HD := Lib.hid (show r = z from by rw [HR.out, HZ.out, List.take_of_length_le (by have := HN.out; omega)])
      have hlt' : ¬ (k : Int) < (n : Nat) := by omega
      go_wp2
      go_ret
      exact ⟨by rw [HD.out]; rfl, HA.out⟩
theorem ok_len {f s m e : Int} {wh : Bool} {ts : List Rv} (h : (⟨f, s, m, rsOf ts, wh, e⟩ : Lg).Ok) : ∀ t ∈ ts, t.b.length ≤ 2048 := by
  have h2 : RsOk 0 (rsOf ts) := h.2.1
  have key : ∀ (ts : List Rv) (z : Int), RsOk z (rsOf ts) → ∀ t ∈ ts, t.b.length ≤ 2048 := by
    intro ts
    induction ts with
    | nil => intro z _ t ht; cases ht
    | cons u r ih =>
      intro z h t ht
      rcases List.mem_cons.1 ht with rfl | ht
      · have hr : Rt t.a t.k t.n t.b.length := h.1.1
        have := hr.2
        unfold lim at this
        repeat' (first | (split at this; next => simp [LimOk] at this; omega) | skip)
        simp [LimOk] at this
      · exact ih u.a h.2 t ht
  exact key ts 0 h2
set_option maxRecDepth 100000 in
set_option maxHeartbeats 4000000 in
theorem bound_no (f s m : Int) (a : Option Addr) (c : Nat) (ts : List Rv) (wh : Bool) (e : Int) (w : World) (hs : RL w a ts) (hm : ts.length ≤ 1000000) (hno : ¬ (⟨f, s, m, rsOf ts, wh, e⟩ : Lg).Ok) :
    Calls Try.prog 20 #[lgV f s m a ts.length c wh e] w fun e' w' => e' = .returned (.tuple #[.int .i64 0, .int .i64 260]) ∧ w.grownBy w' none := by
  have HA := Lib.hid (World.grownBy_alloc w (boxL f s m a ts.length c wh e) none)
  have HC := Lib.hid (check_any f s m a c ts wh e _ (hs.kept HA.out) hm)
  have HCK := Lib.hid (ckV_no hno)
  clear hs hno hm
  go_enter Try.func20, Try.ntmps20
  go_wp2_with fail
  refine HC.out.mono ?_; rintro e1 w1 ⟨rfl, hg1⟩
  rw [HCK.out]
  have HG1 := Lib.hid hg1
  clear hg1
  go_wp2
  go_ret2
  exact ⟨rfl, HA.out.trans HG1.out⟩
set_option maxRecDepth 100000 in
set_option maxHeartbeats 4000000 in
theorem bound_yes (f s m : Int) (a : Option Addr) (c : Nat) (ts : List Rv) (wh : Bool) (e : Int) (w : World) (hs : RL w a ts) (hm : ts.length ≤ 1000000) (hok : (⟨f, s, m, rsOf ts, wh, e⟩ : Lg).Ok) :
    Calls Try.prog 20 #[lgV f s m a ts.length c wh e] w fun e' w' => e' = .returned (.tuple #[.int .i64 ((32 + bdS ts : Nat) : Int), .int .i64 0]) ∧ w.grownBy w' none := by
  have HA := Lib.hid (World.grownBy_alloc w (boxL f s m a ts.length c wh e) none)
  have HB := Lib.hid (heap_alloc_new w (boxL f s m a ts.length c wh e))
  have HS := Lib.hid (hs.kept HA.out)
  have HC := Lib.hid (check_any f s m a c ts wh e _ HS.out hm)
  have HCK := Lib.hid (ckV_yes hok)
  have HBM := Lib.hid (ok_len hok)
  clear hs hok
  obtain ⟨n, hn⟩ : ∃ n, n = ts.length := ⟨_, rfl⟩
  have HN := Lib.hid hn
  rw [← hn] at HA HB HS HC hm ⊢
  obtain ⟨r, hr⟩ : ∃ r, r = 32 + bdS ts := ⟨_, rfl⟩
  have HR := Lib.hid hr
  rw [← hr]
  clear hn hr
  go_enter Try.func20, Try.ntmps20
  go_wp2_with fail
  refine HC.out.mono ?_; rintro e1 w1 ⟨rfl, hg1⟩
  rw [HCK.out]
  have HG1 := Lib.hid hg1
  have k3 := cells_all (keep_blk hg1 HB.out) 3
  clear hg1
  go_wp2
  go_loopw [5, 16] (fun x i wr => ∃ (k z : Nat), k ≤ n ∧ i = .int .i64 k ∧ x = .int .i64 (z : Nat) ∧ z = 32 + bdS (ts.take k) ∧ z ≤ 32 + k * 2064 ∧ w1.grownBy wr none) (fun _ i _ => n - (intOf i).toNat)
  case atStart => exact ⟨0, 32, Nat.zero_le _, rfl, rfl, by simp [bdS], by omega, World.grownBy.refl _ _⟩
  case round =>
    obtain ⟨k, z, hk, rfl, rfl, hz, hzl, hgr⟩ := hrel
    have HZ := Lib.hid hz
    have HGR := Lib.hid hgr
    clear hz hgr
    by_cases hlt : k < n
    · have hk1 : k < ts.length := by have := HN.out; omega
      obtain ⟨g1, o1, rfl, hat1⟩ := (HS.out.kept (HG1.out.trans HGR.out)).at k hk1
      have hsc := bdS_succ ts k hk1
      have hq0 := HBM.out _ (List.getElem_mem hk1)
      obtain ⟨t, ht⟩ : ∃ t, t = ts[k] := ⟨_, rfl⟩
      rw [← ht] at hat1 hsc hq0
      obtain ⟨q, hq⟩ : ∃ q, q = t.b.length := ⟨_, rfl⟩
      obtain ⟨p0, p1, p2, p3, p4, p5⟩ := hat1
      rw [← hq] at hsc hq0 p3
      have HSC := Lib.hid hsc
      have HGA := Lib.hid (World.grownBy_alloc wr (.cells #[.int .i64 t.a, .int .i64 t.k, .int .i64 t.n, .slice t.x q t.c] 25) none)
      have hlt' : (k : Int) < (n : Nat) := by omega
      have hwk : IntKind.i64.wrap ((k : Int) + 1) = ((k + 1 : Nat) : Int) := by rw [IntKind.wrap_i64]; omega
      have hw1 : IntKind.i64.wrap (16 + (q : Int)) = 16 + (q : Int) := by rw [IntKind.wrap_i64]; omega
      have hw2 : IntKind.i64.wrap ((z : Int) + (16 + (q : Int))) = (z : Int) + (16 + (q : Int)) := by rw [IntKind.wrap_i64]; omega
      clear hsc hq ht p4 p5 hk1
      go_wp2
      go_roundw
      case rel => exact ⟨k + 1, z + (16 + q), by omega, rfl, by exact congrArg (Value.int .i64) (by omega), by rw [HSC.out]; have := HZ.out; omega, by omega, HGR.out.trans HGA.out⟩
      case measure => simp [intOf]; omega
    · have HD := Lib.hid (show r = z from by rw [HR.out, HZ.out, List.take_of_length_le (by have := HN.out; omega)])
      have hlt' : ¬ (k : Int) < (n : Nat) := by omega
      go_wp2
      go_ret2
      exact ⟨by rw [HD.out]; rfl, (HA.out.trans HG1.out).trans HGR.out⟩
end Go.Proofs.Ytpoifobhbmhelaa
