import Derived.Test.YtpoifobhbmhelaaH
set_option linter.unusedVariables false
set_option linter.unusedSimpArgs false
namespace Go.Proofs.Ytpoifobhbmhelaa
open Go.RowKit
theorem decB_short {l : List UInt8} {last : Int} (h : l.length < 3) : decB l last = none := by
  cases l with
  | nil => rfl
  | cons c t =>
    cases ht : take t with
    | no => exact decB_b1 (fun y u e => by rw [ht] at e; cases e)
    | soon => exact decB_b1 (fun y u e => by rw [ht] at e; cases e)
    | num y u =>
      have := take_lt ht
      simp at h
      have hu : u = [] := List.length_eq_zero_iff.1 (by omega)
      subst hu
      exact decB_b2 ht (fun n v e => by cases e)
theorem take_drop {l r : List UInt8} {k n : Nat} (hk : k ≤ l.length) (h : take (l.drop k) = .num n r) : l.drop (l.length - r.length) = r := by
  obtain ⟨p, hp, e⟩ := tk_rest _ _ _ _ _ h
  have hl : l = l.take k ++ (p ++ r) := by rw [← e, List.take_append_drop]
  have hlen := congrArg List.length hl
  simp only [List.length_append] at hlen
  conv => lhs; rw [hl]
  rw [← List.append_assoc]
  exact List.drop_left' (by simp only [List.length_append]; omega)
/-- What ref.body does. -/
def BodyDo (w : World) (o : Option Rc) (e : Ending) (w' : World) : Prop :=
  match o with
  | none => ∃ a k n x m c, e = .returned (.tuple #[rV a k n x m c, .bool false]) ∧ w.grownBy w' none
  | some r => ∃ x c, e = .returned (.tuple #[rV r.a r.k r.n x r.b.length c, .bool true]) ∧ Gs eB w' (.slice x r.b.length c) r.b.length (bsV r.b) ∧ w.grownBy w' none ∧ (∀ k, rowOf (.slice x r.b.length c) = some k → w.heap.size ≤ k)
theorem BodyDo.no {w w' : World} {o : Option Rc} (h : o = none) (hg : w.grownBy w' none) : BodyDo w o (.returned (.tuple #[rV 0 0 0 none 0 0, .bool false])) w' := by subst h; exact ⟨0, 0, 0, none, 0, 0, rfl, hg⟩
set_option maxRecDepth 100000 in
set_option maxHeartbeats 4000000 in
theorem rbody_short (x : Option Addr) (cap : Nat) (l : List UInt8) (last : Int) (w : World) (hs : Go.Proofs.Ytpoifobhbmhelaa.Src w x l) (hcap : l.length ≤ cap) (hl : l.length ≤ 1000000) (h0 : 0 ≤ last) (h1 : last ≤ 4611686018427387904) (h3 : l.length < 3) : Calls Try.prog 39 #[.slice x l.length cap, .int .i64 last] w fun e w' => BodyDo w (decB l last) e w' := by
  have HNO := Lib.hid (decB_short (last := last) h3)
  have HR0 := Lib.hid (heap_alloc_new w (.cells rz.toArray 25))
  have HG0 := Lib.hid (World.grownBy_alloc w (.cells rz.toArray 25) none)
  obtain ⟨n, hn⟩ : ∃ n, n = l.length := ⟨_, rfl⟩
  rw [← hn] at h3 ⊢
  have h3' : (n : Int) < 3 := by omega
  clear hs hcap hl hn
  go_enter Try.func39, Try.ntmps39
  go_wp2_with (with_reducible refine hold_st 25 _ _ rfl ?_)
  apply Lib.hid
  with_reducible refine wpList_store_all rfl 25 _ _ rfl _ ?cs2001 ?hx2001 ?hy2001 _ _ HR0.out ?hf2001 _ ?hl2001 Try.size25 ?h12001 ?_
  case hy2001 => exact rfl
  case hx2001 => exact rfl
  case hf2001 => exact rfl
  case hl2001 => exact rfl
  case h12001 => simp [allOne, Value.oneCell']
  intro w3 hb3 hg3
  have HB3 := Lib.hid hb3
  have HG3 := Lib.hid (grown_new HG0.out hg3 (Nat.le_refl _))
  clear hb3 hg3
  go_wp2
  refine bodyPost_ret (results_c25t rfl _ _ _ _ (by rfl) (by rfl) HB3.out) (by rfl) ?_
  exact BodyDo.no HNO.out HG3.out
set_option maxRecDepth 100000 in
set_option maxHeartbeats 4000000 in
theorem rbody_b1no (x : Option Addr) (cap : Nat) (l : List UInt8) (last : Int) (w : World) (hs : Go.Proofs.Ytpoifobhbmhelaa.Src w x l) (hcap : l.length ≤ cap) (hl : l.length ≤ 1000000) (h0 : 0 ≤ last) (h1 : last ≤ 4611686018427387904) (c : UInt8) (t : List UInt8) (hlt : l = c :: t) (h3 : ¬ l.length < 3) (ht : take t = .no) : Calls Try.prog 39 #[.slice x l.length cap, .int .i64 last] w fun e w' => BodyDo w (decB l last) e w' := by
  have HNO := Lib.hid (show decB l last = none from by rw [hlt]; exact decB_b1 (fun y u e => by rw [ht] at e; cases e))
  have HR0 := Lib.hid (heap_alloc_new w (.cells rz.toArray 25))
  have HG0 := Lib.hid (World.grownBy_alloc w (.cells rz.toArray 25) none)
  obtain ⟨n, hn⟩ : ∃ n, n = l.length := ⟨_, rfl⟩
  have hat : 1 ≤ l.length := by omega
  have ht' : take (l.drop 1) = .no := by rw [hlt]; exact ht
  have C1 := rtake_any x cap l 1 (w.alloc (.cells rz.toArray 25)) (hs.keptNone HG0.out) hat hl
  rw [ht'] at C1
  rw [← hn] at h3 ⊢ C1
  have h3' : ¬ (n : Int) < 3 := by omega
  unfold tkRes at C1
  simp only at C1
  clear hs hcap hl hn hlt ht ht' hat h0 h1
  go_enter Try.func39, Try.ntmps39
  go_wp2_with fail
  refine C1.mono ?_; rintro e w2 ⟨rfl, rfl⟩
  clear C1
  go_wp2_with (with_reducible refine hold_st 25 _ _ rfl ?_)
  apply Lib.hid
  with_reducible refine wpList_store_all rfl 25 _ _ rfl _ ?cs2001 ?hx2001 ?hy2001 _ _ HR0.out ?hf2001 _ ?hl2001 Try.size25 ?h12001 ?_
  case hy2001 => exact rfl
  case hx2001 => exact rfl
  case hf2001 => exact rfl
  case hl2001 => exact rfl
  case h12001 => simp [allOne, Value.oneCell']
  intro w3 hb3 hg3
  have HB3 := Lib.hid hb3
  have HG3 := Lib.hid (grown_new HG0.out hg3 (Nat.le_refl _))
  clear hb3 hg3
  go_wp2
  refine bodyPost_ret (results_c25t rfl _ _ _ _ (by rfl) (by rfl) HB3.out) (by rfl) ?_
  exact BodyDo.no HNO.out HG3.out
set_option maxRecDepth 100000 in
set_option maxHeartbeats 4000000 in
theorem rbody_b1soon (x : Option Addr) (cap : Nat) (l : List UInt8) (last : Int) (w : World) (hs : Go.Proofs.Ytpoifobhbmhelaa.Src w x l) (hcap : l.length ≤ cap) (hl : l.length ≤ 1000000) (h0 : 0 ≤ last) (h1 : last ≤ 4611686018427387904) (c : UInt8) (t : List UInt8) (hlt : l = c :: t) (h3 : ¬ l.length < 3) (ht : take t = .soon) : Calls Try.prog 39 #[.slice x l.length cap, .int .i64 last] w fun e w' => BodyDo w (decB l last) e w' := by
  have HNO := Lib.hid (show decB l last = none from by rw [hlt]; exact decB_b1 (fun y u e => by rw [ht] at e; cases e))
  have HR0 := Lib.hid (heap_alloc_new w (.cells rz.toArray 25))
  have HG0 := Lib.hid (World.grownBy_alloc w (.cells rz.toArray 25) none)
  obtain ⟨n, hn⟩ : ∃ n, n = l.length := ⟨_, rfl⟩
  have hat : 1 ≤ l.length := by omega
  have ht' : take (l.drop 1) = .soon := by rw [hlt]; exact ht
  have C1 := rtake_any x cap l 1 (w.alloc (.cells rz.toArray 25)) (hs.keptNone HG0.out) hat hl
  rw [ht'] at C1
  rw [← hn] at h3 ⊢ C1
  have h3' : ¬ (n : Int) < 3 := by omega
  unfold tkRes at C1
  simp only at C1
  clear hs hcap hl hn hlt ht ht' hat h0 h1
  go_enter Try.func39, Try.ntmps39
  go_wp2_with fail
  refine C1.mono ?_; rintro e w2 ⟨rfl, rfl⟩
  clear C1
  go_wp2_with (with_reducible refine hold_st 25 _ _ rfl ?_)
  apply Lib.hid
  with_reducible refine wpList_store_all rfl 25 _ _ rfl _ ?cs2001 ?hx2001 ?hy2001 _ _ HR0.out ?hf2001 _ ?hl2001 Try.size25 ?h12001 ?_
  case hy2001 => exact rfl
  case hx2001 => exact rfl
  case hf2001 => exact rfl
  case hl2001 => exact rfl
  case h12001 => simp [allOne, Value.oneCell']
  intro w3 hb3 hg3
  have HB3 := Lib.hid hb3
  have HG3 := Lib.hid (grown_new HG0.out hg3 (Nat.le_refl _))
  clear hb3 hg3
  go_wp2
  refine bodyPost_ret (results_c25t rfl _ _ _ _ (by rfl) (by rfl) HB3.out) (by rfl) ?_
  exact BodyDo.no HNO.out HG3.out
set_option maxRecDepth 100000 in
set_option maxHeartbeats 4000000 in
theorem rbody_b3y (x : Option Addr) (cap : Nat) (l : List UInt8) (last : Int) (w : World) (hs : Go.Proofs.Ytpoifobhbmhelaa.Src w x l) (hcap : l.length ≤ cap) (hl : l.length ≤ 1000000) (h0 : 0 ≤ last) (h1 : last ≤ 4611686018427387904) (c : UInt8) (t : List UInt8) (hlt : l = c :: t) (h3 : ¬ l.length < 3) (y : Nat) (u : List UInt8) (ht : take t = .num y u) (hy : ¬ (y : Int) ≤ 4611686018427387904 - last) : Calls Try.prog 39 #[.slice x l.length cap, .int .i64 last] w fun e w' => BodyDo w (decB l last) e w' := by
  have HNO := Lib.hid (show decB l last = none from by
    rw [hlt]
    cases hu : take u with
    | no => exact decB_b2 ht (fun n v e => by rw [hu] at e; cases e)
    | soon => exact decB_b2 ht (fun n v e => by rw [hu] at e; cases e)
    | num n v => exact decB_b3 ht hu (fun h => hy h.1.1))
  have HR0 := Lib.hid (heap_alloc_new w (.cells rz.toArray 25))
  have HG0 := Lib.hid (World.grownBy_alloc w (.cells rz.toArray 25) none)
  obtain ⟨n, hn⟩ : ∃ n, n = l.length := ⟨_, rfl⟩
  have hat : 1 ≤ l.length := by omega
  have ht' : take (l.drop 1) = .num y u := by rw [hlt]; exact ht
  have C1 := rtake_any x cap l 1 (w.alloc (.cells rz.toArray 25)) (hs.keptNone HG0.out) hat hl
  rw [ht'] at C1
  rw [← hn] at h3 ⊢ C1
  have h3' : ¬ (n : Int) < 3 := by omega
  have HYB := Lib.hid (take_inv ht).2
  have HDR := Lib.hid (take_drop hat ht')
  have hul : u.length < n := by have := take_lt ht; rw [hn, hlt]; simp; omega
  obtain ⟨A1, hA1⟩ : ∃ A1, A1 = n - u.length := ⟨_, rfl⟩
  have hA2 : A1 ≤ l.length := by omega
  have C2 := rtake_any x cap l A1 (w.alloc (.cells rz.toArray 25)) (hs.keptNone HG0.out) hA2 hl
  rw [show l.drop A1 = u from by rw [hA1, hn]; exact HDR.out, ← hn] at C2
  unfold tkRes at C1
  simp only at C1
  rw [← hA1] at C1
  have hp1 : ¬ (A1 : Int) ≤ 0 := by omega
  have hp2 : 0 < A1 := by omega
  have hp3 : ¬ A1 = 0 := by omega
  obtain ⟨D, hD⟩ : ∃ D : Int, D = 4611686018427387904 - last := ⟨_, rfl⟩
  have hsub : IntKind.i64.wrap (4611686018427387904 - last) = D := by rw [IntKind.wrap_i64]; omega
  have HDD := Lib.hid hD
  have HA1 := Lib.hid hA1
  have HN := Lib.hid hn
  have hyD : D < (y : Int) := by omega
  clear C2 hy
  clear hul hA1 hA2 hD hn h3 hat ht' hlt ht hs hcap hl h0 h1
  go_enter Try.func39, Try.ntmps39
  go_wp2_with fail
  refine C1.mono ?_; rintro e w2 ⟨rfl, rfl⟩
  clear C1
  go_wp2_with (with_reducible refine hold_st 25 _ _ rfl ?_)
  apply Lib.hid
  with_reducible refine wpList_store_all rfl 25 _ _ rfl _ ?cs2001 ?hx2001 ?hy2001 _ _ HR0.out ?hf2001 _ ?hl2001 Try.size25 ?h12001 ?_
  case hy2001 => exact rfl
  case hx2001 => exact rfl
  case hf2001 => exact rfl
  case hl2001 => exact rfl
  case h12001 => simp [allOne, Value.oneCell']
  intro w3 hb3 hg3
  have HB3 := Lib.hid hb3
  have HG3 := Lib.hid (grown_new HG0.out hg3 (Nat.le_refl _))
  clear hb3 hg3
  go_wp2
  refine bodyPost_ret (results_c25t rfl _ _ _ _ (by rfl) (by rfl) HB3.out) (by rfl) ?_
  exact BodyDo.no HNO.out HG3.out
set_option maxRecDepth 100000 in
set_option maxHeartbeats 4000000 in
theorem rbody_b2no (x : Option Addr) (cap : Nat) (l : List UInt8) (last : Int) (w : World) (hs : Go.Proofs.Ytpoifobhbmhelaa.Src w x l) (hcap : l.length ≤ cap) (hl : l.length ≤ 1000000) (h0 : 0 ≤ last) (h1 : last ≤ 4611686018427387904) (c : UInt8) (t : List UInt8) (hlt : l = c :: t) (h3 : ¬ l.length < 3) (y : Nat) (u : List UInt8) (ht : take t = .num y u) (hy : (y : Int) ≤ 4611686018427387904 - last) (hu : take u = .no) : Calls Try.prog 39 #[.slice x l.length cap, .int .i64 last] w fun e w' => BodyDo w (decB l last) e w' := by
  have HNO := Lib.hid (show decB l last = none from by rw [hlt]; exact decB_b2 ht (fun n v e => by rw [hu] at e; cases e))
  have HR0 := Lib.hid (heap_alloc_new w (.cells rz.toArray 25))
  have HG0 := Lib.hid (World.grownBy_alloc w (.cells rz.toArray 25) none)
  obtain ⟨n, hn⟩ : ∃ n, n = l.length := ⟨_, rfl⟩
  have hat : 1 ≤ l.length := by omega
  have ht' : take (l.drop 1) = .num y u := by rw [hlt]; exact ht
  have C1 := rtake_any x cap l 1 (w.alloc (.cells rz.toArray 25)) (hs.keptNone HG0.out) hat hl
  rw [ht'] at C1
  rw [← hn] at h3 ⊢ C1
  have h3' : ¬ (n : Int) < 3 := by omega
  have HYB := Lib.hid (take_inv ht).2
  have HDR := Lib.hid (take_drop hat ht')
  have hul : u.length < n := by have := take_lt ht; rw [hn, hlt]; simp; omega
  obtain ⟨A1, hA1⟩ : ∃ A1, A1 = n - u.length := ⟨_, rfl⟩
  have hA2 : A1 ≤ l.length := by omega
  have C2 := rtake_any x cap l A1 (w.alloc (.cells rz.toArray 25)) (hs.keptNone HG0.out) hA2 hl
  rw [show l.drop A1 = u from by rw [hA1, hn]; exact HDR.out, ← hn] at C2
  unfold tkRes at C1
  simp only at C1
  rw [← hA1] at C1
  have hp1 : ¬ (A1 : Int) ≤ 0 := by omega
  have hp2 : 0 < A1 := by omega
  have hp3 : ¬ A1 = 0 := by omega
  obtain ⟨D, hD⟩ : ∃ D : Int, D = 4611686018427387904 - last := ⟨_, rfl⟩
  have hsub : IntKind.i64.wrap (4611686018427387904 - last) = D := by rw [IntKind.wrap_i64]; omega
  have HDD := Lib.hid hD
  have HA1 := Lib.hid hA1
  have HN := Lib.hid hn
  have hyD : ¬ D < (y : Int) := by omega
  rw [hu] at C2
  unfold tkRes at C2
  simp only at C2
  clear hy hu
  clear hul hA1 hA2 hD hn h3 hat ht' hlt ht hs hcap hl h0 h1
  go_enter Try.func39, Try.ntmps39
  go_wp2_with fail
  refine C1.mono ?_; rintro e w2 ⟨rfl, rfl⟩
  clear C1
  go_wp2_with fail
  refine C2.mono ?_; rintro e w2 ⟨rfl, rfl⟩
  clear C2
  go_wp2_with (with_reducible refine hold_st 25 _ _ rfl ?_)
  apply Lib.hid
  with_reducible refine wpList_store_all rfl 25 _ _ rfl _ ?cs2001 ?hx2001 ?hy2001 _ _ HR0.out ?hf2001 _ ?hl2001 Try.size25 ?h12001 ?_
  case hy2001 => exact rfl
  case hx2001 => exact rfl
  case hf2001 => exact rfl
  case hl2001 => exact rfl
  case h12001 => simp [allOne, Value.oneCell']
  intro w3 hb3 hg3
  have HB3 := Lib.hid hb3
  have HG3 := Lib.hid (grown_new HG0.out hg3 (Nat.le_refl _))
  clear hb3 hg3
  go_wp2
  refine bodyPost_ret (results_c25t rfl _ _ _ _ (by rfl) (by rfl) HB3.out) (by rfl) ?_
  exact BodyDo.no HNO.out HG3.out
set_option maxRecDepth 100000 in
set_option maxHeartbeats 4000000 in
theorem rbody_b2soon (x : Option Addr) (cap : Nat) (l : List UInt8) (last : Int) (w : World) (hs : Go.Proofs.Ytpoifobhbmhelaa.Src w x l) (hcap : l.length ≤ cap) (hl : l.length ≤ 1000000) (h0 : 0 ≤ last) (h1 : last ≤ 4611686018427387904) (c : UInt8) (t : List UInt8) (hlt : l = c :: t) (h3 : ¬ l.length < 3) (y : Nat) (u : List UInt8) (ht : take t = .num y u) (hy : (y : Int) ≤ 4611686018427387904 - last) (hu : take u = .soon) : Calls Try.prog 39 #[.slice x l.length cap, .int .i64 last] w fun e w' => BodyDo w (decB l last) e w' := by
  have HNO := Lib.hid (show decB l last = none from by rw [hlt]; exact decB_b2 ht (fun n v e => by rw [hu] at e; cases e))
  have HR0 := Lib.hid (heap_alloc_new w (.cells rz.toArray 25))
  have HG0 := Lib.hid (World.grownBy_alloc w (.cells rz.toArray 25) none)
  obtain ⟨n, hn⟩ : ∃ n, n = l.length := ⟨_, rfl⟩
  have hat : 1 ≤ l.length := by omega
  have ht' : take (l.drop 1) = .num y u := by rw [hlt]; exact ht
  have C1 := rtake_any x cap l 1 (w.alloc (.cells rz.toArray 25)) (hs.keptNone HG0.out) hat hl
  rw [ht'] at C1
  rw [← hn] at h3 ⊢ C1
  have h3' : ¬ (n : Int) < 3 := by omega
  have HYB := Lib.hid (take_inv ht).2
  have HDR := Lib.hid (take_drop hat ht')
  have hul : u.length < n := by have := take_lt ht; rw [hn, hlt]; simp; omega
  obtain ⟨A1, hA1⟩ : ∃ A1, A1 = n - u.length := ⟨_, rfl⟩
  have hA2 : A1 ≤ l.length := by omega
  have C2 := rtake_any x cap l A1 (w.alloc (.cells rz.toArray 25)) (hs.keptNone HG0.out) hA2 hl
  rw [show l.drop A1 = u from by rw [hA1, hn]; exact HDR.out, ← hn] at C2
  unfold tkRes at C1
  simp only at C1
  rw [← hA1] at C1
  have hp1 : ¬ (A1 : Int) ≤ 0 := by omega
  have hp2 : 0 < A1 := by omega
  have hp3 : ¬ A1 = 0 := by omega
  obtain ⟨D, hD⟩ : ∃ D : Int, D = 4611686018427387904 - last := ⟨_, rfl⟩
  have hsub : IntKind.i64.wrap (4611686018427387904 - last) = D := by rw [IntKind.wrap_i64]; omega
  have HDD := Lib.hid hD
  have HA1 := Lib.hid hA1
  have HN := Lib.hid hn
  have hyD : ¬ D < (y : Int) := by omega
  rw [hu] at C2
  unfold tkRes at C2
  simp only at C2
  clear hy hu
  clear hul hA1 hA2 hD hn h3 hat ht' hlt ht hs hcap hl h0 h1
  go_enter Try.func39, Try.ntmps39
  go_wp2_with fail
  refine C1.mono ?_; rintro e w2 ⟨rfl, rfl⟩
  clear C1
  go_wp2_with fail
  refine C2.mono ?_; rintro e w2 ⟨rfl, rfl⟩
  clear C2
  go_wp2_with (with_reducible refine hold_st 25 _ _ rfl ?_)
  apply Lib.hid
  with_reducible refine wpList_store_all rfl 25 _ _ rfl _ ?cs2001 ?hx2001 ?hy2001 _ _ HR0.out ?hf2001 _ ?hl2001 Try.size25 ?h12001 ?_
  case hy2001 => exact rfl
  case hx2001 => exact rfl
  case hf2001 => exact rfl
  case hl2001 => exact rfl
  case h12001 => simp [allOne, Value.oneCell']
  intro w3 hb3 hg3
  have HB3 := Lib.hid hb3
  have HG3 := Lib.hid (grown_new HG0.out hg3 (Nat.le_refl _))
  clear hb3 hg3
  go_wp2
  refine bodyPost_ret (results_c25t rfl _ _ _ _ (by rfl) (by rfl) HB3.out) (by rfl) ?_
  exact BodyDo.no HNO.out HG3.out
set_option maxRecDepth 100000 in
set_option maxHeartbeats 4000000 in
theorem rbody_b3n (x : Option Addr) (cap : Nat) (l : List UInt8) (last : Int) (w : World) (hs : Go.Proofs.Ytpoifobhbmhelaa.Src w x l) (hcap : l.length ≤ cap) (hl : l.length ≤ 1000000) (h0 : 0 ≤ last) (h1 : last ≤ 4611686018427387904) (c : UInt8) (t : List UInt8) (hlt : l = c :: t) (h3 : ¬ l.length < 3) (y : Nat) (u : List UInt8) (ht : take t = .num y u) (hy : (y : Int) ≤ 4611686018427387904 - last) (n0 : Nat) (v0 : List UInt8) (hu : take u = .num n0 v0) (hn0 : ¬ n0 < 65536) : Calls Try.prog 39 #[.slice x l.length cap, .int .i64 last] w fun e w' => BodyDo w (decB l last) e w' := by
  have HNO := Lib.hid (show decB l last = none from by rw [hlt]; exact decB_b3 ht hu (fun h => hn0 h.1.2))
  have HR0 := Lib.hid (heap_alloc_new w (.cells rz.toArray 25))
  have HG0 := Lib.hid (World.grownBy_alloc w (.cells rz.toArray 25) none)
  obtain ⟨n, hn⟩ : ∃ n, n = l.length := ⟨_, rfl⟩
  have hat : 1 ≤ l.length := by omega
  have ht' : take (l.drop 1) = .num y u := by rw [hlt]; exact ht
  have C1 := rtake_any x cap l 1 (w.alloc (.cells rz.toArray 25)) (hs.keptNone HG0.out) hat hl
  rw [ht'] at C1
  rw [← hn] at h3 ⊢ C1
  have h3' : ¬ (n : Int) < 3 := by omega
  have HYB := Lib.hid (take_inv ht).2
  have HDR := Lib.hid (take_drop hat ht')
  have hul : u.length < n := by have := take_lt ht; rw [hn, hlt]; simp; omega
  obtain ⟨A1, hA1⟩ : ∃ A1, A1 = n - u.length := ⟨_, rfl⟩
  have hA2 : A1 ≤ l.length := by omega
  have C2 := rtake_any x cap l A1 (w.alloc (.cells rz.toArray 25)) (hs.keptNone HG0.out) hA2 hl
  rw [show l.drop A1 = u from by rw [hA1, hn]; exact HDR.out, ← hn] at C2
  unfold tkRes at C1
  simp only at C1
  rw [← hA1] at C1
  have hp1 : ¬ (A1 : Int) ≤ 0 := by omega
  have hp2 : 0 < A1 := by omega
  have hp3 : ¬ A1 = 0 := by omega
  obtain ⟨D, hD⟩ : ∃ D : Int, D = 4611686018427387904 - last := ⟨_, rfl⟩
  have hsub : IntKind.i64.wrap (4611686018427387904 - last) = D := by rw [IntKind.wrap_i64]; omega
  have HDD := Lib.hid hD
  have HA1 := Lib.hid hA1
  have HN := Lib.hid hn
  have hyD : ¬ D < (y : Int) := by omega
  have HUV := Lib.hid (take_lt hu)
  have HDR2 := Lib.hid (show l.drop (n - v0.length) = v0 from by
    have := take_drop (l := l) (k := A1) (r := v0) (n := n0) hA2 (by rw [hA1, hn, HDR.out]; exact hu)
    rw [hn]; exact this)
  rw [hu] at C2
  unfold tkRes at C2
  simp only at C2
  have hvl : v0.length < n := by have := HUV.out; omega
  obtain ⟨A2, hA3⟩ : ∃ A2, A2 = n - v0.length := ⟨_, rfl⟩
  rw [← hA3] at C2 HDR2
  have hr1 : ¬ (A2 : Int) ≤ 0 := by omega
  have hr2 : 0 < A2 := by omega
  have hr3 : ¬ A2 = 0 := by omega
  have HA2 := Lib.hid hA3
  have HVL := Lib.hid hvl
  have hnb : (65535 : Int) < (n0 : Nat) := by omega
  clear hy hu hn0
  clear hvl hA3
  clear hul hA1 hA2 hD hn h3 hat ht' hlt ht hs hcap hl h0 h1
  go_enter Try.func39, Try.ntmps39
  go_wp2_with fail
  refine C1.mono ?_; rintro e w2 ⟨rfl, rfl⟩
  clear C1
  go_wp2_with fail
  refine C2.mono ?_; rintro e w2 ⟨rfl, rfl⟩
  clear C2
  go_wp2_with (with_reducible refine hold_st 25 _ _ rfl ?_)
  apply Lib.hid
  with_reducible refine wpList_store_all rfl 25 _ _ rfl _ ?cs2001 ?hx2001 ?hy2001 _ _ HR0.out ?hf2001 _ ?hl2001 Try.size25 ?h12001 ?_
  case hy2001 => exact rfl
  case hx2001 => exact rfl
  case hf2001 => exact rfl
  case hl2001 => exact rfl
  case h12001 => simp [allOne, Value.oneCell']
  intro w3 hb3 hg3
  have HB3 := Lib.hid hb3
  have HG3 := Lib.hid (grown_new HG0.out hg3 (Nat.le_refl _))
  clear hb3 hg3
  go_wp2
  refine bodyPost_ret (results_c25t rfl _ _ _ _ (by rfl) (by rfl) HB3.out) (by rfl) ?_
  exact BodyDo.no HNO.out HG3.out
end Go.Proofs.Ytpoifobhbmhelaa
