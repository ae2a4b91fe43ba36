import Derived.Test.YtmdgehpmeikgfaaAI
set_option linter.unusedVariables false
namespace Go.Proofs.Ytmdgehpmeikgfaa
open Go.RowKit Go.Shelf
theorem take_nil (w : World) : Calls Try.prog 25 #[.pointer none] w fun e w' => e = .returned (.tuple #[.int .u8 0, .int .i64 0, .bool false]) ∧ w = w' := by
  go_enter Try.func25, Try.ntmps25
  go_wp2_with fail
  refine (none_nil _).mono ?_; rintro e w' ⟨rfl, rfl⟩
  go_wp2
  refine bodyPost_ret (results_ttt rfl _ _) rfl ?_
  exact ⟨rfl, rfl⟩
theorem setAlarm_nil (a : Int) (w : World) : Calls Try.prog 10 #[.pointer none, .int .u32 a] w fun e w' => e = .returned (.tuple #[]) ∧ w = w' := by
  go_enter Try.func10, Try.ntmps10
  go_wp2_with fail
  refine (none_nil _).mono ?_; rintro e w' ⟨rfl, rfl⟩
  go_wp2
  go_end0
  exact ⟨rfl, rfl⟩
theorem setMask_nil (a : Int) (w : World) : Calls Try.prog 11 #[.pointer none, .int .u32 a] w fun e w' => e = .returned (.tuple #[]) ∧ w = w' := by
  go_enter Try.func11, Try.ntmps11
  go_wp2_with fail
  refine (none_nil _).mono ?_; rintro e w' ⟨rfl, rfl⟩
  go_wp2
  go_end0
  exact ⟨rfl, rfl⟩
theorem alarm_nil (w : World) : Calls Try.prog 37 #[.pointer none] w fun e w' => e = .returned (.int .u32 0) ∧ w = w' := by
  go_enter Try.func37, Try.ntmps37
  go_wp2_with fail
  refine (none_nil _).mono ?_; rintro e w' ⟨rfl, rfl⟩
  go_wp2
  go_ret
  exact ⟨rfl, rfl⟩
theorem mask_nil (w : World) : Calls Try.prog 22 #[.pointer none] w fun e w' => e = .returned (.int .u32 0) ∧ w = w' := by
  go_enter Try.func22, Try.ntmps22
  go_wp2_with fail
  refine (none_nil _).mono ?_; rintro e w' ⟨rfl, rfl⟩
  go_wp2
  go_ret
  exact ⟨rfl, rfl⟩
theorem raise_nil (line : Int) (up : Bool) (w : World) : Calls Try.prog 15 #[.pointer none, .int .i64 line, .bool up] w fun e w' => e = .returned (.int .i64 1) ∧ w = w' := by
  go_enter Try.func15, Try.ntmps15
  go_wp2_with fail
  refine (none_nil _).mono ?_; rintro e w' ⟨rfl, rfl⟩
  go_wp2
  go_ret
  exact ⟨rfl, rfl⟩
theorem raised_nil (line : Int) (w : World) : Calls Try.prog 32 #[.pointer none, .int .i64 line] w fun e w' => e = .returned (.bool false) ∧ w = w' := by
  go_enter Try.func32, Try.ntmps32
  go_wp2_with fail
  refine (none_nil _).mono ?_; rintro e w' ⟨rfl, rfl⟩
  go_wp2
  go_ret
  exact ⟨rfl, rfl⟩
theorem queue_nil (w : World) : Calls Try.prog 27 #[.pointer none] w fun e w' => e = .returned (.slice none 0 0) ∧ w = w' := by
  go_enter Try.func27, Try.ntmps27
  go_wp2_with fail
  refine (none_nil _).mono ?_; rintro e w' ⟨rfl, rfl⟩
  go_wp2
  go_ret
  exact ⟨rfl, rfl⟩
theorem told_nil (w : World) : Calls Try.prog 38 #[.pointer none] w fun e w' => e = .returned (.slice none 0 0) ∧ w = w' := by
  go_enter Try.func38, Try.ntmps38
  go_wp2_with fail
  refine (none_nil _).mono ?_; rintro e w' ⟨rfl, rfl⟩
  go_wp2
  go_ret
  exact ⟨rfl, rfl⟩
theorem tell_nil (x : Int) (w : World) : Calls Try.prog 26 #[.pointer none, .int .u8 x] w fun e w' => e = .returned (.int .i64 0) ∧ w = w' := by
  go_enter Try.func26, Try.ntmps26
  go_wp2_with fail
  refine (none_nil _).mono ?_; rintro e w' ⟨rfl, rfl⟩
  go_wp2
  go_ret
  exact ⟨rfl, rfl⟩
theorem waits_nil (w : World) : Calls Try.prog 28 #[.pointer none] w fun e w' => e = .returned (.int .i64 0) ∧ w = w' := by
  go_enter Try.func28, Try.ntmps28
  go_wp2_with fail
  refine (queue_nil _).mono ?_; rintro e w' ⟨rfl, rfl⟩
  go_wp2
  go_ret
  exact ⟨rfl, rfl⟩
theorem wanting_nil (now : Int) (w : World) : Calls Try.prog 41 #[.pointer none, .int .i64 now] w fun e w' => ∃ S V, e = .returned (.func (.func 52) #[] #[.pointer (some ⟨S, 0, none⟩), .pointer (some ⟨V, 0, none⟩)]) ∧ w'.heap[S]? = some (.cells #[.pointer none] 23 (0, 0)) ∧ w.grownBy w' none := by
  go_enter Try.func41, Try.ntmps41
  go_wp2
  go_ret
  have h := four_new w (.cells #[.pointer none] 23) (.cells #[.int .i64 now] 2) (.cells #[.func (.func 48) #[] #[.pointer (some ⟨w.heap.size, 0, none⟩), .pointer (some ⟨w.heap.size + 1, 0, none⟩)], .func (.func 49) #[] #[.pointer (some ⟨w.heap.size, 0, none⟩)], .func (.func 50) #[] #[.pointer (some ⟨w.heap.size, 0, none⟩)], .func (.func 51) #[] #[.pointer (some ⟨w.heap.size, 0, none⟩)]] 44) (.cells #[.slice (some ⟨w.heap.size + 1 + 1, 0, none⟩) 4 4] 81)
  exact ⟨_, _, rfl, h.2.1, h.1⟩
attribute [local go_sem] Oper.semAt_some
theorem walked_nil (n : Nat) (hn : 1 ≤ n) (S V : Nat) (w : World) (hS : w.heap[S]? = some (.cells #[.pointer none] 23 (0, 0))) :
    SeqStopsK Fence.wide n Try.prog 52 #[.pointer (some ⟨S, 0, none⟩), .pointer (some ⟨V, 0, none⟩)] (fun x : L4 => #[.int .i64 (x.1 : Int)]) (fun _ _ => True) (fun ys => ys = []) (fun _ => False) 0 w := by
  intro l J Jx W hB hJ hJx hY h0
  have hS' := (hB.block _ (lt_of_block hS)).trans hS
  have cs := cell_of_one hS'
  have HJ0 := Lib.hid h0
  clear h0 hS hS' hB
  refine callsIn_of_wp Try.func52 rfl trivial ?_ rfl
  simp only [Try.ntmps52, List.size_toArray, List.length_cons, List.length_nil, Nat.reduceAdd, Nat.reduceSub, Array.replicate_succ, Array.replicate_zero, List.push_toArray, List.append_toArray, List.nil_append, List.cons_append]
  gi_wp2_with (refine ⟨trivial, ?_⟩; gi_at_call 39; refine (callsIn_wide.2 (none_nil _)).mono ?_; rintro e w1 ⟨rfl, rfl⟩)
  gi_wp2
  first | go_end0 | refine bodyPost_ret (results_none rfl _ _ _) rfl ?_
  exact ⟨⟨_, rfl⟩, .inl ⟨[], rfl, HJ0.out⟩⟩
set_option maxRecDepth 100000 in
set_option maxHeartbeats 8000000 in
theorem wants_body_nil (now : Int) (w : World) :
    CallsIn Fence.wide 3 Try.prog 20 #[.pointer none, .int .i64 now] w fun e w' => e = .returned (.int .u32 0) ∧ Below w.heap.size w w' := by
  have h1 : 1 ≤ 3 := by omega
  have hT0 := heap_alloc_new w (.cells #[.int .u32 0] 22)
  have hG0 := World.grownBy_alloc w (.cells #[.int .u32 0] 22) none
  have HT0 := Lib.hid hT0
  have HB0 := Lib.hid ((Below.refl _ w).grown hG0 (Nat.le_refl _) (fun k e => by cases e))
  clear hT0 hG0
  refine callsIn_of_wp_marks Try.func20 rfl trivial ?_ rfl
  simp only [Try.ntmps20, List.size_toArray, List.length_cons, List.length_nil, Nat.reduceAdd, Nat.reduceSub, Array.replicate_succ, Array.replicate_zero, List.push_toArray, List.append_toArray, List.nil_append, List.cons_append]
  refine wpIn_wide.2 ?_
  go_wp2_with fail
  refine (wanting_nil now _).mono ?_; rintro e w1 ⟨S, V0, rfl, hWn, hg1⟩
  have hT1 : w1.heap[w.heap.size]? = some (.cells #[.int .u32 (setL [] : Nat)] 22 (0, 0)) := (hg1.block _ (lt_of_block HT0.out) (by simp)).trans HT0.out
  have hB1 := HB0.out.grown hg1 HB0.out.size (fun k e => by cases e)
  have hsz := lt_of_block hT1
  clear HT0 HB0 hg1
  go_wp2
  refine (wpIn_wide (n := 3)).1 ?_
  refine wpIn_rangeFunc_ownH rfl h1 (gf := 52) (lb := #[.pointer (some ⟨S, 0, none⟩), .pointer (some ⟨V0, 0, none⟩)]) rfl trivial (enters_of Try.func52 (by kernel_rfl) rfl)
    (walked_nil (3 - 1) (by omega) S V0 w1 hWn) (fun _ _ => trivial) (fun W l o o' _ h ho _ => trivial) (Below.refl _ _) (fun _ => rfl)
    (fun pre W => W.heap[w.heap.size]? = some (.cells #[.int .u32 (setL (pre.map (·.1)) : Nat)] 22 (0, 0)) ∧ Below w.heap.size w W)
    (fun c pre W => False ∧ Below w.heap.size w W)
    (OwnFrom.and (Own.from (fun s A' B' row hs hg hr => by exact block_kept hs hg hr) _) (ownFrom_below (Nat.le_refl _) (by omega)))
    (fun c => OwnFrom.and (Own.from (fun s A' B' row hs hg hr => by exact hs) _) (ownFrom_below (Nat.le_refl _) (by omega)))
    ⟨hT1, hB1⟩
    (fun y a' W => a' = { tmps := #[.pointer none, .int .i64 now, undef, undef, .int .u32 0, .pointer (some ⟨w.heap.size, 0, none⟩), .int .i64 (y.1 : Int), .pointer none, .int .i64 now, .func (.func 52) #[] #[.pointer (some ⟨S, 0, none⟩), .pointer (some ⟨V0, 0, none⟩)], .int .i64 (y.1 : Int), undef, undef, undef, undef, undef], defers := [] })
    (fun y a' => fun s A' B' row hs hg hr => hs)
    ?assign ?body ?done ?stop
  case assign =>
    rintro l' pre y W K hI hK
    gi_wp2
    exact hK _ _ (KeepsFrom.refl _ _) trivial hI rfl
  case stop =>
    rintro D c' pre W hD hS ⟨hf, _⟩ hK
    exact hf.elim
  case body =>
    rintro l' pre y a' V hl ⟨r, hr⟩ hI hA hlt
    exact absurd hlt (Nat.not_lt_zero _)
  case done =>
    rintro D ys W hD hS ⟨hT, hBl⟩ hK
    subst hS
    have k0 := cell_of_one hT
    have k1 := cell_kept k0 (grownBy_putObj' W D (.deferred none)) (fun r e => by cases e; exact ⟨_, hK, rfl⟩)
    have hB5 := hBl.trans (belowK_b (w := w) (Nat.le_refl _) W D _ (.deferred none) (by omega) hK rfl rfl)
    go_wp2
    have hz : setL (List.map (fun x : L4 => x.val) []) = 0 := rfl
    rw [hz] at k1
    refine ⟨by simp, .inl ⟨_, _, rfl, run_takeDeferred hK, ?_⟩⟩
    exact ⟨.int .u32 0, by simp [results, Try.f20, go_sem]; rfl, rfl, hB5⟩
structure PCn (S : Nat) (r1 : Int) (r2 : Bool) (W : World) : Prop where
  r1 : W.heap[S + 1]? = some (.cells #[.int .i64 r1] 3 (0, 0))
  r2 : W.heap[S + 1 + 1]? = some (.cells #[.bool r2] 4 (0, 0))
theorem PCn.own {S : Nat} {r1 : Int} {r2 : Bool} {A A' : World} {row : Option Nat} (h : PCn S r1 r2 A) (hg : A.grownBy A' row) (hr : ∀ r, row = some r → ∃ o : Obj, A.heap[r]? = some o ∧ o.isCells = false) : PCn S r1 r2 A' :=
  ⟨block_kept h.r1 hg hr, block_kept h.r2 hg hr⟩
theorem PCn.write {S : Nat} {r1 : Int} {r2 : Bool} {W : World} (h : PCn S r1 r2 W) (x : Int) (b : Bool) : PCn S x b ((W.setCell ⟨S + 1, 0, none⟩ (.int .i64 x)).setCell ⟨S + 1 + 1, 0, none⟩ (.bool b)) := by
  refine ⟨?_, ?_⟩
  · rw [Below.heap_setCell _ _ _ _ (by simp)]; exact one_setCell h.r1
  · exact one_setCell (by rw [Below.heap_setCell _ _ _ _ (by simp)]; exact h.r2)
set_option maxRecDepth 100000 in
set_option maxHeartbeats 8000000 in
theorem pending_body_nil (now : Int) (w : World) :
    CallsIn Fence.wide 3 Try.prog 17 #[.pointer none, .int .i64 now] w fun e w' => e = .returned (.tuple #[.int .i64 0, .bool false]) ∧ Below w.heap.size w w' := by
  have h1 : 1 ≤ 3 := by omega
  obtain ⟨hG0, hs0, hr0, hr1⟩ := three_new w (.cells #[.pointer none] 23) (.cells #[.int .i64 0] 3) (.cells #[.bool false] 4)
  have HP0 := Lib.hid (PCn.mk hr0 hr1)
  have HB0 := Lib.hid ((Below.refl _ w).grown hG0 (Nat.le_refl _) (fun k e => by cases e))
  clear hG0 hr0 hr1
  refine callsIn_of_wp_marks Try.func17 rfl trivial ?_ rfl
  simp only [Try.ntmps17, List.size_toArray, List.length_cons, List.length_nil, Nat.reduceAdd, Nat.reduceSub, Array.replicate_succ, Array.replicate_zero, List.push_toArray, List.append_toArray, List.nil_append, List.cons_append]
  refine wpIn_wide.2 ?_
  go_wp2_with fail
  refine (wanting_nil now _).mono ?_; rintro e w1 ⟨S, V0, rfl, hWn, hg1⟩
  have hP1 := HP0.out.own hg1 (fun r e => by cases e)
  have hB1 := HB0.out.grown hg1 HB0.out.size (fun k e => by cases e)
  have hsz : w.heap.size + 1 + 1 < w1.heap.size := lt_of_block hP1.r2
  clear HP0 HB0 hg1
  go_wp2
  refine (wpIn_wide (n := 3)).1 ?_
  refine wpIn_rangeFunc_ownH rfl h1 (gf := 52) (lb := #[.pointer (some ⟨S, 0, none⟩), .pointer (some ⟨V0, 0, none⟩)]) rfl trivial (enters_of Try.func52 (by kernel_rfl) rfl)
    (walked_nil (3 - 1) (by omega) S V0 w1 hWn) (fun _ _ => trivial) (fun W l o o' _ h ho _ => trivial) (Below.refl _ _) (fun _ => rfl)
    (fun (pre : List L4) W => PCn w.heap.size 0 false W ∧ Below w.heap.size w W)
    (fun cc (pre : List L4) W => False ∧ Below w.heap.size w W)
    (OwnFrom.and (Own.from (fun s A' B' row hs hg hr => by exact hs.own hg hr) _) (ownFrom_below (Nat.le_refl _) (by omega)))
    (fun cc => OwnFrom.and (Own.from (fun s A' B' row hs hg hr => by exact hs) _) (ownFrom_below (Nat.le_refl _) (by omega)))
    ⟨hP1, hB1⟩
    (fun y a' W => a' = { tmps := #[.pointer none, .int .i64 now, .pointer (some ⟨w.heap.size, 0, none⟩), undef, .pointer (some ⟨w.heap.size + 1, 0, none⟩), .pointer (some ⟨w.heap.size + 1 + 1, 0, none⟩), .int .i64 (y.1 : Int), .pointer none, .int .i64 now, .func (.func 52) #[] #[.pointer (some ⟨S, 0, none⟩), .pointer (some ⟨V0, 0, none⟩)], .int .i64 (y.1 : Int), undef, undef, undef, undef, undef, undef, undef], defers := [] })
    (fun y a' => fun s A' B' row hs hg hr => hs)
    ?assign ?body ?done ?stop
  case assign =>
    rintro l' pre y W K hI hK
    gi_wp2
    exact hK _ _ (KeepsFrom.refl _ _) trivial hI rfl
  case body =>
    rintro l' pre y a' V hl ⟨r, hr⟩ hI hA hlt
    exact absurd hlt (Nat.not_lt_zero _)
  case done =>
    rintro D ys W hD hS ⟨hP, hBl⟩ hK
    have r1 := cell_of_one hP.r1
    have f1 := free_of_one hP.r1
    have r2 := cell_of_one hP.r2
    have f2 := free_of_one hP.r2
    have HR := Lib.hid (hP.write 0 false)
    have hBf := (hBl.setCell (p := ⟨w.heap.size + 1, 0, none⟩) (by simp) (.int .i64 0)).setCell (p := ⟨w.heap.size + 1 + 1, 0, none⟩) (by simp; omega) (.bool false)
    have hKf : ((W.setCell ⟨w.heap.size + 1, 0, none⟩ (.int .i64 0)).setCell ⟨w.heap.size + 1 + 1, 0, none⟩ (.bool false)).heap[D]? = some (.deferred (some [])) := by
      rw [Below.heap_setCell _ _ _ _ (by simp; omega), Below.heap_setCell _ _ _ _ (by simp; omega)]; exact hK
    have HK := Lib.hid hKf
    have HB := Lib.hid hBf
    clear hKf hBf hP hBl hK
    go_wp2
    exact leave1 HK.out (by omega) (cell_of_one HR.out.r1) (cell_of_one HR.out.r2) HB.out (fun W h1 h2 => by simp [results, Try.f17, go_sem, h1, h2])
  case stop =>
    rintro D cc pre W hD hS hI hK
    exact hS.elim
theorem wants_nil (now : Int) (w : World) : Calls Try.prog 20 #[.pointer none, .int .i64 now] w fun e w' => e = .returned (.int .u32 0) ∧ w.grownBy w' none :=
  (callsIn_wide.1 (wants_body_nil now w)).mono fun _ _ h => ⟨h.1, grown_below h.2⟩
theorem pending_nil (now : Int) (w : World) : Calls Try.prog 17 #[.pointer none, .int .i64 now] w fun e w' => e = .returned (.tuple #[.int .i64 0, .bool false]) ∧ w.grownBy w' none :=
  (callsIn_wide.1 (pending_body_nil now w)).mono fun _ _ h => ⟨h.1, grown_below h.2⟩
end Go.Proofs.Ytmdgehpmeikgfaa
