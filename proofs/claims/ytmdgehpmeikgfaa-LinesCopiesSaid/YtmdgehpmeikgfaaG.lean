import Derived.Test.YtmdgehpmeikgfaaF
namespace Go.Proofs.Ytmdgehpmeikgfaa
open Go.RowKit
theorem drewr {a b : World} {row : Option Nat} (h : a.grownBy b row) : a.grownBy b.drew row := ⟨h.os, h.tape, h.output, h.size, h.block⟩
theorem push_long (B : Nat) (c : Lc) (l : List UInt8) (m : Nat) (xa : Option Addr) (xcap : Nat) (w : World) (hL : Lk w B c) (hQ : Sl w c.qv l) (hfit : 256 < l.length + m) (hl : l.length ≤ 256) :
    Calls Try.prog 13 #[.pointer (some ⟨B, 0, none⟩), .slice xa m xcap] w fun e w' => e = .returned (.tuple #[.int .i64 0, .int .i64 3]) ∧ w = w' := by
  obtain ⟨qa, qcap, hq, hqc⟩ := hQ.shape
  have HL := Lib.hid hL
  have hfit2 : (256 : Int) - (l.length : Nat) < (m : Nat) := by omega
  have c6 : w.cell? ⟨B, 6, none⟩ = some (.slice qa l.length qcap) := (hL.cell 6).trans (congrArg some hq)
  clear hQ hL
  go_enter Try.func13, Try.ntmps13
  go_wp2_with fail
  refine (none_lk B c _ HL.out).mono ?_; rintro e w' ⟨rfl, rfl⟩
  go_wp2
  go_ret2
  exact ⟨rfl, rfl⟩
theorem push_nil (xa : Option Addr) (m xcap : Nat) (w : World) : Calls Try.prog 13 #[.pointer none, .slice xa m xcap] w fun e w' => e = .returned (.tuple #[.int .i64 0, .int .i64 1]) ∧ w = w' := by
  go_enter Try.func13, Try.ntmps13
  go_wp2_with fail
  refine (none_nil _).mono ?_; rintro e w' ⟨rfl, rfl⟩
  go_wp2
  go_ret2
  exact ⟨rfl, rfl⟩
theorem results_ttt {fn : Func} {t u v : Tmp} (h : fn.results = #[.tmp t, .tmp u, .tmp v]) (tmps : Array Value) (w : World) : (results fn tmps).run Try.prog w = .ok (.tuple #[tmps.getD t undef, tmps.getD u undef, tmps.getD v undef]) w := by
  simp [results, h]
theorem take_none (B : Nat) (c : Lc) (w : World) (hL : Lk w B c) (hQ : Sl w c.qv []) : Calls Try.prog 25 #[.pointer (some ⟨B, 0, none⟩)] w fun e w' => e = .returned (.tuple #[.int .u8 0, .int .i64 0, .bool false]) ∧ w = w' := by
  obtain ⟨qa, qcap, hq, hqc⟩ := hQ.shape
  have HL := Lib.hid hL
  have c6 : w.cell? ⟨B, 6, none⟩ = some (.slice qa 0 qcap) := (hL.cell 6).trans (congrArg some hq)
  clear hQ hL
  go_enter Try.func25, Try.ntmps25
  go_wp2_with fail
  refine (none_lk B c _ HL.out).mono ?_; rintro e w' ⟨rfl, rfl⟩
  go_wp2
  refine bodyPost_ret (results_ttt rfl _ _) rfl ?_
  exact ⟨rfl, rfl⟩
theorem take_tail {cur : List Value} {o : Nat} {x : UInt8} {l : List UInt8} (h : (cur.drop o).take (x :: l).length = bsV (x :: l)) : (cur.drop (o + 1)).take l.length = bsV l := by
  have := congrArg (List.drop 1) h
  rw [List.drop_take, List.drop_drop] at this
  simpa [bsV, Nat.add_comm] using this
set_option maxHeartbeats 4000000 in
theorem take_one (B : Nat) (c : Lc) (x : UInt8) (l : List UInt8) (w : World) (hL : Lk w B c) (hQ : Sl w c.qv (x :: l)) (h0 : 0 ≤ c.first) (h1 : c.first ≤ 4611686018427387904) :
    Calls Try.prog 25 #[.pointer (some ⟨B, 0, none⟩)] w fun e w' => ∃ qv', e = .returned (.tuple #[.int .u8 (x.toNat : Int), .int .i64 c.first, .bool true]) ∧ Lk w' B { c with qv := qv', first := c.first + 1 } ∧ Sl w' qv' l ∧ w.grownBy w' (some B) ∧ rowOf qv' = rowOf c.qv := by
  obtain ⟨g, o, qcap, cur, hq, hqc, hcm, hg, hfit, htake⟩ := hQ.resolve_left (fun h => by cases h.2)
  have c0 : w.cell? ⟨g, o, none⟩ = some (.int .u8 (x.toNat : Int)) := by
    have h := Sl.cell (hq ▸ hQ) 0 (bV x) rfl
    rwa [Nat.add_zero] at h
  have hneB : g ≠ B := fun e => (hq ▸ hQ).ne (b := B) hL.blk (by decide) g rfl (by rw [e])
  obtain ⟨nv, hnv, hS⟩ : ∃ nv, nv = (if qcap = 1 then Value.slice (some ⟨g, o, none⟩) l.length 0 else Value.slice (some ⟨g, o + 1, none⟩) l.length (qcap - 1)) ∧ Sl w nv l := by
    refine ⟨_, rfl, ?_⟩
    simp only [List.length_cons] at hqc
    split
    · have hl : l = [] := List.length_eq_zero_iff.1 (by omega)
      subst hl
      exact .inr ⟨g, o, 0, cur, rfl, by simp, by omega, hg, by omega, by simp [bsV]⟩
    · exact .inr ⟨g, o + 1, qcap - 1, cur, rfl, by omega, by omega, hg, by omega, take_tail htake⟩
  have hrow : rowOf nv = some g := by rw [hnv]; split <;> rfl
  have HL2 := Lib.hid (((hL.set (c' := { c with qv := nv }) 6 nv rfl).set (c' := { c with qv := nv, first := c.first + 1 }) 7 (.int .i64 (c.first + 1)) rfl).drew)
  have hgr := drewr ((Lk.set_grown (w := w) (B := B) 6 nv).trans (Lk.set_grown (B := B) 7 (.int .i64 (c.first + 1))))
  have HS2 := Lib.hid (hS.kept hgr (fun k hk => by rw [hrow] at hk; cases hk; simpa using hneB))
  have HGR := Lib.hid hgr
  have HRW := Lib.hid (hrow.trans (show some g = rowOf c.qv from by rw [hq]; rfl))
  clear hgr hS hrow
  have HQ := Lib.hid hQ
  have HL := Lib.hid hL
  have c6 : w.cell? ⟨B, 6, none⟩ = some (.slice (some ⟨g, o, none⟩) (x :: l).length qcap) := (hL.cell 6).trans (congrArg some hq)
  have hw : IntKind.i64.wrap (c.first + 1) = c.first + 1 := by rw [IntKind.wrap_i64]; omega
  clear hQ hL
  by_cases hq1 : qcap = 1
  · rw [if_pos hq1] at hnv
    subst hnv
    go_enter Try.func25, Try.ntmps25
    go_wp2_with fail
    refine (none_lk B c _ HL.out).mono ?_; rintro e w' ⟨rfl, rfl⟩
    go_wp2
    refine reg_open (none) (n := 12) rfl (by kernel_rfl) ?_
    refine reg_take 0 (some 17) (v := ?_) rfl rfl (by kernel_rfl) (by kernel_rfl) (by kernel_rfl) (fun _ _ _ h => h) (by rfl) ?_ ?_
    rotate_left
    · intro W hW; go_simp; first | done | with_reducible rfl
    try simp only [Act.put, List.setIfInBounds_toArray, List.set_cons_zero, List.set_cons_succ]
    refine reg_take 1 (some 18) (v := ?_) rfl rfl (by kernel_rfl) (by kernel_rfl) (by kernel_rfl) (fun _ _ _ h => h) (by rfl) ?_ ?_
    rotate_left
    · intro W hW; go_simp; first | done | with_reducible rfl
    try simp only [Act.put, List.setIfInBounds_toArray, List.set_cons_zero, List.set_cons_succ]
    refine reg_take 2 (some 19) (v := ?_) rfl rfl (by kernel_rfl) (by kernel_rfl) (by kernel_rfl) (fun _ _ _ h => h) (by rfl) ?_ ?_
    rotate_left
    · intro W hW; go_simp; first | done | with_reducible rfl
    try simp only [Act.put, List.setIfInBounds_toArray, List.set_cons_zero, List.set_cons_succ]
    refine reg_take 3 (some 20) (v := ?_) rfl rfl (by kernel_rfl) (by kernel_rfl) (by kernel_rfl) (fun _ _ _ h => h) (by rfl) ?_ ?_
    rotate_left
    · intro W hW; have k : W.cell? ⟨B, 6, none⟩ = some (.slice (some ⟨g, o, none⟩) (x :: l).length qcap) := (cells_all ((hW.block _ (lt_of_block HL.out.blk) (by simp)).trans HL.out.blk) 6).trans (congrArg some hq); go_simp; first | done | with_reducible rfl
    try simp only [Act.put, List.setIfInBounds_toArray, List.set_cons_zero, List.set_cons_succ]
    refine reg_take 4 (some 21) (v := ?_) rfl rfl (by kernel_rfl) (by kernel_rfl) (by kernel_rfl) (fun _ _ _ h => h) (by rfl) ?_ ?_
    rotate_left
    · intro W hW; go_simp; first | done | with_reducible rfl
    try simp only [Act.put, List.setIfInBounds_toArray, List.set_cons_zero, List.set_cons_succ]
    refine reg_take 5 (some 22) (v := ?_) rfl rfl (by kernel_rfl) (by kernel_rfl) (by kernel_rfl) (fun _ _ _ h => h) (by rfl) ?_ ?_
    rotate_left
    · intro W hW; have k : W.cell? ⟨g, o, none⟩ = some (.int .u8 (x.toNat : Int)) := hW.cell c0 (by simp); go_simp; first | done | with_reducible rfl
    try simp only [Act.put, List.setIfInBounds_toArray, List.set_cons_zero, List.set_cons_succ]
    refine reg_take 6 (some 23) (v := ?_) rfl rfl (by kernel_rfl) (by kernel_rfl) (by kernel_rfl) (fun _ _ _ h => h) (by rfl) ?_ ?_
    rotate_left
    · intro W hW; go_simp; first | done | with_reducible rfl
    try simp only [Act.put, List.setIfInBounds_toArray, List.set_cons_zero, List.set_cons_succ]
    refine reg_take 7 (some 24) (v := ?_) rfl rfl (by kernel_rfl) (by kernel_rfl) (by kernel_rfl) (fun _ _ _ h => h) (by rfl) ?_ ?_
    rotate_left
    · intro W hW; go_simp; first | done | with_reducible rfl
    try simp only [Act.put, List.setIfInBounds_toArray, List.set_cons_zero, List.set_cons_succ]
    refine reg_take 8 (some 25) (v := ?_) rfl rfl (by kernel_rfl) (by kernel_rfl) (by kernel_rfl) (fun _ _ _ h => h) (by rfl) ?_ ?_
    rotate_left
    · intro W hW; go_simp; first | done | with_reducible rfl
    try simp only [Act.put, List.setIfInBounds_toArray, List.set_cons_zero, List.set_cons_succ]
    refine reg_take 9 (some 26) (v := ?_) rfl rfl (by kernel_rfl) (by kernel_rfl) (by kernel_rfl) (fun _ _ _ h => h) (by rfl) ?_ ?_
    rotate_left
    · intro W hW; have k : W.cell? ⟨B, 7, none⟩ = some (.int .i64 c.first) := cells_all ((hW.block _ (lt_of_block HL.out.blk) (by simp)).trans HL.out.blk) 7; go_simp; first | done | with_reducible rfl
    try simp only [Act.put, List.setIfInBounds_toArray, List.set_cons_zero, List.set_cons_succ]
    refine reg_take 10 (some 5) (v := ?_) rfl rfl (by kernel_rfl) (by kernel_rfl) (by kernel_rfl) (fun _ _ _ h => h) (by rfl) ?_ ?_
    rotate_left
    · intro W hW; go_simp; first | done | with_reducible rfl
    try simp only [Act.put, List.setIfInBounds_toArray, List.set_cons_zero, List.set_cons_succ]
    refine reg_take 11 (some 6) (v := ?_) rfl rfl (by kernel_rfl) (by kernel_rfl) (by kernel_rfl) (fun _ _ _ h => h) (by rfl) ?_ ?_
    rotate_left
    · intro W hW; go_simp; first | done | with_reducible rfl
    try simp only [Act.put, List.setIfInBounds_toArray, List.set_cons_zero, List.set_cons_succ]
    refine wpAnyH_done (by kernel_rfl) ?_ _
    have c6 : w.cell? ⟨B, 6, none⟩ = some (.slice (some ⟨g, o, none⟩) (x :: l).length qcap) := (HL.out.cell 6).trans (congrArg some hq)
    have f6 := HL.out.free 6
    have c7 : w.cell? ⟨B, 7, none⟩ = some (.int .i64 c.first) := HL.out.cell 7
    have f7 := HL.out.free 7
    go_wp2
    refine bodyPost_ret (results_ttt rfl _ _) rfl ?_
    exact ⟨_, rfl, HL2.out, HS2.out, HGR.out, HRW.out⟩
  · rw [if_neg hq1] at hnv
    subst hnv
    go_enter Try.func25, Try.ntmps25
    go_wp2_with fail
    refine (none_lk B c _ HL.out).mono ?_; rintro e w' ⟨rfl, rfl⟩
    go_wp2
    refine reg_open (none) (n := 12) rfl (by kernel_rfl) ?_
    refine reg_take 0 (some 17) (v := ?_) rfl rfl (by kernel_rfl) (by kernel_rfl) (by kernel_rfl) (fun _ _ _ h => h) (by rfl) ?_ ?_
    rotate_left
    · intro W hW; go_simp; first | done | with_reducible rfl
    try simp only [Act.put, List.setIfInBounds_toArray, List.set_cons_zero, List.set_cons_succ]
    refine reg_take 1 (some 18) (v := ?_) rfl rfl (by kernel_rfl) (by kernel_rfl) (by kernel_rfl) (fun _ _ _ h => h) (by rfl) ?_ ?_
    rotate_left
    · intro W hW; go_simp; first | done | with_reducible rfl
    try simp only [Act.put, List.setIfInBounds_toArray, List.set_cons_zero, List.set_cons_succ]
    refine reg_take 2 (some 19) (v := ?_) rfl rfl (by kernel_rfl) (by kernel_rfl) (by kernel_rfl) (fun _ _ _ h => h) (by rfl) ?_ ?_
    rotate_left
    · intro W hW; go_simp; first | done | with_reducible rfl
    try simp only [Act.put, List.setIfInBounds_toArray, List.set_cons_zero, List.set_cons_succ]
    refine reg_take 3 (some 20) (v := ?_) rfl rfl (by kernel_rfl) (by kernel_rfl) (by kernel_rfl) (fun _ _ _ h => h) (by rfl) ?_ ?_
    rotate_left
    · intro W hW; have k : W.cell? ⟨B, 6, none⟩ = some (.slice (some ⟨g, o, none⟩) (x :: l).length qcap) := (cells_all ((hW.block _ (lt_of_block HL.out.blk) (by simp)).trans HL.out.blk) 6).trans (congrArg some hq); go_simp; first | done | with_reducible rfl
    try simp only [Act.put, List.setIfInBounds_toArray, List.set_cons_zero, List.set_cons_succ]
    refine reg_take 4 (some 21) (v := ?_) rfl rfl (by kernel_rfl) (by kernel_rfl) (by kernel_rfl) (fun _ _ _ h => h) (by rfl) ?_ ?_
    rotate_left
    · intro W hW; go_simp; first | done | with_reducible rfl
    try simp only [Act.put, List.setIfInBounds_toArray, List.set_cons_zero, List.set_cons_succ]
    refine reg_take 5 (some 22) (v := ?_) rfl rfl (by kernel_rfl) (by kernel_rfl) (by kernel_rfl) (fun _ _ _ h => h) (by rfl) ?_ ?_
    rotate_left
    · intro W hW; have k : W.cell? ⟨g, o, none⟩ = some (.int .u8 (x.toNat : Int)) := hW.cell c0 (by simp); go_simp; first | done | with_reducible rfl
    try simp only [Act.put, List.setIfInBounds_toArray, List.set_cons_zero, List.set_cons_succ]
    refine reg_take 6 (some 23) (v := ?_) rfl rfl (by kernel_rfl) (by kernel_rfl) (by kernel_rfl) (fun _ _ _ h => h) (by rfl) ?_ ?_
    rotate_left
    · intro W hW; go_simp; first | done | with_reducible rfl
    try simp only [Act.put, List.setIfInBounds_toArray, List.set_cons_zero, List.set_cons_succ]
    refine reg_take 7 (some 24) (v := ?_) rfl rfl (by kernel_rfl) (by kernel_rfl) (by kernel_rfl) (fun _ _ _ h => h) (by rfl) ?_ ?_
    rotate_left
    · intro W hW; go_simp; first | done | with_reducible rfl
    try simp only [Act.put, List.setIfInBounds_toArray, List.set_cons_zero, List.set_cons_succ]
    refine reg_take 8 (some 25) (v := ?_) rfl rfl (by kernel_rfl) (by kernel_rfl) (by kernel_rfl) (fun _ _ _ h => h) (by rfl) ?_ ?_
    rotate_left
    · intro W hW; go_simp; first | done | with_reducible rfl
    try simp only [Act.put, List.setIfInBounds_toArray, List.set_cons_zero, List.set_cons_succ]
    refine reg_take 9 (some 26) (v := ?_) rfl rfl (by kernel_rfl) (by kernel_rfl) (by kernel_rfl) (fun _ _ _ h => h) (by rfl) ?_ ?_
    rotate_left
    · intro W hW; have k : W.cell? ⟨B, 7, none⟩ = some (.int .i64 c.first) := cells_all ((hW.block _ (lt_of_block HL.out.blk) (by simp)).trans HL.out.blk) 7; go_simp; first | done | with_reducible rfl
    try simp only [Act.put, List.setIfInBounds_toArray, List.set_cons_zero, List.set_cons_succ]
    refine reg_take 10 (some 5) (v := ?_) rfl rfl (by kernel_rfl) (by kernel_rfl) (by kernel_rfl) (fun _ _ _ h => h) (by rfl) ?_ ?_
    rotate_left
    · intro W hW; go_simp; first | done | with_reducible rfl
    try simp only [Act.put, List.setIfInBounds_toArray, List.set_cons_zero, List.set_cons_succ]
    refine reg_take 11 (some 6) (v := ?_) rfl rfl (by kernel_rfl) (by kernel_rfl) (by kernel_rfl) (fun _ _ _ h => h) (by rfl) ?_ ?_
    rotate_left
    · intro W hW; go_simp; first | done | with_reducible rfl
    try simp only [Act.put, List.setIfInBounds_toArray, List.set_cons_zero, List.set_cons_succ]
    refine wpAnyH_done (by kernel_rfl) ?_ _
    have c6 : w.cell? ⟨B, 6, none⟩ = some (.slice (some ⟨g, o, none⟩) (x :: l).length qcap) := (HL.out.cell 6).trans (congrArg some hq)
    have f6 := HL.out.free 6
    have c7 : w.cell? ⟨B, 7, none⟩ = some (.int .i64 c.first) := HL.out.cell 7
    have f7 := HL.out.free 7
    go_wp2
    refine bodyPost_ret (results_ttt rfl _ _) rfl ?_
    exact ⟨_, rfl, HL2.out, HS2.out, HGR.out, HRW.out⟩
end Go.Proofs.Ytmdgehpmeikgfaa
