import Derived.Test.YtmdgehpmeikgfaaX
set_option linter.unusedVariables false
namespace Go.Proofs.Ytmdgehpmeikgfaa
open Go.RowKit
/-- What a call of the lines' own makes. -/
structure LPost (w w' : World) (B : Nat) (c c' : Lc) (g : Gh) : Prop where
  ls : LS w' B c' g
  keep : Keeps (own c B) w w'
  newl : ∀ k, own c' B k → own c B k ∨ w.heap.size ≤ k
theorem own_same' {c c' : Lc} {B : Nat} {w : World} (hq : c'.qv = c.qv) (ho : c'.ov = c.ov) : ∀ k, own c' B k → own c B k ∨ w.heap.size ≤ k := fun k hk => .inl (own_same hq ho k hk)
theorem ls_setAlarm (B : Nat) (c : Lc) (g : Gh) (a : Nat) (w : World) (hL : LS w B c g) : Calls Try.prog 10 #[.pointer (some ⟨B, 0, none⟩), .int .u32 (a : Nat)] w fun e w' => e = .returned (.tuple #[]) ∧ ∃ c', LPost w w' B c c' { g with alarm := a } := by
  refine (setAlarm_lk B c a w hL.lk).mono ?_
  rintro e w' ⟨rfl, h1, h2⟩
  exact ⟨rfl, { c with alarm := (a : Nat) }, hL.upd h2 h1 rfl rfl rfl rfl rfl hL.ms hL.u2 hL.u3 hL.u0 hL.u1 hL.fi, Keeps.row h2 (.inl rfl), own_same' rfl rfl⟩
theorem ls_setMask (B : Nat) (c : Lc) (g : Gh) (m : Nat) (hm : m < 4294967296) (w : World) (hL : LS w B c g) : Calls Try.prog 11 #[.pointer (some ⟨B, 0, none⟩), .int .u32 (m : Nat)] w fun e w' => e = .returned (.tuple #[]) ∧ ∃ c', LPost w w' B c c' { g with mask := m % 16 } := by
  refine (setMask_lk B c m hm w hL.lk).mono ?_
  rintro e w' ⟨rfl, h1, h2⟩
  exact ⟨rfl, { c with mask := (m % 16 : Nat) }, hL.upd h2 h1 rfl rfl rfl rfl hL.al rfl hL.u2 hL.u3 hL.u0 hL.u1 hL.fi, Keeps.row h2 (.inl rfl), own_same' rfl rfl⟩
def Gh.raise (g : Gh) (line : Int) (up : Bool) : Gh := if line = 2 then { g with f2 := up } else if line = 3 then { g with f3 := up } else g
theorem ls_raise (B : Nat) (c : Lc) (g : Gh) (line : Int) (up : Bool) (w : World) (hL : LS w B c g) : Calls Try.prog 15 #[.pointer (some ⟨B, 0, none⟩), .int .i64 line, .bool up] w fun e w' => e = .returned (.int .i64 (if line = 2 ∨ line = 3 then 0 else 2)) ∧ ∃ c', LPost w w' B c c' (g.raise line up) := by
  by_cases h2 : line = 2
  · subst h2
    refine (raise_2 B c up w hL.lk).mono ?_
    rintro e w' ⟨rfl, h1, h2⟩
    exact ⟨rfl, { c with u2 := up }, hL.upd h2 h1 rfl rfl rfl rfl hL.al hL.ms rfl hL.u3 hL.u0 hL.u1 hL.fi, Keeps.row h2 (.inl rfl), own_same' rfl rfl⟩
  by_cases h3 : line = 3
  · subst h3
    refine (raise_3 B c up w hL.lk).mono ?_
    rintro e w' ⟨rfl, h1, h2⟩
    exact ⟨rfl, { c with u3 := up }, hL.upd h2 h1 rfl rfl rfl rfl hL.al hL.ms hL.u2 rfl hL.u0 hL.u1 hL.fi, Keeps.row h2 (.inl rfl), own_same' rfl rfl⟩
  refine (raise_bad B c line up h2 h3 w hL.lk).mono ?_
  rintro e w' ⟨rfl, rfl⟩
  refine ⟨by simp [h2, h3], c, ?_, Keeps.refl _ _, fun k hk => .inl hk⟩
  simpa [Gh.raise, h2, h3] using hL
theorem ls_push_ok (B : Nat) (c : Lc) (g : Gh) (bs : List UInt8) (xa : Option Addr) (xcap : Nat) (w : World) (hL : LS w B c g) (hWG : WG g) (hX : Src w xa bs) (hpl : g.pushed.length ≤ 1000000) (hfit : g.pushed.length - g.taken + bs.length ≤ 256) :
    Calls Try.prog 13 #[.pointer (some ⟨B, 0, none⟩), .slice xa bs.length xcap] w fun e w' => e = .returned (.tuple #[.int .i64 (g.pushed.length : Nat), .int .i64 0]) ∧ ∃ c', LPost w w' B c c' { g with pushed := g.pushed ++ bs } := by
  have htk := hWG.tk
  have hql : (g.pushed.drop g.taken).length = g.pushed.length - g.taken := List.length_drop
  refine (push_ok B c (g.pushed.drop g.taken) bs xa xcap w hL.lk hL.q hX (by rw [hql]; exact hfit) (by rw [hL.fi]; omega) (by rw [hL.fi]; omega)).mono ?_
  rintro e w' ⟨qv', rfl, hL3, hQ3, h3, hrow⟩
  have hn : c.first + ((g.pushed.drop g.taken).length : Nat) = (g.pushed.length : Nat) := by rw [hL.fi, hql]; omega
  rw [hn]
  refine ⟨rfl, { c with qv := qv' }, ⟨hL3, hL.al, hL.ms, hL.u2, hL.u3, hL.u0, hL.u1, by rw [List.drop_append_of_le_length htk]; exact hQ3, hL.fi, hL.o.keeps h3 (fun k hk h => h.elim (fun e => hL.o.ne hL.lk.blk (by decide) k hk (by rw [e])) (fun e => hL.ne k e hk)), fun k hk h => hrow.elim (fun e => hL.ne k (e ▸ hk) h) (fun ⟨j, e1, e2⟩ => by rw [e1] at hk; cases hk; have := hL.lt _ (.inr (.inr h)); omega)⟩, h3.mono (fun i _ h => h.elim .inl (fun h => .inr (.inl h))), fun k hk => ?_⟩
  rcases hk with h | h | h
  · exact .inl (.inl h)
  · rcases hrow with e | ⟨j, e1, e2⟩
    · exact .inl (.inr (.inl (e ▸ h)))
    · right; rw [e1] at h; cases h; exact e2
  · exact .inl (.inr (.inr h))
theorem ls_push_long (B : Nat) (c : Lc) (g : Gh) (m : Nat) (xa : Option Addr) (xcap : Nat) (w : World) (hL : LS w B c g) (hWG : WG g) (hfit : 256 < g.pushed.length - g.taken + m) :
    Calls Try.prog 13 #[.pointer (some ⟨B, 0, none⟩), .slice xa m xcap] w fun e w' => e = .returned (.tuple #[.int .i64 0, .int .i64 3]) ∧ w = w' := by
  have hql : (g.pushed.drop g.taken).length = g.pushed.length - g.taken := List.length_drop
  exact push_long B c (g.pushed.drop g.taken) m xa xcap w hL.lk hL.q (by rw [hql]; exact hfit) (by rw [hql]; exact hWG.wt)
theorem ls_take_none (B : Nat) (c : Lc) (g : Gh) (w : World) (hL : LS w B c g) (hk : g.taken = g.pushed.length) : Calls Try.prog 25 #[.pointer (some ⟨B, 0, none⟩)] w fun e w' => e = .returned (.tuple #[.int .u8 0, .int .i64 0, .bool false]) ∧ w = w' := by
  have h := hL.q
  rw [hk, List.drop_length] at h
  exact take_none B c w hL.lk h
theorem ls_take_one (B : Nat) (c : Lc) (g : Gh) (w : World) (hL : LS w B c g) (hk : g.taken < g.pushed.length) (hpl : g.pushed.length ≤ 1000000) : Calls Try.prog 25 #[.pointer (some ⟨B, 0, none⟩)] w fun e w' => e = .returned (.tuple #[.int .u8 ((g.pushed[g.taken]'hk).toNat : Int), .int .i64 (g.taken : Nat), .bool true]) ∧ ∃ c', LPost w w' B c c' { g with taken := g.taken + 1 } := by
  have h := hL.q
  rw [List.drop_eq_getElem_cons hk] at h
  refine (take_one B c _ _ w hL.lk h (by rw [hL.fi]; omega) (by rw [hL.fi]; omega)).mono ?_
  rintro e w' ⟨qv', rfl, hL3, hQ3, h3, hrow⟩
  rw [hL.fi]
  refine ⟨rfl, { c with qv := qv', first := c.first + 1 }, ⟨by rw [hL.fi] at hL3 ⊢; exact hL3, hL.al, hL.ms, hL.u2, hL.u3, hL.u0, hL.u1, hQ3, by show c.first + 1 = _; rw [hL.fi]; simp, hL.o.kept h3 (hL.o.ne hL.lk.blk (by decide)), fun k hk => hL.ne k (hrow ▸ hk)⟩, Keeps.row h3 (.inl rfl), fun k hk => .inl ?_⟩
  rcases hk with h | h | h
  · exact .inl h
  · exact .inr (.inl (hrow ▸ h))
  · exact .inr (.inr h)
theorem ls_tell (B : Nat) (c : Lc) (g : Gh) (x : UInt8) (w : World) (hL : LS w B c g) (hb : g.told.length ≤ 999999) : Calls Try.prog 26 #[.pointer (some ⟨B, 0, none⟩), .int .u8 (x.toNat : Int)] w fun e w' => e = .returned (.int .i64 (g.told.length : Nat)) ∧ ∃ c', LPost w w' B c c' { g with told := g.told ++ [x] } := by
  refine (tell_lk B c x g.told w hL.lk hL.o hb).mono ?_
  rintro e w' ⟨ov', rfl, hL3, hO3, h3, hrow⟩
  refine ⟨rfl, { c with ov := ov' }, ⟨hL3, hL.al, hL.ms, hL.u2, hL.u3, hL.u0, hL.u1, hL.q.keeps h3 (fun k hk h => h.elim (fun e => hL.q.ne hL.lk.blk (by decide) k hk (by rw [e])) (hL.ne k hk)), hL.fi, hO3, fun k hk h => hrow.elim (fun e => hL.ne k hk (e ▸ h)) (fun ⟨j, e1, e2⟩ => by rw [e1] at h; cases h; have := hL.lt _ (.inr (.inl hk)); omega)⟩, h3.mono (fun i _ h => h.elim .inl (fun h => .inr (.inr h))), fun k hk => ?_⟩
  rcases hk with h | h | h
  · exact .inl (.inl h)
  · exact .inl (.inr (.inl h))
  · rcases hrow with e | ⟨j, e1, e2⟩
    · exact .inl (.inr (.inr (e ▸ h)))
    · right; rw [e1] at h; cases h; exact e2
/-- The lines that want something. -/
def Gh.wantL (g : Gh) (now : Int) : List Nat := wseq (decide (0 < g.alarm) && decide ((g.alarm : Int) ≤ now)) (decide (g.taken < g.pushed.length)) g.f2 g.f3 4
theorem wantL_eq {w : World} {B : Nat} {c : Lc} {g : Gh} (hL : LS w B c g) (now : Int) : wseq (c.w0 now) (decide (0 < (g.pushed.drop g.taken).length)) c.u2 c.u3 4 = g.wantL now := by
  unfold Gh.wantL Lc.w0
  rw [hL.al, hL.u2, hL.u3]
  congr 1
  · simp
  · simp only [List.length_drop]
    congr 1
    simp
    omega
theorem wants_ls (B : Nat) (c : Lc) (g : Gh) (now : Int) (w : World) (hL : LS w B c g) (hWG : WG g) : Calls Try.prog 20 #[.pointer (some ⟨B, 0, none⟩), .int .i64 now] w fun e w' => e = .returned (.int .u32 (setL (g.wantL now) : Nat)) ∧ w.grownBy w' none := by
  obtain ⟨qa, qc, hq, _⟩ := hL.q.shape
  have h := callsIn_wide.1 (wants_body B c qa _ qc hq (by rw [hL.al]; omega) (by rw [hL.al]; have := hWG.al; omega) now w hL.lk)
  rw [wantL_eq hL] at h
  exact h.mono fun _ _ h => ⟨h.1, grown_below h.2⟩
theorem pending_ls (B : Nat) (c : Lc) (g : Gh) (now : Int) (w : World) (hL : LS w B c g) (hWG : WG g) : Calls Try.prog 17 #[.pointer (some ⟨B, 0, none⟩), .int .i64 now] w fun e w' => e = .returned (.tuple #[.int .i64 ((pend g.mask (g.wantL now)).getD 0 : Nat), .bool (pend g.mask (g.wantL now)).isSome]) ∧ w.grownBy w' none := by
  obtain ⟨qa, qc, hq, _⟩ := hL.q.shape
  have h := callsIn_wide.1 (pending_body B c qa _ qc hq (by rw [hL.al]; omega) (by rw [hL.al]; have := hWG.al; omega) g.mask hL.ms (by have := hWG.ms; omega) now w hL.lk)
  rw [wantL_eq hL] at h
  exact h.mono fun _ _ h => ⟨h.1, grown_below h.2⟩
/-- Lines that a call has made, and that it alone has written. -/
structure Wk (w0 w : World) (B : Nat) (c : Lc) (g : Gh) : Prop where
  ls : LS w B c g
  new : ∀ k, own c B k → w0.heap.size ≤ k
  grown : w0.grownBy w none
theorem Wk.step {w0 w w' : World} {B : Nat} {c c' : Lc} {g g' : Gh} (h : Wk w0 w B c g) (p : LPost w w' B c c' g') : Wk w0 w' B c' g' :=
  ⟨p.ls, fun k hk => (p.newl k hk).elim (h.new k) (fun h2 => Nat.le_trans h.grown.size h2), ((Keeps.keep (X := own c B) h.grown).trans p.keep).toGrown (fun i hi hx => by have := h.new i hx; omega)⟩
theorem Wk.keptNone {w0 w w' : World} {B : Nat} {c : Lc} {g : Gh} (h : Wk w0 w B c g) (hg : w.grownBy w' none) : Wk w0 w' B c g := ⟨h.ls.keptNone hg, h.new, h.grown.trans hg⟩
theorem Wk.start {w w' : World} {B : Nat} (hB : w.heap.size ≤ B) (h : Lk w' B .new) (hg : w.grownBy w' none) : Wk w w' B .new .zero :=
  ⟨new_ls hB h, fun k hk => hk.elim (fun e => by omega) (fun h => h.elim (fun e => by cases e) (fun e => by cases e)), hg⟩
end Go.Proofs.Ytmdgehpmeikgfaa
