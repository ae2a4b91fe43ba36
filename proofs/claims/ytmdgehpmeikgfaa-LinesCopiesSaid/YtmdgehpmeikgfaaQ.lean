import Derived.Test.YtmdgehpmeikgfaaP
set_option linter.unusedVariables false
namespace Go.Proofs.Ytmdgehpmeikgfaa
open Go.RowKit
theorem LS.upd {w w' : World} {B : Nat} {c c' : Lc} {g g' : Gh} (h : LS w B c g) (hk : w.grownBy w' (some B)) (hl : Lk w' B c') (hq : c'.qv = c.qv) (ho : c'.ov = c.ov) (hp : g'.pushed.drop g'.taken = g.pushed.drop g.taken) (ht : g'.told = g.told)
    (h1 : c'.alarm = (g'.alarm : Nat)) (h2 : c'.mask = (g'.mask : Nat)) (h3 : c'.u2 = g'.f2) (h4 : c'.u3 = g'.f3) (h5 : c'.u0 = false) (h6 : c'.u1 = false) (h7 : c'.first = (g'.taken : Nat)) : LS w' B c' g' :=
  ⟨hl, h1, h2, h3, h4, h5, h6, by rw [hq, hp]; exact h.q.kept hk (h.q.ne h.lk.blk (by decide)), h7, by rw [ho, ht]; exact h.o.kept hk (h.o.ne h.lk.blk (by decide)), by rw [hq, ho]; exact h.ne⟩
theorem Post.fin {w u w' : World} {B : Nat} {c c' : Lc} {r r' : Rf} {g0 g' : Gh} (hL : LS w B c g0) (hR : RS w r g0) (hl : LS u B c' g') (hr : RS u r' g') (hk : Keeps (own c B) w u) (hnl : ∀ k, own c' B k → own c B k ∨ w.heap.size + 3 ≤ k) (hnr : ∀ k, rrow r' k → rrow r k ∨ w.heap.size + 3 ≤ k)
    (hsep : ∀ k, own c' B k → ¬ rrow r' k) (hx : Keeps (fun k => w.heap.size ≤ k ∧ k < w.heap.size + 3) u w') : Post w w' B c c' r r' g' where
  ls := hl.keeps hx (fun k hk => by rcases hnl k hk with h | h; · have := hL.lt k h; omega
                                    · omega)
  rs := hr.keeps hx (fun k hk => by rcases hnr k hk with h | h; · have := hR.lt k h; omega
                                    · omega)
  sep := hsep
  keep := hk.then hx (fun i hi h => by omega)
  newl := fun k hk => (hnl k hk).imp id (fun h => by omega)
  newr := fun k hk => (hnr k hk).imp id (fun h => by omega)
theorem own_same {c c' : Lc} {B : Nat} (hq : c'.qv = c.qv) (ho : c'.ov = c.ov) : ∀ k, own c' B k → own c B k := fun k hk => by
  unfold own at hk ⊢
  rwa [hq, ho] at hk
theorem mid {w0 n : Nat} (i : Nat) (h : n = w0 + i) (hi : i < 3) : w0 ≤ n ∧ n < w0 + 3 := by omega
set_option maxRecDepth 100000 in
set_option maxHeartbeats 8000000 in
theorem act_alarm (B : Nat) (c : Lc) (r : Rf) (g : Gh) (x : Ac) (bs : List UInt8) (w : World) (hL : LS w B c g) (hR : RS w r g) (hS : ∀ k, own c B k → ¬ rrow r k) (hw : x.what = 0) : Calls Try.prog 30 #[.pointer (some ⟨B, 0, none⟩), r.val, x.val] w fun e w' => ∃ c' r', e = .returned (.tuple #[r'.val, .bool true]) ∧ Post w w' B c c' r r' (g.step x bs) := by
  obtain ⟨hg0, b1, b2, b3⟩ := three_new w (.cells r.cells 29) (.cells x.cells 49) (.cells Rf.zero.cells 29)
  have HB1 := Lib.hid (show _ from b1)
  have HB2 := Lib.hid b2
  have HB3 := Lib.hid b3
  have HG0 := Lib.hid hg0
  have HL := Lib.hid hL
  have HR := Lib.hid hR
  have HS := Lib.hid hS
  have HLK0 := Lib.hid (hL.lk.keptNone hg0)
  have HST := Lib.hid (show ({ g with alarm := x.word } : Gh) = g.step x bs by simp [Gh.step, hw])
  clear hg0 b1 b2 b3 hL hR hS
  obtain ⟨what, line, ba, bn, bc, byte, word, up⟩ := x
  simp only at hw
  subst hw
  go_enter Try.func30, Try.ntmps30
  go_wp2_with fail
  refine (setAlarm_lk B c word _ HLK0.out).mono ?_; rintro e u1 ⟨rfl, hL1, h1⟩
  have hlt := HL.out.lk.lt
  have HB1u := Lib.hid ((h1.block _ (lt_of_block HB1.out) (by simp; omega)).trans HB1.out)
  have HB2u := Lib.hid ((h1.block _ (lt_of_block HB2.out) (by simp; omega)).trans HB2.out)
  have HB3u := Lib.hid ((h1.block _ (lt_of_block HB3.out) (by simp; omega)).trans HB3.out)
  have HK1 := Lib.hid ((Keeps.keep (X := own c B) HG0.out).trans (Keeps.row h1 (.inl rfl)))
  have HL1 := Lib.hid ((HL.out.keptNone HG0.out).upd (c' := { c with alarm := (word : Nat) }) (g' := { g with alarm := word }) h1 hL1 rfl rfl rfl rfl rfl HL.out.ms HL.out.u2 HL.out.u3 HL.out.u0 HL.out.u1 HL.out.fi)
  have hr1 := (HR.out.keptNone HG0.out).keeps (Keeps.row (X := own c B) h1 (.inl rfl)) (fun k hk hk2 => HS.out k hk2 hk)
  have HR1 := Lib.hid (show RS u1 { r with alarm := (word : Nat) } { g with alarm := word } from ⟨rfl, hr1.ms, hr1.f0, hr1.f1, hr1.f2, hr1.f3, hr1.p, hr1.tk, hr1.t⟩)
  have hc4 : u1.cell? ⟨w.heap.size + 1, 4, none⟩ = some (.int .u32 (word : Nat)) := cells_all HB2u.out 4
  have hc0 : u1.cell? ⟨w.heap.size, 0, none⟩ = some (.int .u32 r.alarm) := cells_all HB1u.out 0
  have hf0 : u1.frozen? ⟨w.heap.size, 0, none⟩ = false := frozen_all HB1u.out 0
  have h2 := grown_setCell u1 w.heap.size 0 (.int .u32 (word : Nat))
  have HX2 := Lib.hid (show (u1.setCell ⟨w.heap.size, 0, none⟩ (.int .u32 (word : Nat))).heap[w.heap.size]? = some (.cells ({ r with alarm := (word : Nat) } : Rf).cells 29 (0, 0)) from heap_setCell_at (j := 0) (.int .u32 (word : Nat)) HB1u.out)
  have HZ2 := Lib.hid ((h2.block _ (lt_of_block HB3u.out) (by simp; omega)).trans HB3u.out)
  have HT2 := Lib.hid (Keeps.row (X := fun k => w.heap.size ≤ k ∧ k < w.heap.size + 3) h2 (mid 0 rfl (by omega)))
  clear hL1 h1 hr1 h2
  go_wp2_with (with_reducible refine hold_ld 29 _ rfl ?_)
  apply Lib.hid
  with_reducible refine wpList_load_blk rfl 29 _ rfl _ ?o3501 ?hx3501 _ _ _ HX2.out _ 9 ?hn3501 Try.underlying29 rfl Try.size29 ?_
  case hx3501 => exact rfl
  case hn3501 => exact rfl
  go_wp2_with (with_reducible refine hold_st 29 _ _ rfl ?_)
  apply Lib.hid
  with_reducible refine wpList_store_all rfl 29 _ _ rfl _ ?cs3502 ?hx3502 ?hy3502 _ _ HZ2.out ?hf3502 _ ?hl3502 Try.size29 ?h13502 ?_
  case hy3502 => exact rfl
  case hx3502 => exact rfl
  case hf3502 => exact rfl
  case hl3502 => exact rfl
  case h13502 => simp [allOne, Value.oneCell']
  intro w5 hb5 hg5
  have HZ5 := Lib.hid hb5
  have HT5 := Lib.hid (HT2.out.trans (Keeps.row hg5 (mid 2 rfl (by omega))))
  clear hb5 hg5
  go_wp2
  refine bodyPost_ret (results_c29t rfl _ _ _ _ (by rfl) (by rfl) HZ5.out) (by rfl) ?_
  refine ⟨{ c with alarm := (word : Nat) }, { r with alarm := (word : Nat) }, rfl, ?_⟩
  rw [← HST.out]
  exact Post.fin HL.out HR.out HL1.out HR1.out HK1.out (fun k hk => .inl (own_same (B := B) (c := c) rfl rfl k hk)) (fun k hk => .inl hk) (fun k hk => HS.out k (own_same (B := B) (c := c) rfl rfl k hk)) HT5.out
set_option maxRecDepth 100000 in
set_option maxHeartbeats 8000000 in
theorem act_mask (B : Nat) (c : Lc) (r : Rf) (g : Gh) (x : Ac) (bs : List UInt8) (w : World) (hL : LS w B c g) (hR : RS w r g) (hS : ∀ k, own c B k → ¬ rrow r k) (hw : x.what = 4) (hwd : x.word < 4294967296) : Calls Try.prog 30 #[.pointer (some ⟨B, 0, none⟩), r.val, x.val] w fun e w' => ∃ c' r', e = .returned (.tuple #[r'.val, .bool true]) ∧ Post w w' B c c' r r' (g.step x bs) := by
  obtain ⟨hg0, b1, b2, b3⟩ := three_new w (.cells r.cells 29) (.cells x.cells 49) (.cells Rf.zero.cells 29)
  have HB1 := Lib.hid (show _ from b1)
  have HB2 := Lib.hid b2
  have HB3 := Lib.hid b3
  have HG0 := Lib.hid hg0
  have HL := Lib.hid hL
  have HR := Lib.hid hR
  have HS := Lib.hid hS
  have HLK0 := Lib.hid (hL.lk.keptNone hg0)
  have HST := Lib.hid (show ({ g with mask := x.word % 16 } : Gh) = g.step x bs by simp [Gh.step, hw])
  clear hg0 b1 b2 b3 hL hR hS
  obtain ⟨what, line, ba, bn, bc, byte, word, up⟩ := x
  simp only at hw
  subst hw
  go_enter Try.func30, Try.ntmps30
  go_wp2_with fail
  refine (setMask_lk B c word hwd _ HLK0.out).mono ?_; rintro e u1 ⟨rfl, hL1, h1⟩
  have hlt := HL.out.lk.lt
  have HB1u := Lib.hid ((h1.block _ (lt_of_block HB1.out) (by simp; omega)).trans HB1.out)
  have HB2u := Lib.hid ((h1.block _ (lt_of_block HB2.out) (by simp; omega)).trans HB2.out)
  have HB3u := Lib.hid ((h1.block _ (lt_of_block HB3.out) (by simp; omega)).trans HB3.out)
  have HK1 := Lib.hid ((Keeps.keep (X := own c B) HG0.out).trans (Keeps.row h1 (.inl rfl)))
  have HL1 := Lib.hid ((HL.out.keptNone HG0.out).upd (c' := { c with mask := (word % 16 : Nat) }) (g' := { g with mask := word % 16 }) h1 hL1 rfl rfl rfl rfl HL.out.al rfl HL.out.u2 HL.out.u3 HL.out.u0 HL.out.u1 HL.out.fi)
  have hr1 := (HR.out.keptNone HG0.out).keeps (Keeps.row (X := own c B) h1 (.inl rfl)) (fun k hk hk2 => HS.out k hk2 hk)
  have HR1 := Lib.hid (show RS u1 { r with mask := (word : Int) % 16 } { g with mask := word % 16 } from ⟨hr1.al, by simp, hr1.f0, hr1.f1, hr1.f2, hr1.f3, hr1.p, hr1.tk, hr1.t⟩)
  have hc4 : u1.cell? ⟨w.heap.size + 1, 4, none⟩ = some (.int .u32 (word : Nat)) := cells_all HB2u.out 4
  clear hL1 h1 hr1
  go_wp2_with (with_reducible refine hold_ld 29 _ rfl ?_)
  apply Lib.hid
  with_reducible refine wpList_load_blk rfl 29 _ rfl _ ?o3503 ?hx3503 _ _ _ HB1u.out _ 9 ?hn3503 Try.underlying29 rfl Try.size29 ?_
  case hx3503 => exact rfl
  case hn3503 => exact rfl
  go_wp2_with fail
  refine (rsetMask r word _).mono ?_; rintro e u2 ⟨rfl, h2⟩
  have HB1v := Lib.hid ((h2.block _ (lt_of_block HB1u.out) (by simp)).trans HB1u.out)
  have HB2v := Lib.hid ((h2.block _ (lt_of_block HB2u.out) (by simp)).trans HB2u.out)
  have HB3v := Lib.hid ((h2.block _ (lt_of_block HB3u.out) (by simp)).trans HB3u.out)
  have HK2 := Lib.hid (HK1.out.trans (Keeps.keep h2))
  have HL2 := Lib.hid (HL1.out.keptNone h2)
  have HR2 := Lib.hid (HR1.out.keptNone h2)
  clear h2
  go_wp2_with (with_reducible refine hold_st 29 _ _ rfl ?_)
  apply Lib.hid
  with_reducible refine wpList_store_all rfl 29 _ _ rfl _ ?cs3504 ?hx3504 ?hy3504 _ _ HB3v.out ?hf3504 _ ?hl3504 Try.size29 ?h13504 ?_
  case hy3504 => exact rfl
  case hx3504 => exact rfl
  case hf3504 => exact rfl
  case hl3504 => exact rfl
  case h13504 => simp [allOne, Value.oneCell']
  intro w5 hb5 hg5
  have HZ5 := Lib.hid hb5
  have HT5 := Lib.hid ((Keeps.row (X := fun k => w.heap.size ≤ k ∧ k < w.heap.size + 3) hg5 (mid 2 rfl (by omega))))
  clear hb5 hg5
  go_wp2
  refine bodyPost_ret (results_c29t rfl _ _ _ _ (by rfl) (by rfl) HZ5.out) (by rfl) ?_
  refine ⟨{ c with mask := (word % 16 : Nat) }, { r with mask := (word : Int) % 16 }, rfl, ?_⟩
  rw [← HST.out]
  exact Post.fin HL.out HR.out HL2.out HR2.out HK2.out (fun k hk => .inl (own_same (B := B) (c := c) rfl rfl k hk)) (fun k hk => .inl hk) (fun k hk => HS.out k (own_same (B := B) (c := c) rfl rfl k hk)) HT5.out
end Go.Proofs.Ytmdgehpmeikgfaa
