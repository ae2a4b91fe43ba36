import Derived.Test.YtnglbneefkdfgaaQ
set_option linter.unusedVariables false
namespace Go.Proofs.Ytnglbneefkdfgaa
open Go.RowKit
/-- What a push, a send do by the document. -/
def Nh.full (g : Nh) (bs : List UInt8) : Bool := decide (64 < bs.length) || decide (256 ≤ g.came.length - g.taken)
def Nh.push (g : Nh) (bs : List UInt8) : Nh := if g.full bs then g else { g with came := g.came ++ [bs] }
def Nh.pushAt (g : Nh) (bs : List UInt8) : Nat := if g.full bs then 0 else tot g.came
def Nh.pushNo (g : Nh) (bs : List UInt8) : Nat := if g.full bs then 3 else 0
def Nh.send (g : Nh) (bs : List UInt8) : Nh := if 64 < bs.length then g else { g with sent := g.sent ++ [bs] }
def Nh.sendAt (g : Nh) (bs : List UInt8) : Nat := if 64 < bs.length then 0 else tot g.sent
def Nh.sendNo (_ : Nh) (bs : List UInt8) : Nat := if 64 < bs.length then 3 else 0
def Nh.more (g : Nh) : Bool := decide (g.taken < g.came.length)
def Nh.take (g : Nh) : Nh := if g.more then { g with taken := g.taken + 1 } else g
/-- The bounds that all calls want. -/
structure Nb (g : Nh) : Prop where
  came : g.came.length < 100000
  sent : g.sent.length < 100000
  tc : tot g.came ≤ 100000000
  ts : tot g.sent ≤ 100000000
theorem LPost.same {M : Nat → Prop} {w : World} {B : Nat} {c : Nc} {g : Nh} (h : NS M w B c g) : LPost M w w B c c g :=
  ⟨h.more (fun k hk => .inl hk) (fun k hk => hk.elim .inl (fun h2 => .inl (h.ow k h2))), Keeps.refl _ _, fun k hk => .inl hk⟩
theorem push_any (M : Nat → Prop) (B : Nat) (c : Nc) (g : Nh) (w : World) (h : NS M w B c g) (hb : Nb g) (hMB : ∀ k, M k → k < w.heap.size) (xa : Option Addr) (n xcap : Nat) (bs : List UInt8) (hn : n = bs.length) (hx : Go.Proofs.Ytnglbneefkdfgaa.Src w xa bs) :
    Calls Try.prog 11 #[.pointer (some ⟨B, 0, none⟩), .slice xa n xcap] w fun e w' => ∃ c', e = .returned (.tuple #[.int .i64 (g.pushAt bs : Nat), .int .i64 (g.pushNo bs : Nat)]) ∧ LPost M w w' B c c' (g.push bs) := by
  subst hn
  have htk := h.tk
  by_cases hf : g.full bs = true
  · obtain ⟨vs, hq, _⟩ := h.q
    have hr : 256 ≤ g.came.length - g.taken ∨ 64 < bs.length := by simp [Nh.full] at hf; omega
    refine (push_refused B c _ vs xa xcap bs.length w h.nk hq hr).mono ?_
    rintro e w' ⟨rfl, rfl⟩
    refine ⟨c, by simp [Nh.pushAt, Nh.pushNo, hf], ?_⟩
    rw [show g.push bs = g from by simp [Nh.push, hf]]
    exact LPost.same h
  · have hr : g.came.length - g.taken < 256 ∧ bs.length ≤ 64 := by simp [Nh.full] at hf; omega
    refine (push_ok M B c g w h hMB xa xcap bs hx hr.1 hr.2 (by have := hb.tc; omega)).mono ?_
    rintro e w' ⟨rfl, c', h2⟩
    refine ⟨c', by simp [Nh.pushAt, Nh.pushNo, hf], ?_⟩
    rw [show g.push bs = { g with came := g.came ++ [bs] } from by simp [Nh.push, hf]]
    exact h2
theorem send_any (M : Nat → Prop) (B : Nat) (c : Nc) (g : Nh) (w : World) (h : NS M w B c g) (hb : Nb g) (hMB : ∀ k, M k → k < w.heap.size) (xa : Option Addr) (n xcap : Nat) (bs : List UInt8) (hn : n = bs.length) (hx : Go.Proofs.Ytnglbneefkdfgaa.Src w xa bs) :
    Calls Try.prog 17 #[.pointer (some ⟨B, 0, none⟩), .slice xa n xcap] w fun e w' => ∃ c', e = .returned (.tuple #[.int .i64 (g.sendAt bs : Nat), .int .i64 (g.sendNo bs : Nat)]) ∧ LPost M w w' B c c' (g.send bs) := by
  subst hn
  by_cases hf : 64 < bs.length
  · refine (send_refused B c xa xcap bs.length w h.nk hf).mono ?_
    rintro e w' ⟨rfl, rfl⟩
    refine ⟨c, by simp [Nh.sendAt, Nh.sendNo, hf], ?_⟩
    rw [show g.send bs = g from by simp [Nh.send, hf]]
    exact LPost.same h
  · refine (send_ok M B c g w h hMB xa xcap bs hx (by omega) (by have := hb.sent; omega) (by have := hb.ts; omega)).mono ?_
    rintro e w' ⟨rfl, c', h2⟩
    refine ⟨c', by simp [Nh.sendAt, Nh.sendNo, hf], ?_⟩
    rw [show g.send bs = { g with sent := g.sent ++ [bs] } from by simp [Nh.send, hf]]
    exact h2
theorem take_any (M : Nat → Prop) (B : Nat) (c : Nc) (g : Nh) (w : World) (h : NS M w B c g) : Calls Try.prog 13 #[.pointer (some ⟨B, 0, none⟩)] w fun e w' => ∃ c', e = .returned (.bool g.more) ∧ LPost M w w' B c c' g.take := by
  have htk := h.tk
  by_cases hf : g.taken < g.came.length
  · refine (take_one M B c g w h hf).mono ?_
    rintro e w' ⟨rfl, c', h2⟩
    refine ⟨c', by simp [Nh.more, hf], ?_⟩
    rw [show g.take = { g with taken := g.taken + 1 } from by simp [Nh.take, Nh.more, hf]]
    exact h2
  · refine (take_none M B c g w h (by omega)).mono ?_
    rintro e w' ⟨rfl, rfl⟩
    refine ⟨c, by simp [Nh.more, hf], ?_⟩
    rw [show g.take = g from by simp [Nh.take, Nh.more, hf]]
    exact LPost.same h
theorem ref_push_any (M : Nat → Prop) (r : Rf) (g : Nh) (w : World) (h : RS M w r g) (hb : Nb g) (xa : Option Addr) (n xcap : Nat) (bs : List UInt8) (hMB : ∀ k, M k → k < w.heap.size) (hn : n = bs.length) (hx : Inn M w (.slice xa n xcap) bs) :
    Calls Try.prog 21 #[r.val, .slice xa n xcap] w fun e w' => ∃ r' : Rf, e = .returned (.tuple #[r'.val, .int .i64 (g.pushAt bs : Nat), .int .i64 (g.pushNo bs : Nat)]) ∧ w.grownBy w' none ∧ RS M w' r' (g.push bs) := by
  subst hn
  by_cases hl : 64 < bs.length
  · refine (ref_push_long r w xa xcap bs.length hl).mono ?_
    rintro e w' ⟨rfl, hg⟩
    have hf : g.full bs = true := by simp [Nh.full, hl]
    exact ⟨r, by simp [Nh.pushAt, Nh.pushNo, hf], hg, by rw [show g.push bs = g from by simp [Nh.push, hf]]; exact h.keptNone hg⟩
  by_cases hm : 256 ≤ g.came.length - g.taken
  · refine (ref_push_many M r g w h xa xcap bs hMB hx (by omega) hm (by have := hb.came; omega) (by have := hb.tc; omega)).mono ?_
    rintro e w' ⟨rfl, hg⟩
    have hf : g.full bs = true := by simp [Nh.full, hm]
    exact ⟨r, by simp [Nh.pushAt, Nh.pushNo, hf], hg, by rw [show g.push bs = g from by simp [Nh.push, hf]]; exact h.keptNone hg⟩
  · refine (ref_push_one M r g w h xa xcap bs hMB hx (by omega) (by omega) (by have := hb.came; omega) (by have := hb.tc; omega)).mono ?_
    rintro e w' ⟨r', rfl, hg, hr⟩
    have hf : g.full bs = false := by simp [Nh.full]; omega
    exact ⟨r', by simp [Nh.pushAt, Nh.pushNo, hf], hg, by rw [show g.push bs = { g with came := g.came ++ [bs] } from by simp [Nh.push, hf]]; exact hr⟩
theorem ref_send_any (M : Nat → Prop) (r : Rf) (g : Nh) (w : World) (h : RS M w r g) (hb : Nb g) (xa : Option Addr) (n xcap : Nat) (bs : List UInt8) (hMB : ∀ k, M k → k < w.heap.size) (hn : n = bs.length) (hx : Inn M w (.slice xa n xcap) bs) :
    Calls Try.prog 33 #[r.val, .slice xa n xcap] w fun e w' => ∃ r' : Rf, e = .returned (.tuple #[r'.val, .int .i64 (g.sendAt bs : Nat), .int .i64 (g.sendNo bs : Nat)]) ∧ w.grownBy w' none ∧ RS M w' r' (g.send bs) := by
  subst hn
  by_cases hl : 64 < bs.length
  · refine (ref_send_refused r w xa xcap bs.length hl).mono ?_
    rintro e w' ⟨rfl, hg⟩
    exact ⟨r, by simp [Nh.sendAt, Nh.sendNo, hl], hg, by rw [show g.send bs = g from by simp [Nh.send, hl]]; exact h.keptNone hg⟩
  · refine (ref_send_one M r g w h xa xcap bs hMB hx (by omega) (by have := hb.sent; omega) (by have := hb.ts; omega)).mono ?_
    rintro e w' ⟨r', rfl, hg, hr⟩
    exact ⟨r', by simp [Nh.sendAt, Nh.sendNo, hl], hg, by rw [show g.send bs = { g with sent := g.sent ++ [bs] } from by simp [Nh.send, hl]]; exact hr⟩
theorem ref_take_any (M : Nat → Prop) (r : Rf) (g : Nh) (w : World) (h : RS M w r g) (hb : Nb g) : Calls Try.prog 22 #[r.val] w fun e w' => ∃ r' : Rf, e = .returned (.tuple #[r'.val, .bool g.more]) ∧ w.grownBy w' none ∧ RS M w' r' g.take := by
  have htk := h.tkl
  by_cases hf : g.taken < g.came.length
  · refine (ref_take_one M r g w h hf (by have := hb.came; omega)).mono ?_
    rintro e w' ⟨rfl, hg⟩
    have h2 := h.keptNone hg
    refine ⟨{ r with taken := ((g.taken + 1 : Nat) : Int) }, by simp [Nh.more, hf], hg, ?_⟩
    rw [show g.take = { g with taken := g.taken + 1 } from by simp [Nh.take, Nh.more, hf]]
    exact ⟨hf, h2.p, rfl, h2.t, h2.rp, h2.rt⟩
  · refine (ref_take_none M r g w h (by omega)).mono ?_
    rintro e w' ⟨rfl, hg⟩
    exact ⟨r, by simp [Nh.more, hf], hg, by rw [show g.take = g from by simp [Nh.take, Nh.more, hf]]; exact h.keptNone hg⟩
theorem num_any (x : Int) (w : World) : Calls Try.prog 12 #[.int .i64 x] w fun e w' => e = .returned (.int .i64 x) ∧ w = w' := by
  go_enter Try.func12, Try.ntmps12
  go_wp2
  go_ret
  exact ⟨rfl, rfl⟩
/-- What a call of both leaves. -/
structure APost (M M' : Nat → Prop) (w w' : World) (B : Nat) (c c' : Nc) (r' : Rf) (g' : Nh) : Prop where
  ns : NS M' w' B c' g'
  rs : RS M' w' r' g'
  keep : Keeps (own c B) w w'
  mm : ∀ k, M' k → M k ∨ w.heap.size ≤ k
  mb : ∀ k, M' k → k < w'.heap.size
  sub : ∀ k, M k → M' k
  newl : ∀ k, own c' B k → own c B k ∨ w.heap.size ≤ k
/-- Prologue, the document's call, the net's call, the loop, the result's store. -/
theorem APost.make {M : Nat → Prop} {w w3 u1 u3 w' : World} {B : Nat} {c c' : Nc} {r' : Rf} {g g' : Nh} {Z : Nat → Prop} (hMB : ∀ k, M k → k < w.heap.size) (hNS : NS M w B c g) (h3 : w.grownBy w3 none) (h1 : w3.grownBy u1 none) (hZ : ∀ k, Z k → w.heap.size ≤ k ∧ k < w3.heap.size)
    (hR : RS (with_ M (fun k => w.heap.size ≤ k ∧ k < w3.heap.size)) u1 r' g') {u2 : World} (h2 : Keeps Z u1 u2) (hL : LPost (with_ M (fun k => w.heap.size ≤ k ∧ k < w3.heap.size)) u2 u3 B c c' g') (hK : Keeps Z u3 w') :
    APost M (with_ (with_ M (fun k => w.heap.size ≤ k ∧ k < w3.heap.size)) (own c' B)) w w' B c c' r' g' := by
  have hz1 := h1.size
  have hz2 := h2.size
  have hz3 := hL.keep.size
  have hz4 := h3.size
  have hzk := hK.size
  have hlt := hNS.lt
  have hlc := hL.ns.lt
  have hmm : ∀ k, with_ (with_ M (fun k => w.heap.size ≤ k ∧ k < w3.heap.size)) (own c' B) k → M k ∨ w.heap.size ≤ k := fun k hk => by
    rcases hk with (h | h) | h
    · exact .inl h
    · exact .inr h.1
    · exact (hL.newl k h).elim (fun h => .inl (hNS.ow k h)) (fun h => .inr (by omega))
  have hx : ∀ k, Z k → with_ (with_ M (fun k => w.heap.size ≤ k ∧ k < w3.heap.size)) (own c' B) k := fun k hk => .inl (.inr (hZ k hk))
  have hr2 := hR.keeps h2 (fun k _ hk => .inr (hZ k hk))
  have hr3 := (hr2.more (M' := with_ (with_ M (fun k => w.heap.size ≤ k ∧ k < w3.heap.size)) (own c' B)) (fun k hk => hk.elim .inl (fun h => (hL.newl k h).elim (fun h => .inl (.inl (hNS.ow k h))) (fun h => .inr h)))).keeps hL.keep (fun k _ hk => .inl (.inl (hNS.ow k hk)))
  refine ⟨hL.ns.keeps hK (fun k _ hk => hx k hk) (fun k hk hz => ?_), hr3.keeps hK (fun k _ hk => hx k hk), ?_, hmm, ?_, fun k hk => .inl (.inl hk), fun k hk => (hL.newl k hk).imp id (fun h => by omega)⟩
  · have := hZ k hz
    exact (hL.newl k hk).elim (fun h => by have := hlt k h; omega) (fun h => by omega)
  · exact (((Keeps.keep (X := own c B) (h3.trans h1)).then h2 (fun i hi hlt => by have := hZ i hi; omega)).trans hL.keep).then hK (fun i hi hlt => by have := hZ i hi; omega)
  · intro k hk
    rcases hk with (h | h) | h
    · have := hMB k h; omega
    · omega
    · have := hlc k h; omega
end Go.Proofs.Ytnglbneefkdfgaa
