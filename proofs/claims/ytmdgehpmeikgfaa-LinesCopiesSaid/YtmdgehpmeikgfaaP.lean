import Derived.Test.YtmdgehpmeikgfaaO
set_option linter.unusedVariables false
namespace Go.Proofs.Ytmdgehpmeikgfaa
open Go.RowKit
/-- What lines hold, by the document. -/
structure Gh where
  alarm : Nat
  mask : Nat
  f2 : Bool
  f3 : Bool
  pushed : List UInt8
  taken : Nat
  told : List UInt8
def Gh.zero : Gh := ⟨0, 0, false, false, [], 0, []⟩
structure WG (g : Gh) : Prop where
  al : g.alarm < 4294967296
  ms : g.mask < 16
  tk : g.taken ≤ g.pushed.length
  wt : g.pushed.length - g.taken ≤ 256
/-- The blocks of lines. -/
def own (c : Lc) (B : Nat) : Nat → Prop := fun k => k = B ∨ rowOf c.qv = some k ∨ rowOf c.ov = some k
/-- The rows of the document's lines. -/
def rrow (r : Rf) : Nat → Prop := fun k => rowOf (.slice r.pa r.pn r.pc) = some k ∨ rowOf (.slice r.ta r.tn r.tc) = some k
structure LS (w : World) (B : Nat) (c : Lc) (g : Gh) : Prop where
  lk : Lk w B c
  al : c.alarm = (g.alarm : Nat)
  ms : c.mask = (g.mask : Nat)
  u2 : c.u2 = g.f2
  u3 : c.u3 = g.f3
  u0 : c.u0 = false
  u1 : c.u1 = false
  q : Sl w c.qv (g.pushed.drop g.taken)
  fi : c.first = (g.taken : Nat)
  o : Sl w c.ov g.told
  ne : ∀ k, rowOf c.qv = some k → rowOf c.ov ≠ some k
structure RS (w : World) (r : Rf) (g : Gh) : Prop where
  al : r.alarm = (g.alarm : Nat)
  ms : r.mask = (g.mask : Nat)
  f0 : r.f0 = false
  f1 : r.f1 = false
  f2 : r.f2 = g.f2
  f3 : r.f3 = g.f3
  p : Sl w (.slice r.pa r.pn r.pc) g.pushed
  tk : r.taken = (g.taken : Nat)
  t : Sl w (.slice r.ta r.tn r.tc) g.told
theorem RS.pn {w : World} {r : Rf} {g : Gh} (h : RS w r g) : r.pn = g.pushed.length := by
  obtain ⟨_, _, h, _⟩ := h.p.shape
  injection h
theorem RS.tn {w : World} {r : Rf} {g : Gh} (h : RS w r g) : r.tn = g.told.length := by
  obtain ⟨_, _, h, _⟩ := h.t.shape
  injection h
theorem Sl.keeps {w w' : World} {v : Value} {l : List UInt8} {X : Nat → Prop} (h : Sl w v l) (hg : Keeps X w w') (hne : ∀ g, rowOf v = some g → ¬ X g) : Sl w' v l := by
  rcases h with h | ⟨g, o, cap, cur, rfl, h1, h2, h3, h4, h5⟩
  · exact .inl h
  · exact .inr ⟨g, o, cap, cur, rfl, h1, h2, (hg.block g (lt_of_block h3) (hne g rfl)).trans h3, h4, h5⟩
theorem Lk.keeps {w w' : World} {B : Nat} {c : Lc} {X : Nat → Prop} (h : Lk w B c) (hg : Keeps X w w') (hne : ¬ X B) : Lk w' B c := (hg.block B (lt_of_block h) hne).trans h
theorem LS.keeps {w w' : World} {B : Nat} {c : Lc} {g : Gh} {X : Nat → Prop} (h : LS w B c g) (hg : Keeps X w w') (hne : ∀ k, own c B k → ¬ X k) : LS w' B c g :=
  ⟨h.lk.keeps hg (hne B (.inl rfl)), h.al, h.ms, h.u2, h.u3, h.u0, h.u1, h.q.keeps hg (fun k hk => hne k (.inr (.inl hk))), h.fi, h.o.keeps hg (fun k hk => hne k (.inr (.inr hk))), h.ne⟩
theorem LS.keptNone {w w' : World} {B : Nat} {c : Lc} {g : Gh} (h : LS w B c g) (hg : w.grownBy w' none) : LS w' B c g :=
  h.keeps (X := fun _ => False) (Keeps.of hg (fun r e => by cases e)) (fun _ _ => id)
theorem RS.keeps {w w' : World} {r : Rf} {g : Gh} {X : Nat → Prop} (h : RS w r g) (hg : Keeps X w w') (hne : ∀ k, rrow r k → ¬ X k) : RS w' r g :=
  ⟨h.al, h.ms, h.f0, h.f1, h.f2, h.f3, h.p.keeps hg (fun k hk => hne k (.inl hk)), h.tk, h.t.keeps hg (fun k hk => hne k (.inr hk))⟩
theorem RS.keptNone {w w' : World} {r : Rf} {g : Gh} (h : RS w r g) (hg : w.grownBy w' none) : RS w' r g :=
  h.keeps (X := fun _ => False) (Keeps.of hg (fun r e => by cases e)) (fun _ _ => id)
theorem LS.lt {w : World} {B : Nat} {c : Lc} {g : Gh} (h : LS w B c g) : ∀ k, own c B k → k < w.heap.size := by
  rintro k (rfl | hk | hk)
  · exact h.lk.lt
  · exact h.q.lt k hk
  · exact h.o.lt k hk
theorem RS.lt {w : World} {r : Rf} {g : Gh} (h : RS w r g) : ∀ k, rrow r k → k < w.heap.size := by
  rintro k (hk | hk)
  · exact h.p.lt k hk
  · exact h.t.lt k hk
theorem Keeps.then {X Y : Nat → Prop} {a b c : World} (h : Keeps X a b) (k : Keeps Y b c) (hy : ∀ i, Y i → i < a.heap.size → X i) : Keeps X a c :=
  ⟨k.os.trans h.os, k.tape.trans h.tape, k.output.trans h.output, Nat.le_trans h.size k.size, fun i hi hx => (k.block i (Nat.lt_of_lt_of_le hi h.size) (fun e => hx (hy i e hi))).trans (h.block i hi hx)⟩
theorem Keeps.fresh {X : Nat → Prop} {a b c : World} {g : Nat} (h : Keeps X a b) (k : b.grownBy c (some g)) (hg : a.heap.size ≤ g) : Keeps X a c :=
  h.then (Keeps.of (X := fun i => i = g) k (fun r e => by cases e; rfl)) (fun i e hi => by subst e; omega)
theorem Keeps.keep {X : Nat → Prop} {a b : World} (k : a.grownBy b none) : Keeps X a b := Keeps.of k (fun r e => by cases e)
theorem Keeps.row {X : Nat → Prop} {a b : World} {g : Nat} (k : a.grownBy b (some g)) (hg : X g) : Keeps X a b := Keeps.of k (fun r e => by cases e; exact hg)
theorem Keeps.mono {X Y : Nat → Prop} {a b : World} (k : Keeps X a b) (h : ∀ i, i < a.heap.size → X i → Y i) : Keeps Y a b :=
  ⟨k.os, k.tape, k.output, k.size, fun i hi hy => k.block i hi (fun hx => hy (h i hi hx))⟩
theorem Keeps.toGrown {X : Nat → Prop} {a b : World} (k : Keeps X a b) (h : ∀ i, i < a.heap.size → ¬ X i) : a.grownBy b none :=
  ⟨k.os, k.tape, k.output, k.size, fun i hi _ => k.block i hi (h i hi)⟩
/-- A call, as 'Act' has it. -/
structure Ac where
  what : Int
  line : Int
  ba : Option Addr
  bn : Nat
  bc : Nat
  byte : UInt8
  word : Nat
  up : Bool
abbrev Ac.cells (x : Ac) : Array Value := #[.int .i64 x.what, .int .i64 x.line, .slice x.ba x.bn x.bc, .int .u8 (x.byte.toNat : Int), .int .u32 (x.word : Nat), .bool x.up]
abbrev Ac.val (x : Ac) : Value := .agg x.cells
def Gh.step (g : Gh) (x : Ac) (bs : List UInt8) : Gh :=
  if x.what = 0 then { g with alarm := x.word }
  else if x.what = 1 then (if g.pushed.length - g.taken + bs.length ≤ 256 then { g with pushed := g.pushed ++ bs } else g)
  else if x.what = 2 then (if g.taken < g.pushed.length then { g with taken := g.taken + 1 } else g)
  else if x.what = 3 then { g with told := g.told ++ [x.byte] }
  else if x.what = 4 then { g with mask := x.word % 16 }
  else if x.line = 2 then { g with f2 := x.up }
  else if x.line = 3 then { g with f3 := x.up }
  else g
theorem WG.step {g : Gh} (h : WG g) (x : Ac) (hx : x.word < 4294967296) (bs : List UInt8) : WG (g.step x bs) := by
  obtain ⟨h1, h2, h3, h4⟩ := h
  unfold Gh.step
  repeat' split
  all_goals first
    | exact ⟨h1, h2, h3, h4⟩
    | exact ⟨hx, h2, h3, h4⟩
    | exact ⟨h1, by simp; omega, h3, h4⟩
    | exact ⟨h1, h2, by simp; omega, by simp; omega⟩
    | exact ⟨h1, h2, by show g.taken + 1 ≤ _; omega, by show _ - (g.taken + 1) ≤ _; omega⟩
/-- What a call makes of lines and of the document's. -/
structure Post (w w' : World) (B : Nat) (c c' : Lc) (r r' : Rf) (g : Gh) : Prop where
  ls : LS w' B c' g
  rs : RS w' r' g
  sep : ∀ k, own c' B k → ¬ rrow r' k
  keep : Keeps (own c B) w w'
  newl : ∀ k, own c' B k → own c B k ∨ w.heap.size ≤ k
  newr : ∀ k, rrow r' k → rrow r k ∨ w.heap.size ≤ k
theorem Try.size49 : (Try.prog.info? 49).map (·.size) = some 6 := by kernel_rfl
theorem ld49 {W : World} {b : Nat} {x : Ac} (h : W.heap[b]? = some (.cells x.cells 49 (0, 0))) : (Instr.loadAt 49 (.pointer (some ⟨b, 0, none⟩))).run Try.prog W = .ok x.val W :=
  load_blk (P := Try.prog) 0 49 6 h (by rfl) Try.underlying49 rfl Try.size49
/-- Conversion to a string. -/
theorem conv_sl {w : World} {a : Option Addr} {cap : Nat} {l : List UInt8} (h : Sl w (.slice a l.length cap) l) : (convert 27 9 (.slice a l.length cap)).run Try.prog w = .ok (.string ⟨l.toArray⟩) w := by
  cases a with
  | some a =>
    refine run_convert_bytes_back (P := Try.prog) w 27 9 5 a cap l Try.underlying27 Try.underlying5 Try.underlying9 ?_
    intro j hj
    rcases id h with ⟨h, _⟩ | ⟨g, o, cap', cur, h0, _⟩
    · cases h
    · cases h0
      rw [Addr.add_lit]
      exact h.cell j _ (bV_get l j hj)
  | none =>
    obtain rfl : l = [] := by
      rcases h with h | ⟨g, o, cap', cur, h0, _⟩
      · exact h.2
      · cases h0
    exact run_convert_bytes_nil (P := Try.prog) w 27 5 Try.underlying27 Try.underlying5 0 cap 9 Try.underlying9
theorem conv_src {w : World} {a : Option Addr} {cap : Nat} {l : List UInt8} (h : Src w a l) : (convert 27 9 (.slice a l.length cap)).run Try.prog w = .ok (.string ⟨l.toArray⟩) w := by
  cases a with
  | some a =>
    refine run_convert_bytes_back (P := Try.prog) w 27 9 5 a cap l Try.underlying27 Try.underlying5 Try.underlying9 ?_
    intro j hj
    rcases h with h | ⟨b, o, hb, hc⟩
    · subst h; simp at hj
    · cases hb; rw [Addr.add_lit]; exact hc j hj
  | none =>
    obtain rfl : l = [] := by
      rcases h with h | ⟨b, o, hb, _⟩
      · exact h
      · cases hb
    exact run_convert_bytes_nil (P := Try.prog) w 27 5 Try.underlying27 Try.underlying5 0 cap 9 Try.underlying9
end Go.Proofs.Ytmdgehpmeikgfaa
