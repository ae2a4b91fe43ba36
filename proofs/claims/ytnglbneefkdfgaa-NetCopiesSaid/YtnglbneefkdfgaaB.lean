import Derived.Test.YtnglbneefkdfgaaA
set_option linter.unusedVariables false
namespace Go.Proofs.Ytnglbneefkdfgaa
open Go.RowKit
theorem Keeps.then {X Y : Nat → Prop} {a b c : World} (h : Keeps X a b) (k : Keeps Y b c) (hy : ∀ i, Y i → i < a.heap.size → X i) : Keeps X a c :=
  ⟨k.os.trans h.os, k.tape.trans h.tape, k.output.trans h.output, Nat.le_trans h.size k.size, fun i hi hx => (k.block i (Nat.lt_of_lt_of_le hi h.size) (fun e => hx (hy i e hi))).trans (h.block i hi hx)⟩
theorem Keeps.keep {X : Nat → Prop} {a b : World} (k : a.grownBy b none) : Keeps X a b := Keeps.of k (fun r e => by cases e)
theorem Keeps.row {X : Nat → Prop} {a b : World} {g : Nat} (k : a.grownBy b (some g)) (hg : X g) : Keeps X a b := Keeps.of k (fun r e => by cases e; exact hg)
theorem Keeps.mono {X Y : Nat → Prop} {a b : World} (k : Keeps X a b) (h : ∀ i, i < a.heap.size → X i → Y i) : Keeps Y a b :=
  ⟨k.os, k.tape, k.output, k.size, fun i hi hy => k.block i hi (fun hx => hy (h i hi hx))⟩
theorem Keeps.toGrown {X : Nat → Prop} {a b : World} (k : Keeps X a b) (h : ∀ i, i < a.heap.size → ¬ X i) : a.grownBy b none :=
  ⟨k.os, k.tape, k.output, k.size, fun i hi _ => k.block i hi (h i hi)⟩
theorem Keeps.fresh {X : Nat → Prop} {a b c : World} {g : Nat} (h : Keeps X a b) (k : b.grownBy c (some g)) (hg : a.heap.size ≤ g) : Keeps X a c :=
  h.then (Keeps.of (X := fun i => i = g) k (fun r e => by cases e; rfl)) (fun i e hi => by subst e; omega)
theorem Keeps.undrew {X : Nat → Prop} {a b : World} (h : Keeps X a.drew b) : Keeps X a b := ⟨h.os, h.tape, h.output, h.size, h.block⟩
theorem Keeps.drewk {X : Nat → Prop} {w : World} : Keeps X w w.drew := ⟨rfl, rfl, rfl, Nat.le_refl _, fun _ _ _ => rfl⟩
theorem keeps_cell {X : Nat → Prop} {w w' : World} {b o : Nat} {v : Value} (hg : Keeps X w w') (hc : w.cell? ⟨b, o, none⟩ = some v) (hn : ¬ X b) : w'.cell? ⟨b, o, none⟩ = some v := by
  have hb := hg.block b (World.block_lt_of_cell? w _ hc) hn
  rw [← hc]
  simp [World.cell?, hb]
theorem grown_new3 {a b c : World} {row : Option Nat} (h : a.grownBy b none) (k : b.grownBy c row) (hg : ∀ g, row = some g → a.heap.size ≤ g) : a.grownBy c none := by
  cases row with
  | none => exact h.trans k
  | some g => exact grown_new h k (hg g rfl)
theorem Src.keeps {X : Nat → Prop} {w w' : World} {a : Option Addr} {l : List UInt8} (h : Go.Proofs.Ytnglbneefkdfgaa.Src w a l) (hg : Keeps X w w') (hne : l ≠ [] → ∀ b o, a = some ⟨b, o, none⟩ → ¬ X b) : Go.Proofs.Ytnglbneefkdfgaa.Src w' a l := by
  by_cases he : l = []
  · exact .inl he
  rcases h with h | ⟨b, o, ha, hc⟩
  · exact .inl h
  · exact .inr ⟨b, o, ha, fun j hj => keeps_cell hg (hc j hj) (hne he b o ha)⟩
/-- A packet's bytes: they can be read, and lie in no block that may be written. -/
def Inn (M : Nat → Prop) (w : World) (v : Value) (l : List UInt8) : Prop :=
  ∃ a cap, v = .slice a l.length cap ∧ Go.Proofs.Ytnglbneefkdfgaa.Src w a l ∧ (l ≠ [] → ∀ b o, a = some ⟨b, o, none⟩ → ¬ M b)
variable {M M' : Nat → Prop} {w w' : World}
theorem Inn.keeps {v : Value} {l : List UInt8} {X : Nat → Prop} (h : Inn M w v l) (hg : Keeps X w w') (hx : ∀ k, k < w.heap.size → X k → M k) : Inn M w' v l := by
  obtain ⟨a, cap, rfl, hs, hn⟩ := h
  refine ⟨a, cap, rfl, ?_, hn⟩
  by_cases he : l = []
  · exact .inl he
  · exact hs.keeps hg (fun he b o e hxb => hn he b o e (hx b (Go.Proofs.Ytnglbneefkdfgaa.Src.lt (e ▸ hs) he) hxb))
/-- Blocks that are new may be written, too. -/
theorem Inn.more {v : Value} {l : List UInt8} (h : Inn M w v l) (hm : ∀ k, M' k → M k ∨ w.heap.size ≤ k) : Inn M' w v l := by
  obtain ⟨a, cap, rfl, hs, hn⟩ := h
  refine ⟨a, cap, rfl, hs, fun he b o e hb => (hm b hb).elim (hn he b o e) (fun h => ?_)⟩
  have := Go.Proofs.Ytnglbneefkdfgaa.Src.lt (e ▸ hs) he
  omega
theorem Inn.less {v : Value} {l : List UInt8} (h : Inn M w v l) (hm : ∀ k, M' k → M k) : Inn M' w v l := by
  obtain ⟨a, cap, rfl, hs, hn⟩ := h
  exact ⟨a, cap, rfl, hs, fun he b o e hb => hn he b o e (hm b hb)⟩
/-- Lists of packets, as the cells that hold them. -/
def BL (M : Nat → Prop) (w : World) (vs : List Value) (ls : List (List UInt8)) : Prop :=
  vs.length = ls.length ∧ ∀ j (h : j < ls.length), ∃ v, vs[j]? = some v ∧ Inn M w v (ls[j]'h)
def tot (ls : List (List UInt8)) : Nat := (ls.map List.length).sum
theorem tot_nil : tot [] = 0 := rfl
theorem tot_append (a b : List (List UInt8)) : tot (a ++ b) = tot a + tot b := by simp [tot]
theorem tot_one (a : List UInt8) : tot [a] = a.length := by simp [tot]
theorem tot_succ (ls : List (List UInt8)) (j : Nat) (h : j < ls.length) : tot (ls.take (j + 1)) = tot (ls.take j) + (ls[j]'h).length := by
  rw [List.take_succ_eq_append_getElem h, tot_append, tot_one]
theorem tot_le (ls : List (List UInt8)) (n : Nat) (h : ∀ l ∈ ls, l.length ≤ n) : tot ls ≤ n * ls.length := by
  induction ls with
  | nil => simp [tot]
  | cons a r ih =>
    have h1 := h a (List.mem_cons_self ..)
    have h2 := ih (fun l hl => h l (List.mem_cons_of_mem _ hl))
    simp only [tot, List.map_cons, List.sum_cons, List.length_cons] at *
    rw [Nat.mul_succ]
    omega
theorem tot_take_le (ls : List (List UInt8)) (j : Nat) : tot (ls.take j) ≤ tot ls := by
  have h := tot_append (ls.take j) (ls.drop j)
  rw [List.take_append_drop] at h
  omega
def PK (M : Nat → Prop) (w : World) (vs : List Value) (ls : List (List UInt8)) (f : Nat) : Prop :=
  vs.length = ls.length * 2 ∧ ∀ j (h : j < ls.length), (∃ v, vs[j * 2]? = some v ∧ Inn M w v (ls[j]'h)) ∧ vs[j * 2 + 1]? = some (.int .i64 ((f + tot (ls.take j) : Nat) : Int))
theorem BL.keeps {vs : List Value} {ls : List (List UInt8)} {X : Nat → Prop} (h : BL M w vs ls) (hg : Keeps X w w') (hx : ∀ k, k < w.heap.size → X k → M k) : BL M w' vs ls :=
  ⟨h.1, fun j hj => let ⟨v, h1, h2⟩ := h.2 j hj; ⟨v, h1, h2.keeps hg hx⟩⟩
theorem BL.more {vs : List Value} {ls : List (List UInt8)} (h : BL M w vs ls) (hm : ∀ k, M' k → M k ∨ w.heap.size ≤ k) : BL M' w vs ls :=
  ⟨h.1, fun j hj => let ⟨v, h1, h2⟩ := h.2 j hj; ⟨v, h1, h2.more hm⟩⟩
theorem BL.less {vs : List Value} {ls : List (List UInt8)} (h : BL M w vs ls) (hm : ∀ k, M' k → M k) : BL M' w vs ls :=
  ⟨h.1, fun j hj => let ⟨v, h1, h2⟩ := h.2 j hj; ⟨v, h1, h2.less hm⟩⟩
theorem PK.keeps {vs : List Value} {ls : List (List UInt8)} {f : Nat} {X : Nat → Prop} (h : PK M w vs ls f) (hg : Keeps X w w') (hx : ∀ k, k < w.heap.size → X k → M k) : PK M w' vs ls f :=
  ⟨h.1, fun j hj => let ⟨⟨v, h1, h2⟩, h3⟩ := h.2 j hj; ⟨⟨v, h1, h2.keeps hg hx⟩, h3⟩⟩
theorem PK.more {vs : List Value} {ls : List (List UInt8)} {f : Nat} (h : PK M w vs ls f) (hm : ∀ k, M' k → M k ∨ w.heap.size ≤ k) : PK M' w vs ls f :=
  ⟨h.1, fun j hj => let ⟨⟨v, h1, h2⟩, h3⟩ := h.2 j hj; ⟨⟨v, h1, h2.more hm⟩, h3⟩⟩
theorem PK.less {vs : List Value} {ls : List (List UInt8)} {f : Nat} (h : PK M w vs ls f) (hm : ∀ k, M' k → M k) : PK M' w vs ls f :=
  ⟨h.1, fun j hj => let ⟨⟨v, h1, h2⟩, h3⟩ := h.2 j hj; ⟨⟨v, h1, h2.less hm⟩, h3⟩⟩
theorem BL.nil : BL M w [] [] := ⟨rfl, fun j h => absurd h (by simp)⟩
theorem PK.nil (f : Nat) : PK M w [] [] f := ⟨rfl, fun j h => absurd h (by simp)⟩
theorem BL.snoc {vs : List Value} {ls : List (List UInt8)} {v : Value} {l : List UInt8} (h : BL M w vs ls) (hv : Inn M w v l) : BL M w (vs ++ [v]) (ls ++ [l]) := by
  refine ⟨by simp [h.1], fun j hj => ?_⟩
  rcases Nat.lt_or_ge j ls.length with hl | hl
  · obtain ⟨u, h1, h2⟩ := h.2 j hl
    refine ⟨u, ?_, ?_⟩
    · rw [List.getElem?_append_left (by rw [h.1]; exact hl)]; exact h1
    · rw [List.getElem_append_left hl]; exact h2
  · obtain rfl : j = ls.length := by simp at hj; omega
    refine ⟨v, ?_, ?_⟩
    · rw [← h.1]; simp
    · simpa using hv
theorem PK.snoc {vs : List Value} {ls : List (List UInt8)} {f : Nat} {v : Value} {l : List UInt8} (h : PK M w vs ls f) (hv : Inn M w v l) : PK M w (vs ++ [v, .int .i64 ((f + tot ls : Nat) : Int)]) (ls ++ [l]) f := by
  refine ⟨by simp [h.1]; omega, fun j hj => ?_⟩
  rcases Nat.lt_or_ge j ls.length with hl | hl
  · obtain ⟨⟨u, h1, h2⟩, h3⟩ := h.2 j hl
    have hlen := h.1
    refine ⟨⟨u, ?_, ?_⟩, ?_⟩
    · rw [List.getElem?_append_left (by omega)]; exact h1
    · rw [List.getElem_append_left hl]; exact h2
    · rw [List.getElem?_append_left (by omega), List.take_append_of_le_length (by omega)]; exact h3
  · obtain rfl : j = ls.length := by simp at hj; omega
    refine ⟨⟨v, ?_, ?_⟩, ?_⟩
    · rw [← h.1]; simp
    · simpa using hv
    · rw [← h.1]; simp
theorem PK.tail {vs : List Value} {ls : List (List UInt8)} {f : Nat} {l : List UInt8} (h : PK M w vs (l :: ls) f) : PK M w (vs.drop 2) ls (f + l.length) := by
  have hlen := h.1
  simp only [List.length_cons] at hlen
  refine ⟨by simp [hlen]; omega, fun j hj => ?_⟩
  obtain ⟨⟨u, h1, h2⟩, h3⟩ := h.2 (j + 1) (by simp; omega)
  refine ⟨⟨u, ?_, ?_⟩, ?_⟩
  · rw [List.getElem?_drop, ← h1]; congr 1; omega
  · simpa using h2
  · rw [List.getElem?_drop, show 2 + (j * 2 + 1) = (j + 1) * 2 + 1 from by omega, h3]
    congr 2
    simp [tot]
    omega
theorem BL.drop {vs : List Value} {ls : List (List UInt8)} (h : BL M w vs ls) (k : Nat) : BL M w (vs.drop k) (ls.drop k) := by
  refine ⟨by simp [h.1], fun j hj => ?_⟩
  simp at hj
  obtain ⟨u, h1, h2⟩ := h.2 (k + j) (by omega)
  exact ⟨u, by rw [List.getElem?_drop]; exact h1, by simpa using h2⟩
theorem BL.take {vs : List Value} {ls : List (List UInt8)} (h : BL M w vs ls) (k : Nat) : BL M w (vs.take k) (ls.take k) := by
  refine ⟨by simp [h.1], fun j hj => ?_⟩
  simp at hj
  obtain ⟨u, h1, h2⟩ := h.2 j (by omega)
  exact ⟨u, by rw [List.getElem?_take_of_lt (by omega)]; exact h1, by simpa using h2⟩
/-- What a net holds, by the document. -/
structure Nh where
  came : List (List UInt8)
  taken : Nat
  sent : List (List UInt8)
def Nh.zero : Nh := ⟨[], 0, []⟩
/-- The blocks of a net that it writes. -/
def own (c : Nc) (B : Nat) : Nat → Prop := fun k => k = B ∨ rowOf c.wv = some k ∨ rowOf c.sv = some k
structure NS (M : Nat → Prop) (w : World) (B : Nat) (c : Nc) (g : Nh) : Prop where
  nk : Nk w B c
  tk : g.taken ≤ g.came.length
  q : ∃ vs, Gs eP w c.wv (g.came.length - g.taken) vs ∧ PK M w vs (g.came.drop g.taken) (tot (g.came.take g.taken))
  s : ∃ vs, Gs eL w c.sv g.sent.length vs ∧ BL M w vs g.sent
  ni : c.nin = (tot g.came : Nat)
  no : c.nout = (tot g.sent : Nat)
  ow : ∀ k, own c B k → M k
theorem NS.lt {B : Nat} {c : Nc} {g : Nh} (h : NS M w B c g) : ∀ k, own c B k → k < w.heap.size := by
  obtain ⟨vs, h1, _⟩ := h.q
  obtain ⟨us, h2, _⟩ := h.s
  rintro k (rfl | hk | hk)
  · exact h.nk.lt
  · exact h1.lt k hk
  · exact h2.lt k hk
theorem NS.keeps {B : Nat} {c : Nc} {g : Nh} {X : Nat → Prop} (h : NS M w B c g) (hg : Keeps X w w') (hx : ∀ k, k < w.heap.size → X k → M k) (hne : ∀ k, own c B k → ¬ X k) : NS M w' B c g := by
  obtain ⟨vs, h1, h2⟩ := h.q
  obtain ⟨us, h3, h4⟩ := h.s
  exact ⟨h.nk.keeps hg (hne B (.inl rfl)), h.tk, ⟨vs, h1.keeps hg (fun k hk => hne k (.inr (.inl hk))), h2.keeps hg hx⟩, ⟨us, h3.keeps hg (fun k hk => hne k (.inr (.inr hk))), h4.keeps hg hx⟩, h.ni, h.no, h.ow⟩
theorem NS.keptNone {B : Nat} {c : Nc} {g : Nh} (h : NS M w B c g) (hg : w.grownBy w' none) : NS M w' B c g :=
  h.keeps (X := fun _ => False) (Keeps.keep hg) (fun _ _ h => h.elim) (fun _ _ => id)
theorem NS.drew {B : Nat} {c : Nc} {g : Nh} (h : NS M w B c g) : NS M w.drew B c g := h.keptNone ⟨rfl, rfl, rfl, Nat.le_refl _, fun _ _ _ => rfl⟩
theorem NS.more {B : Nat} {c : Nc} {g : Nh} (h : NS M w B c g) (hm : ∀ k, M k → M' k) (hm2 : ∀ k, M' k → M k ∨ w.heap.size ≤ k) : NS M' w B c g := by
  obtain ⟨vs, h1, h2⟩ := h.q
  obtain ⟨us, h3, h4⟩ := h.s
  exact ⟨h.nk, h.tk, ⟨vs, h1, h2.more hm2⟩, ⟨us, h3, h4.more hm2⟩, h.ni, h.no, fun k hk => hm k (h.ow k hk)⟩
/-- The document's net. -/
structure Rf where
  ca : Option Addr
  cn : Nat
  cc : Nat
  taken : Int
  sa : Option Addr
  sn : Nat
  sc : Nat
abbrev Rf.cells (r : Rf) : Array Value := #[.slice r.ca r.cn r.cc, .int .i64 r.taken, .slice r.sa r.sn r.sc]
abbrev Rf.val (r : Rf) : Value := .agg r.cells
def Rf.zero : Rf := ⟨none, 0, 0, 0, none, 0, 0⟩
structure RS (M : Nat → Prop) (w : World) (r : Rf) (g : Nh) : Prop where
  tkl : g.taken ≤ g.came.length
  p : ∃ vs, Gs eL w (.slice r.ca r.cn r.cc) g.came.length vs ∧ BL M w vs g.came
  tk : r.taken = (g.taken : Nat)
  t : ∃ vs, Gs eL w (.slice r.sa r.sn r.sc) g.sent.length vs ∧ BL M w vs g.sent
  rp : ∀ k, rowOf (.slice r.ca r.cn r.cc) = some k → ¬ M k
  rt : ∀ k, rowOf (.slice r.sa r.sn r.sc) = some k → ¬ M k
theorem RS.cn {r : Rf} {g : Nh} (h : RS M w r g) : r.cn = g.came.length := by
  obtain ⟨vs, h1, _⟩ := h.p
  obtain ⟨_, _, e, _⟩ := h1.shape
  injection e
theorem RS.sn {r : Rf} {g : Nh} (h : RS M w r g) : r.sn = g.sent.length := by
  obtain ⟨vs, h1, _⟩ := h.t
  obtain ⟨_, _, e, _⟩ := h1.shape
  injection e
theorem RS.keeps {r : Rf} {g : Nh} {X : Nat → Prop} (h : RS M w r g) (hg : Keeps X w w') (hx : ∀ k, k < w.heap.size → X k → M k) : RS M w' r g := by
  obtain ⟨vs, h1, h2⟩ := h.p
  obtain ⟨us, h3, h4⟩ := h.t
  exact ⟨h.tkl, ⟨vs, h1.keeps hg (fun k hk hxk => h.rp k hk (hx k (h1.lt k hk) hxk)), h2.keeps hg hx⟩, h.tk, ⟨us, h3.keeps hg (fun k hk hxk => h.rt k hk (hx k (h3.lt k hk) hxk)), h4.keeps hg hx⟩, h.rp, h.rt⟩
theorem RS.keptNone {r : Rf} {g : Nh} (h : RS M w r g) (hg : w.grownBy w' none) : RS M w' r g := h.keeps (X := fun _ => False) (Keeps.keep hg) (fun _ _ h => h.elim)
theorem RS.drew {r : Rf} {g : Nh} (h : RS M w r g) : RS M w.drew r g := h.keptNone ⟨rfl, rfl, rfl, Nat.le_refl _, fun _ _ _ => rfl⟩
theorem RS.more {r : Rf} {g : Nh} (h : RS M w r g) (hm2 : ∀ k, M' k → M k ∨ w.heap.size ≤ k) : RS M' w r g := by
  obtain ⟨vs, h1, h2⟩ := h.p
  obtain ⟨us, h3, h4⟩ := h.t
  exact ⟨h.tkl, ⟨vs, h1, h2.more hm2⟩, h.tk, ⟨us, h3, h4.more hm2⟩, fun k hk hmk => (hm2 k hmk).elim (h.rp k hk) (fun h5 => by have := h1.lt k hk; omega), fun k hk hmk => (hm2 k hmk).elim (h.rt k hk) (fun h5 => by have := h3.lt k hk; omega)⟩
theorem RS.less {r : Rf} {g : Nh} (h : RS M w r g) (hm2 : ∀ k, M' k → M k) : RS M' w r g := by
  obtain ⟨vs, h1, h2⟩ := h.p
  obtain ⟨us, h3, h4⟩ := h.t
  exact ⟨h.tkl, ⟨vs, h1, h2.less hm2⟩, h.tk, ⟨us, h3, h4.less hm2⟩, fun k hk hmk => h.rp k hk (hm2 k hmk), fun k hk hmk => h.rt k hk (hm2 k hmk)⟩
/-- What may be written behind a call. -/
def with_ (M : Nat → Prop) (X : Nat → Prop) : Nat → Prop := fun k => M k ∨ X k
structure LPost (M : Nat → Prop) (w w' : World) (B : Nat) (c c' : Nc) (g : Nh) : Prop where
  ns : NS (with_ M (own c' B)) w' B c' g
  keep : Keeps (own c B) w w'
  newl : ∀ k, own c' B k → own c B k ∨ w.heap.size ≤ k
end Go.Proofs.Ytnglbneefkdfgaa
