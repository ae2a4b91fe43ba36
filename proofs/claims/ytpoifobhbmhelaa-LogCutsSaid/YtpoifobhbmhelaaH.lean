import Derived.Test.YtpoifobhbmhelaaG
import Derived.Test.YtpoifobhbmhelaaD
set_option linter.unusedVariables false
set_option linter.unusedSimpArgs false
namespace Go.Proofs.Ytpoifobhbmhelaa
open Go.RowKit
abbrev rz : List Value := [.int .i64 0, .int .i64 0, .int .i64 0, .slice none 0 0]
theorem two_new (w : World) (a b : Obj) : w.grownBy ((w.alloc a).alloc b) none ∧ ((w.alloc a).alloc b).heap[w.heap.size]? = some a ∧ ((w.alloc a).alloc b).heap[w.heap.size + 1]? = some b := by
  refine ⟨(World.grownBy_alloc w a none).trans (World.grownBy_alloc _ b none), (heap_alloc_old (w.alloc a) b (by simp)).trans (heap_alloc_new w a), ?_⟩
  have := heap_alloc_new (w.alloc a) b
  rwa [World.size_alloc] at this
theorem results_c25 {fn : Func} {p : Tmp} (h : fn.results = #[.cell p 25]) (tmps : Array Value) (w : World) (g : Nat) (cs : Array Value) (hs : cs.size = 4)
    (hp : tmps.getD p undef = .pointer (some ⟨g, 0, none⟩)) (hg : w.heap[g]? = some (.cells cs 25 (0, 0))) : (results fn tmps).run Try.prog w = .ok (.agg cs) w := by
  have hp' : tmps[p]?.getD undef = .pointer (some ⟨g, 0, none⟩) := by simpa using hp
  have hl := run_loadVar_row (P := Try.prog) w g 25 25 cs (0, 0) _ hg Try.underlying25 rfl (by rw [hs]; exact Try.size25)
  simp [results, h, hp', asAddr, hl]
theorem results_c25t {fn : Func} {p t : Tmp} (h : fn.results = #[.cell p 25, .tmp t]) (tmps : Array Value) (w : World) (g : Nat) (cs : Array Value) (hs : cs.size = 4)
    (hp : tmps.getD p undef = .pointer (some ⟨g, 0, none⟩)) (hg : w.heap[g]? = some (.cells cs 25 (0, 0))) : (results fn tmps).run Try.prog w = .ok (.tuple #[.agg cs, tmps.getD t undef]) w := by
  have hp' : tmps[p]?.getD undef = .pointer (some ⟨g, 0, none⟩) := by simpa using hp
  have hl := run_loadVar_row (P := Try.prog) w g 25 25 cs (0, 0) _ hg Try.underlying25 rfl (by rw [hs]; exact Try.size25)
  simp [results, h, hp', asAddr, hl]
/-- A record's value. -/
abbrev rV (a k n : Int) (x : Option Addr) (m c : Nat) : Value := .agg #[.int .i64 a, .int .i64 k, .int .i64 n, .slice x m c]
/-- What 'record' does. -/
def RecDo (w : World) (o : Option Rc) (e : Ending) (w' : World) : Prop :=
  match o with
  | none => e = Pan 260 ∧ w.grownBy w' none
  | some r => ∃ x c, e = .returned (rV r.a r.k r.n x r.b.length c) ∧ Gs eB w' (.slice x r.b.length c) r.b.length (bsV r.b) ∧ w.grownBy w' none ∧ (∀ k, rowOf (.slice x r.b.length c) = some k → w.heap.size ≤ k)
theorem RecDo.no {w : World} {o : Option Rc} {w' : World} (h : o = none) (hg : w.grownBy w' none) : RecDo w o (Pan 260) w' := by subst h; exact ⟨rfl, hg⟩
theorem decB_nil (last : Int) : decB [] last = none := rfl
theorem decB_b1 {c : UInt8} {t : List UInt8} {last : Int} (h : ∀ y u, take t ≠ .num y u) : decB (c :: t) last = none := by
  unfold decB
  cases ht : take t with
  | num y u => exact absurd ht (h y u)
  | no => simp [ht]
  | soon => simp [ht]
theorem decB_b2 {c : UInt8} {t u : List UInt8} {y : Nat} {last : Int} (ht : take t = .num y u) (h : ∀ n v, take u ≠ .num n v) : decB (c :: t) last = none := by
  unfold decB
  cases hu : take u with
  | num n v => exact absurd hu (h n v)
  | no => simp [ht, hu]
  | soon => simp [ht, hu]
theorem decB_b3 {c : UInt8} {t u v : List UInt8} {y n : Nat} {last : Int} (ht : take t = .num y u) (hu : take u = .num n v) (h : ¬ (((y : Int) ≤ 4611686018427387904 - last ∧ n < 65536) ∧ (Rt (last + y) c.toNat n v.length ∨ (c.toNat = 8 ∧ n = 0 ∧ v.length = 0)))) : decB (c :: t) last = none := by
  unfold decB
  simp only [ht, hu]
  rw [if_neg h]
theorem decB_ok {c : UInt8} {t u v : List UInt8} {y n : Nat} {last : Int} (ht : take t = .num y u) (hu : take u = .num n v) (h : ((y : Int) ≤ 4611686018427387904 - last ∧ n < 65536) ∧ (Rt (last + y) c.toNat n v.length ∨ (c.toNat = 8 ∧ n = 0 ∧ v.length = 0))) : decB (c :: t) last = some ⟨last + y, c.toNat, n, v⟩ := by
  unfold decB
  simp only [ht, hu]
  rw [if_pos h]
theorem record_nil (x : Option Addr) (cap : Nat) (last : Int) (w : World) : Calls Try.prog 36 #[.slice x 0 cap, .int .i64 last] w fun e w' => e = Pan 260 ∧ w.grownBy w' none := by
  have HG := Lib.hid (two_new w (.cells #[.slice x 0 cap] 23) (.cells rz.toArray 25)).1
  go_enter Try.func36, Try.ntmps36
  go_wp2_with fail
  refine (must_no _ _).mono ?_; rintro e w2 ⟨rfl, rfl⟩
  go_wp2
  exact ⟨rfl, rfl, HG.out⟩
theorem lf_set {W : World} {S n cap0 : Nat} {x0 x : Option Addr} {cap : Nat} {r : List UInt8} (hb : W.heap[S]? = some (.cells #[.slice x0 n cap0] 23 (0, 0))) (hs : Go.Proofs.Ytpoifobhbmhelaa.Src W x r) (hne : ∀ b o, x = some ⟨b, o, none⟩ → r ≠ [] → b ≠ S) (hc : r.length ≤ cap) : Lf (W.setCell ⟨S, 0, none⟩ (.slice x r.length cap)) S x cap r := by
  have hg := grown_setCell W S 0 (.slice x r.length cap)
  refine ⟨?_, hc, hne, heap_setCell_at _ hb⟩
  rcases hs with h | ⟨b, o, ha, hcl⟩
  · exact .inl h
  · by_cases hr : r = []
    · exact .inl hr
    · exact .inr ⟨b, o, ha, fun j hj => hg.cell (hcl j hj) (fun e => hne b o ha hr (by simpa using e))⟩
/-- The variables of 'record', in its middle. -/
structure Rs (w W : World) (S T : Nat) (x : Option Addr) (cap : Nat) (l : List UInt8) (cs : List Value) : Prop where
  lf : Lf W S x cap l
  r : W.heap[S + 1]? = some (.cells rz.toArray 25 (0, 0))
  t : W.heap[T]? = some (.cells cs.toArray 25 (0, 0))
  g : w.grownBy W none
theorem Rs.kept {w W W' : World} {S T : Nat} {x : Option Addr} {cap : Nat} {l : List UInt8} {cs : List Value} (h : Rs w W S T x cap l cs) (hg : W.grownBy W' none) : Rs w W' S T x cap l cs :=
  ⟨⟨h.lf.s.keptNone hg, h.lf.c, h.lf.n, keep_blk hg h.lf.b⟩, keep_blk hg h.r, keep_blk hg h.t, h.g.trans hg⟩
theorem Rs.step {w W W' : World} {S T : Nat} {x x' : Option Addr} {cap cap' : Nat} {l l' : List UInt8} {cs : List Value} (h : Rs w W S T x cap l cs) (hS : w.heap.size ≤ S) (hT : T ≠ S) (hl : Lf W' S x' cap' l') (hg : W.grownBy W' (some S)) : Rs w W' S T x' cap' l' cs :=
  ⟨hl, (hg.block _ (lt_of_block h.r) (by simp)).trans h.r, (hg.block _ (lt_of_block h.t) (by simpa using hT)).trans h.t, grown_new h.g hg hS⟩
set_option maxRecDepth 100000 in
set_option maxHeartbeats 4000000 in
theorem record_b1no (x : Option Addr) (cap : Nat) (c : UInt8) (t : List UInt8) (last : Int) (w : World) (hs : Go.Proofs.Ytpoifobhbmhelaa.Src w x (c :: t)) (hcap : (c :: t).length ≤ cap) (hl : (c :: t).length ≤ 1000000) (h0 : 0 ≤ last) (h1 : last ≤ 4611686018427387904) (ht : take t = .no) : Calls Try.prog 36 #[.slice x (c :: t).length cap, .int .i64 last] w fun e w' => RecDo w (decB (c :: t) last) e w' := by
  rw [decB_b1 (fun y u h => by rw [ht] at h; cases h)]
  obtain ⟨n, hn⟩ : ∃ n, n = (c :: t).length := ⟨_, rfl⟩
  have HN1 := Lib.hid (show n - 1 = t.length from by simp [hn])
  have hn1 : 1 ≤ n := by simp [hn]
  have hpos : 0 < n := hn1
  obtain ⟨b, o, hx, hc⟩ := src_some hs (by simp)
  obtain ⟨x1, cap1, hsl, hc1, hs1⟩ := src_from hs hcap 1 (by simp)
  have hb0 : b < w.heap.size := Go.Proofs.Ytpoifobhbmhelaa.Src.lt (hx ▸ hs) (by simp)
  rw [← hn] at hsl hc1 ⊢
  have hs1' : Go.Proofs.Ytpoifobhbmhelaa.Src w x1 t := by simpa using hs1
  have HX1 := Lib.hid (show ∀ b' o', x1 = some ⟨b', o', none⟩ → t ≠ [] → b' ≠ w.heap.size from fun b' o' e hne => by
    have := Go.Proofs.Ytpoifobhbmhelaa.Src.lt (e ▸ hs1') hne
    omega)
  obtain ⟨d, hd⟩ : ∃ d : Nat, d = c.toNat := ⟨_, rfl⟩
  obtain ⟨HG, HB0, HR0⟩ := two_new w (.cells #[.slice x n cap] 23) (.cells rz.toArray 25)
  have hd256 : d < 256 := by rw [hd]; exact c.toNat_lt
  have hcd : w.cell? ⟨b, o, none⟩ = some (.int .u8 (d : Int)) := by rw [hd]; exact hc 0 (by simp)
  have hcW := keep_cell HG hcd
  have HSL := Lib.hid hsl
  have HS1 := Lib.hid hs1'
  have HC1 := Lib.hid hc1
  have HN := Lib.hid hn
  have HD := Lib.hid hd
  have HHG := Lib.hid HG
  have HHB := Lib.hid HB0
  have HHR := Lib.hid HR0
  have HL := Lib.hid hl
  have HH0 := Lib.hid h0
  have HH1 := Lib.hid h1
  subst hx
  clear hs hcap hl h0 h1 hsl hc1 hs1 hs1' hc hn hd hcd HG HB0 HR0 hb0
  go_enter Try.func36, Try.ntmps36
  go_wp2_with fail
  refine (must_yes _ _).mono ?_; rintro e w2 ⟨⟨v, rfl⟩, rfl⟩
  obtain ⟨W0, hW0⟩ : ∃ W0, W0 = (w.alloc (.cells #[.slice (some ⟨b, o, none⟩) n cap] 23)).alloc (.cells rz.toArray 25) := ⟨_, rfl⟩
  have HW0 := Lib.hid (show W0.heap.size = w.heap.size + 1 + 1 from by rw [hW0]; simp)
  rw [← hW0] at HHG HHB HHR hcW ⊢
  clear hW0
  have q0 : W0.cell? ⟨w.heap.size, 0, none⟩ = some (.slice (some ⟨b, o, none⟩) n cap) := cells_all HHB.out 0
  have HA := Lib.hid (heap_alloc_new W0 (.cells rz.toArray 25))
  have HAG := Lib.hid (World.grownBy_alloc W0 (.cells rz.toArray 25) none)
  go_wp2_with (with_reducible refine hold_st 25 _ _ rfl ?_)
  apply Lib.hid
  with_reducible refine wpList_store_all rfl 25 _ _ rfl _ ?cs1 ?hx1 ?hy1 _ _ HA.out ?hf1 _ ?hl1 Try.size25 ?h11 ?_
  case hy1 => exact rfl
  case hx1 => exact rfl
  case hf1 => exact rfl
  case hl1 => exact rfl
  case h11 => simp [allOne, Value.oneCell']
  intro w3 hb3 hg3
  have HB3 := Lib.hid ((hg3.block w.heap.size (by have := lt_of_block (keep_blk HAG.out HHB.out); exact this) (by have := HW0.out; simp; omega)).trans (keep_blk HAG.out HHB.out))
  have HR3 := Lib.hid ((hg3.block (w.heap.size + 1) (by have := lt_of_block (keep_blk HAG.out HHR.out); exact this) (by have := HW0.out; simp; omega)).trans (keep_blk HAG.out HHR.out))
  have HT3 := Lib.hid (show w3.heap[W0.heap.size]? = some (.cells ([.int .i64 0, .int .i64 (d : Nat), .int .i64 0, .slice none 0 0] : List Value).toArray 25 (0, 0)) from hb3)
  have HG3 := Lib.hid (grown_new3 (HHG.out.trans HAG.out) hg3 (fun g e => by cases e; have := HW0.out; omega))
  clear hb3 hg3 q0 hcW
  have q1 : w3.cell? ⟨w.heap.size, 0, none⟩ = some (.slice (some ⟨b, o, none⟩) n cap) := cells_all HB3.out 0
  have q2 : w3.frozen? ⟨w.heap.size, 0, none⟩ = false := frozen_all HB3.out 0
  go_wp2_with (with_reducible refine hold_sl 23 _ _ _ _ rfl ?_)
  apply Lib.hid
  refine wpList_val (by rfl) (exec_sl eB elemB (x := .tmp 18) (y := .const (.int .i64 1)) rfl (some ⟨b, o, none⟩) n cap 1 (by rfl) (by rfl) hn1 _ (.slice x1 (n - 1) cap1) HSL.out.symm) ?_
  go_wp2_with fail
  have hs3 := lf_set (x := x1) (cap := cap1) (r := t) HB3.out (HS1.out.keptNone HG3.out) HX1.out (by rw [← HN1.out]; exact HC1.out)
  rw [← HN1.out] at hs3
  have hg3 := grown_setCell w3 w.heap.size 0 (.slice x1 (n - 1) cap1)
  have HS3 := Lib.hid (show Rs w (w3.setCell ⟨w.heap.size, 0, none⟩ (.slice x1 (n - 1) cap1)) w.heap.size W0.heap.size x1 cap1 t [.int .i64 0, .int .i64 (d : Nat), .int .i64 0, .slice none 0 0] from
    ⟨hs3, (hg3.block _ (lt_of_block HR3.out) (by simp)).trans HR3.out, (hg3.block _ (lt_of_block HT3.out) (by have := HW0.out; simp; omega)).trans HT3.out, grown_new HG3.out hg3 (Nat.le_refl _)⟩)
  have HTS := Lib.hid (show W0.heap.size ≠ w.heap.size from by have := HW0.out; omega)
  have HTS1 := Lib.hid (show W0.heap.size ≠ w.heap.size + 1 from by have := HW0.out; omega)
  have HLT := Lib.hid (show t.length ≤ 1000000 from by have := HL.out; simp at this; omega)
  clear hs3 hg3 HB3 HR3 HT3 HG3 HA HAG HHG HHB HHR HSL HX1 HC1 HS1 q1 q2
  obtain ⟨T, hT⟩ : ∃ T, T = W0.heap.size := ⟨_, rfl⟩
  rw [← hT] at HS3 HTS HTS1 ⊢
  clear hT HW0
  refine (reader_ex w.heap.size 260 260 _).mono ?_; rintro e w4 ⟨C1, C2, C3, rfl, hg4, hC1, hC2, hC3⟩
  have HRD4 := Lib.hid (Rd.mk hC1 hC2 hC3)
  have HS4 := Lib.hid (HS3.out.kept hg4)
  clear hg4 hC1 hC2 hC3 HS3
  go_wp2_with fail
  refine (next_no HRD4.out HS4.out.lf HLT.out ht).mono ?_; rintro e w9 ⟨rfl, hg9⟩
  go_wp2
  exact ⟨rfl, rfl, HS4.out.g.trans hg9⟩
set_option maxRecDepth 100000 in
set_option maxHeartbeats 4000000 in
theorem record_b2no (x : Option Addr) (cap : Nat) (c : UInt8) (t : List UInt8) (last : Int) (w : World) (hs : Go.Proofs.Ytpoifobhbmhelaa.Src w x (c :: t)) (hcap : (c :: t).length ≤ cap) (hl : (c :: t).length ≤ 1000000) (h0 : 0 ≤ last) (h1 : last ≤ 4611686018427387904) (y : Nat) (u : List UInt8) (ht : take t = .num y u) (hu : take u = .no) : Calls Try.prog 36 #[.slice x (c :: t).length cap, .int .i64 last] w fun e w' => RecDo w (decB (c :: t) last) e w' := by
  rw [decB_b2 ht (fun n v h => by rw [hu] at h; cases h)]
  have HU := Lib.hid (take_lt ht)
  have HTK := Lib.hid ht
  have HUK := Lib.hid hu
  clear ht hu
  obtain ⟨n, hn⟩ : ∃ n, n = (c :: t).length := ⟨_, rfl⟩
  have HN1 := Lib.hid (show n - 1 = t.length from by simp [hn])
  have hn1 : 1 ≤ n := by simp [hn]
  have hpos : 0 < n := hn1
  obtain ⟨b, o, hx, hc⟩ := src_some hs (by simp)
  obtain ⟨x1, cap1, hsl, hc1, hs1⟩ := src_from hs hcap 1 (by simp)
  have hb0 : b < w.heap.size := Go.Proofs.Ytpoifobhbmhelaa.Src.lt (hx ▸ hs) (by simp)
  rw [← hn] at hsl hc1 ⊢
  have hs1' : Go.Proofs.Ytpoifobhbmhelaa.Src w x1 t := by simpa using hs1
  have HX1 := Lib.hid (show ∀ b' o', x1 = some ⟨b', o', none⟩ → t ≠ [] → b' ≠ w.heap.size from fun b' o' e hne => by
    have := Go.Proofs.Ytpoifobhbmhelaa.Src.lt (e ▸ hs1') hne
    omega)
  obtain ⟨d, hd⟩ : ∃ d : Nat, d = c.toNat := ⟨_, rfl⟩
  obtain ⟨HG, HB0, HR0⟩ := two_new w (.cells #[.slice x n cap] 23) (.cells rz.toArray 25)
  have hd256 : d < 256 := by rw [hd]; exact c.toNat_lt
  have hcd : w.cell? ⟨b, o, none⟩ = some (.int .u8 (d : Int)) := by rw [hd]; exact hc 0 (by simp)
  have hcW := keep_cell HG hcd
  have HSL := Lib.hid hsl
  have HS1 := Lib.hid hs1'
  have HC1 := Lib.hid hc1
  have HN := Lib.hid hn
  have HD := Lib.hid hd
  have HHG := Lib.hid HG
  have HHB := Lib.hid HB0
  have HHR := Lib.hid HR0
  have HL := Lib.hid hl
  have HH0 := Lib.hid h0
  have HH1 := Lib.hid h1
  subst hx
  clear hs hcap hl h0 h1 hsl hc1 hs1 hs1' hc hn hd hcd HG HB0 HR0 hb0
  go_enter Try.func36, Try.ntmps36
  go_wp2_with fail
  refine (must_yes _ _).mono ?_; rintro e w2 ⟨⟨v, rfl⟩, rfl⟩
  obtain ⟨W0, hW0⟩ : ∃ W0, W0 = (w.alloc (.cells #[.slice (some ⟨b, o, none⟩) n cap] 23)).alloc (.cells rz.toArray 25) := ⟨_, rfl⟩
  have HW0 := Lib.hid (show W0.heap.size = w.heap.size + 1 + 1 from by rw [hW0]; simp)
  rw [← hW0] at HHG HHB HHR hcW ⊢
  clear hW0
  have q0 : W0.cell? ⟨w.heap.size, 0, none⟩ = some (.slice (some ⟨b, o, none⟩) n cap) := cells_all HHB.out 0
  have HA := Lib.hid (heap_alloc_new W0 (.cells rz.toArray 25))
  have HAG := Lib.hid (World.grownBy_alloc W0 (.cells rz.toArray 25) none)
  go_wp2_with (with_reducible refine hold_st 25 _ _ rfl ?_)
  apply Lib.hid
  with_reducible refine wpList_store_all rfl 25 _ _ rfl _ ?cs1 ?hx1 ?hy1 _ _ HA.out ?hf1 _ ?hl1 Try.size25 ?h11 ?_
  case hy1 => exact rfl
  case hx1 => exact rfl
  case hf1 => exact rfl
  case hl1 => exact rfl
  case h11 => simp [allOne, Value.oneCell']
  intro w3 hb3 hg3
  have HB3 := Lib.hid ((hg3.block w.heap.size (by have := lt_of_block (keep_blk HAG.out HHB.out); exact this) (by have := HW0.out; simp; omega)).trans (keep_blk HAG.out HHB.out))
  have HR3 := Lib.hid ((hg3.block (w.heap.size + 1) (by have := lt_of_block (keep_blk HAG.out HHR.out); exact this) (by have := HW0.out; simp; omega)).trans (keep_blk HAG.out HHR.out))
  have HT3 := Lib.hid (show w3.heap[W0.heap.size]? = some (.cells ([.int .i64 0, .int .i64 (d : Nat), .int .i64 0, .slice none 0 0] : List Value).toArray 25 (0, 0)) from hb3)
  have HG3 := Lib.hid (grown_new3 (HHG.out.trans HAG.out) hg3 (fun g e => by cases e; have := HW0.out; omega))
  clear hb3 hg3 q0 hcW
  have q1 : w3.cell? ⟨w.heap.size, 0, none⟩ = some (.slice (some ⟨b, o, none⟩) n cap) := cells_all HB3.out 0
  have q2 : w3.frozen? ⟨w.heap.size, 0, none⟩ = false := frozen_all HB3.out 0
  go_wp2_with (with_reducible refine hold_sl 23 _ _ _ _ rfl ?_)
  apply Lib.hid
  refine wpList_val (by rfl) (exec_sl eB elemB (x := .tmp 18) (y := .const (.int .i64 1)) rfl (some ⟨b, o, none⟩) n cap 1 (by rfl) (by rfl) hn1 _ (.slice x1 (n - 1) cap1) HSL.out.symm) ?_
  go_wp2_with fail
  have hs3 := lf_set (x := x1) (cap := cap1) (r := t) HB3.out (HS1.out.keptNone HG3.out) HX1.out (by rw [← HN1.out]; exact HC1.out)
  rw [← HN1.out] at hs3
  have hg3 := grown_setCell w3 w.heap.size 0 (.slice x1 (n - 1) cap1)
  have HS3 := Lib.hid (show Rs w (w3.setCell ⟨w.heap.size, 0, none⟩ (.slice x1 (n - 1) cap1)) w.heap.size W0.heap.size x1 cap1 t [.int .i64 0, .int .i64 (d : Nat), .int .i64 0, .slice none 0 0] from
    ⟨hs3, (hg3.block _ (lt_of_block HR3.out) (by simp)).trans HR3.out, (hg3.block _ (lt_of_block HT3.out) (by have := HW0.out; simp; omega)).trans HT3.out, grown_new HG3.out hg3 (Nat.le_refl _)⟩)
  have HTS := Lib.hid (show W0.heap.size ≠ w.heap.size from by have := HW0.out; omega)
  have HTS1 := Lib.hid (show W0.heap.size ≠ w.heap.size + 1 from by have := HW0.out; omega)
  have HLT := Lib.hid (show t.length ≤ 1000000 from by have := HL.out; simp at this; omega)
  clear hs3 hg3 HB3 HR3 HT3 HG3 HA HAG HHG HHB HHR HSL HX1 HC1 HS1 q1 q2
  obtain ⟨T, hT⟩ : ∃ T, T = W0.heap.size := ⟨_, rfl⟩
  rw [← hT] at HS3 HTS HTS1 ⊢
  clear hT HW0
  refine (reader_ex w.heap.size 260 260 _).mono ?_; rintro e w4 ⟨C1, C2, C3, rfl, hg4, hC1, hC2, hC3⟩
  have HRD4 := Lib.hid (Rd.mk hC1 hC2 hC3)
  have HS4 := Lib.hid (HS3.out.kept hg4)
  clear hg4 hC1 hC2 hC3 HS3
  go_wp2_with fail
  refine (next_num HRD4.out HS4.out.lf HLT.out HTK.out).mono ?_; rintro e w5 ⟨x5, cap5, rfl, hlf, hgx, hrd⟩
  have HRD5 := Lib.hid hrd
  have HS5 := Lib.hid (HS4.out.step (Nat.le_refl _) HTS.out hlf hgx)
  clear hlf hgx hrd HS4 HRD4
  go_wp2_with fail
  refine (next_no HRD5.out HS5.out.lf (by have := HLT.out; have := HU.out; omega) HUK.out).mono ?_; rintro e w9 ⟨rfl, hg9⟩
  go_wp2
  exact ⟨rfl, rfl, HS5.out.g.trans hg9⟩
set_option maxRecDepth 100000 in
set_option maxHeartbeats 4000000 in
theorem record_b1soon (x : Option Addr) (cap : Nat) (c : UInt8) (t : List UInt8) (last : Int) (w : World) (hs : Go.Proofs.Ytpoifobhbmhelaa.Src w x (c :: t)) (hcap : (c :: t).length ≤ cap) (hl : (c :: t).length ≤ 1000000) (h0 : 0 ≤ last) (h1 : last ≤ 4611686018427387904) (ht : take t = .soon) : Calls Try.prog 36 #[.slice x (c :: t).length cap, .int .i64 last] w fun e w' => RecDo w (decB (c :: t) last) e w' := by
  rw [decB_b1 (fun y u h => by rw [ht] at h; cases h)]
  obtain ⟨n, hn⟩ : ∃ n, n = (c :: t).length := ⟨_, rfl⟩
  have HN1 := Lib.hid (show n - 1 = t.length from by simp [hn])
  have hn1 : 1 ≤ n := by simp [hn]
  have hpos : 0 < n := hn1
  obtain ⟨b, o, hx, hc⟩ := src_some hs (by simp)
  obtain ⟨x1, cap1, hsl, hc1, hs1⟩ := src_from hs hcap 1 (by simp)
  have hb0 : b < w.heap.size := Go.Proofs.Ytpoifobhbmhelaa.Src.lt (hx ▸ hs) (by simp)
  rw [← hn] at hsl hc1 ⊢
  have hs1' : Go.Proofs.Ytpoifobhbmhelaa.Src w x1 t := by simpa using hs1
  have HX1 := Lib.hid (show ∀ b' o', x1 = some ⟨b', o', none⟩ → t ≠ [] → b' ≠ w.heap.size from fun b' o' e hne => by
    have := Go.Proofs.Ytpoifobhbmhelaa.Src.lt (e ▸ hs1') hne
    omega)
  obtain ⟨d, hd⟩ : ∃ d : Nat, d = c.toNat := ⟨_, rfl⟩
  obtain ⟨HG, HB0, HR0⟩ := two_new w (.cells #[.slice x n cap] 23) (.cells rz.toArray 25)
  have hd256 : d < 256 := by rw [hd]; exact c.toNat_lt
  have hcd : w.cell? ⟨b, o, none⟩ = some (.int .u8 (d : Int)) := by rw [hd]; exact hc 0 (by simp)
  have hcW := keep_cell HG hcd
  have HSL := Lib.hid hsl
  have HS1 := Lib.hid hs1'
  have HC1 := Lib.hid hc1
  have HN := Lib.hid hn
  have HD := Lib.hid hd
  have HHG := Lib.hid HG
  have HHB := Lib.hid HB0
  have HHR := Lib.hid HR0
  have HL := Lib.hid hl
  have HH0 := Lib.hid h0
  have HH1 := Lib.hid h1
  subst hx
  clear hs hcap hl h0 h1 hsl hc1 hs1 hs1' hc hn hd hcd HG HB0 HR0 hb0
  go_enter Try.func36, Try.ntmps36
  go_wp2_with fail
  refine (must_yes _ _).mono ?_; rintro e w2 ⟨⟨v, rfl⟩, rfl⟩
  obtain ⟨W0, hW0⟩ : ∃ W0, W0 = (w.alloc (.cells #[.slice (some ⟨b, o, none⟩) n cap] 23)).alloc (.cells rz.toArray 25) := ⟨_, rfl⟩
  have HW0 := Lib.hid (show W0.heap.size = w.heap.size + 1 + 1 from by rw [hW0]; simp)
  rw [← hW0] at HHG HHB HHR hcW ⊢
  clear hW0
  have q0 : W0.cell? ⟨w.heap.size, 0, none⟩ = some (.slice (some ⟨b, o, none⟩) n cap) := cells_all HHB.out 0
  have HA := Lib.hid (heap_alloc_new W0 (.cells rz.toArray 25))
  have HAG := Lib.hid (World.grownBy_alloc W0 (.cells rz.toArray 25) none)
  go_wp2_with (with_reducible refine hold_st 25 _ _ rfl ?_)
  apply Lib.hid
  with_reducible refine wpList_store_all rfl 25 _ _ rfl _ ?cs1 ?hx1 ?hy1 _ _ HA.out ?hf1 _ ?hl1 Try.size25 ?h11 ?_
  case hy1 => exact rfl
  case hx1 => exact rfl
  case hf1 => exact rfl
  case hl1 => exact rfl
  case h11 => simp [allOne, Value.oneCell']
  intro w3 hb3 hg3
  have HB3 := Lib.hid ((hg3.block w.heap.size (by have := lt_of_block (keep_blk HAG.out HHB.out); exact this) (by have := HW0.out; simp; omega)).trans (keep_blk HAG.out HHB.out))
  have HR3 := Lib.hid ((hg3.block (w.heap.size + 1) (by have := lt_of_block (keep_blk HAG.out HHR.out); exact this) (by have := HW0.out; simp; omega)).trans (keep_blk HAG.out HHR.out))
  have HT3 := Lib.hid (show w3.heap[W0.heap.size]? = some (.cells ([.int .i64 0, .int .i64 (d : Nat), .int .i64 0, .slice none 0 0] : List Value).toArray 25 (0, 0)) from hb3)
  have HG3 := Lib.hid (grown_new3 (HHG.out.trans HAG.out) hg3 (fun g e => by cases e; have := HW0.out; omega))
  clear hb3 hg3 q0 hcW
  have q1 : w3.cell? ⟨w.heap.size, 0, none⟩ = some (.slice (some ⟨b, o, none⟩) n cap) := cells_all HB3.out 0
  have q2 : w3.frozen? ⟨w.heap.size, 0, none⟩ = false := frozen_all HB3.out 0
  go_wp2_with (with_reducible refine hold_sl 23 _ _ _ _ rfl ?_)
  apply Lib.hid
  refine wpList_val (by rfl) (exec_sl eB elemB (x := .tmp 18) (y := .const (.int .i64 1)) rfl (some ⟨b, o, none⟩) n cap 1 (by rfl) (by rfl) hn1 _ (.slice x1 (n - 1) cap1) HSL.out.symm) ?_
  go_wp2_with fail
  have hs3 := lf_set (x := x1) (cap := cap1) (r := t) HB3.out (HS1.out.keptNone HG3.out) HX1.out (by rw [← HN1.out]; exact HC1.out)
  rw [← HN1.out] at hs3
  have hg3 := grown_setCell w3 w.heap.size 0 (.slice x1 (n - 1) cap1)
  have HS3 := Lib.hid (show Rs w (w3.setCell ⟨w.heap.size, 0, none⟩ (.slice x1 (n - 1) cap1)) w.heap.size W0.heap.size x1 cap1 t [.int .i64 0, .int .i64 (d : Nat), .int .i64 0, .slice none 0 0] from
    ⟨hs3, (hg3.block _ (lt_of_block HR3.out) (by simp)).trans HR3.out, (hg3.block _ (lt_of_block HT3.out) (by have := HW0.out; simp; omega)).trans HT3.out, grown_new HG3.out hg3 (Nat.le_refl _)⟩)
  have HTS := Lib.hid (show W0.heap.size ≠ w.heap.size from by have := HW0.out; omega)
  have HTS1 := Lib.hid (show W0.heap.size ≠ w.heap.size + 1 from by have := HW0.out; omega)
  have HLT := Lib.hid (show t.length ≤ 1000000 from by have := HL.out; simp at this; omega)
  clear hs3 hg3 HB3 HR3 HT3 HG3 HA HAG HHG HHB HHR HSL HX1 HC1 HS1 q1 q2
  obtain ⟨T, hT⟩ : ∃ T, T = W0.heap.size := ⟨_, rfl⟩
  rw [← hT] at HS3 HTS HTS1 ⊢
  clear hT HW0
  refine (reader_ex w.heap.size 260 260 _).mono ?_; rintro e w4 ⟨C1, C2, C3, rfl, hg4, hC1, hC2, hC3⟩
  have HRD4 := Lib.hid (Rd.mk hC1 hC2 hC3)
  have HS4 := Lib.hid (HS3.out.kept hg4)
  clear hg4 hC1 hC2 hC3 HS3
  go_wp2_with fail
  refine (next_soon HRD4.out HS4.out.lf HLT.out ht).mono ?_; rintro e w9 ⟨rfl, hg9⟩
  go_wp2
  exact ⟨rfl, rfl, HS4.out.g.trans hg9⟩
set_option maxRecDepth 100000 in
set_option maxHeartbeats 4000000 in
theorem record_b2soon (x : Option Addr) (cap : Nat) (c : UInt8) (t : List UInt8) (last : Int) (w : World) (hs : Go.Proofs.Ytpoifobhbmhelaa.Src w x (c :: t)) (hcap : (c :: t).length ≤ cap) (hl : (c :: t).length ≤ 1000000) (h0 : 0 ≤ last) (h1 : last ≤ 4611686018427387904) (y : Nat) (u : List UInt8) (ht : take t = .num y u) (hu : take u = .soon) : Calls Try.prog 36 #[.slice x (c :: t).length cap, .int .i64 last] w fun e w' => RecDo w (decB (c :: t) last) e w' := by
  rw [decB_b2 ht (fun n v h => by rw [hu] at h; cases h)]
  have HU := Lib.hid (take_lt ht)
  have HTK := Lib.hid ht
  have HUK := Lib.hid hu
  clear ht hu
  obtain ⟨n, hn⟩ : ∃ n, n = (c :: t).length := ⟨_, rfl⟩
  have HN1 := Lib.hid (show n - 1 = t.length from by simp [hn])
  have hn1 : 1 ≤ n := by simp [hn]
  have hpos : 0 < n := hn1
  obtain ⟨b, o, hx, hc⟩ := src_some hs (by simp)
  obtain ⟨x1, cap1, hsl, hc1, hs1⟩ := src_from hs hcap 1 (by simp)
  have hb0 : b < w.heap.size := Go.Proofs.Ytpoifobhbmhelaa.Src.lt (hx ▸ hs) (by simp)
  rw [← hn] at hsl hc1 ⊢
  have hs1' : Go.Proofs.Ytpoifobhbmhelaa.Src w x1 t := by simpa using hs1
  have HX1 := Lib.hid (show ∀ b' o', x1 = some ⟨b', o', none⟩ → t ≠ [] → b' ≠ w.heap.size from fun b' o' e hne => by
    have := Go.Proofs.Ytpoifobhbmhelaa.Src.lt (e ▸ hs1') hne
    omega)
  obtain ⟨d, hd⟩ : ∃ d : Nat, d = c.toNat := ⟨_, rfl⟩
  obtain ⟨HG, HB0, HR0⟩ := two_new w (.cells #[.slice x n cap] 23) (.cells rz.toArray 25)
  have hd256 : d < 256 := by rw [hd]; exact c.toNat_lt
  have hcd : w.cell? ⟨b, o, none⟩ = some (.int .u8 (d : Int)) := by rw [hd]; exact hc 0 (by simp)
  have hcW := keep_cell HG hcd
  have HSL := Lib.hid hsl
  have HS1 := Lib.hid hs1'
  have HC1 := Lib.hid hc1
  have HN := Lib.hid hn
  have HD := Lib.hid hd
  have HHG := Lib.hid HG
  have HHB := Lib.hid HB0
  have HHR := Lib.hid HR0
  have HL := Lib.hid hl
  have HH0 := Lib.hid h0
  have HH1 := Lib.hid h1
  subst hx
  clear hs hcap hl h0 h1 hsl hc1 hs1 hs1' hc hn hd hcd HG HB0 HR0 hb0
  go_enter Try.func36, Try.ntmps36
  go_wp2_with fail
  refine (must_yes _ _).mono ?_; rintro e w2 ⟨⟨v, rfl⟩, rfl⟩
  obtain ⟨W0, hW0⟩ : ∃ W0, W0 = (w.alloc (.cells #[.slice (some ⟨b, o, none⟩) n cap] 23)).alloc (.cells rz.toArray 25) := ⟨_, rfl⟩
  have HW0 := Lib.hid (show W0.heap.size = w.heap.size + 1 + 1 from by rw [hW0]; simp)
  rw [← hW0] at HHG HHB HHR hcW ⊢
  clear hW0
  have q0 : W0.cell? ⟨w.heap.size, 0, none⟩ = some (.slice (some ⟨b, o, none⟩) n cap) := cells_all HHB.out 0
  have HA := Lib.hid (heap_alloc_new W0 (.cells rz.toArray 25))
  have HAG := Lib.hid (World.grownBy_alloc W0 (.cells rz.toArray 25) none)
  go_wp2_with (with_reducible refine hold_st 25 _ _ rfl ?_)
  apply Lib.hid
  with_reducible refine wpList_store_all rfl 25 _ _ rfl _ ?cs1 ?hx1 ?hy1 _ _ HA.out ?hf1 _ ?hl1 Try.size25 ?h11 ?_
  case hy1 => exact rfl
  case hx1 => exact rfl
  case hf1 => exact rfl
  case hl1 => exact rfl
  case h11 => simp [allOne, Value.oneCell']
  intro w3 hb3 hg3
  have HB3 := Lib.hid ((hg3.block w.heap.size (by have := lt_of_block (keep_blk HAG.out HHB.out); exact this) (by have := HW0.out; simp; omega)).trans (keep_blk HAG.out HHB.out))
  have HR3 := Lib.hid ((hg3.block (w.heap.size + 1) (by have := lt_of_block (keep_blk HAG.out HHR.out); exact this) (by have := HW0.out; simp; omega)).trans (keep_blk HAG.out HHR.out))
  have HT3 := Lib.hid (show w3.heap[W0.heap.size]? = some (.cells ([.int .i64 0, .int .i64 (d : Nat), .int .i64 0, .slice none 0 0] : List Value).toArray 25 (0, 0)) from hb3)
  have HG3 := Lib.hid (grown_new3 (HHG.out.trans HAG.out) hg3 (fun g e => by cases e; have := HW0.out; omega))
  clear hb3 hg3 q0 hcW
  have q1 : w3.cell? ⟨w.heap.size, 0, none⟩ = some (.slice (some ⟨b, o, none⟩) n cap) := cells_all HB3.out 0
  have q2 : w3.frozen? ⟨w.heap.size, 0, none⟩ = false := frozen_all HB3.out 0
  go_wp2_with (with_reducible refine hold_sl 23 _ _ _ _ rfl ?_)
  apply Lib.hid
  refine wpList_val (by rfl) (exec_sl eB elemB (x := .tmp 18) (y := .const (.int .i64 1)) rfl (some ⟨b, o, none⟩) n cap 1 (by rfl) (by rfl) hn1 _ (.slice x1 (n - 1) cap1) HSL.out.symm) ?_
  go_wp2_with fail
  have hs3 := lf_set (x := x1) (cap := cap1) (r := t) HB3.out (HS1.out.keptNone HG3.out) HX1.out (by rw [← HN1.out]; exact HC1.out)
  rw [← HN1.out] at hs3
  have hg3 := grown_setCell w3 w.heap.size 0 (.slice x1 (n - 1) cap1)
  have HS3 := Lib.hid (show Rs w (w3.setCell ⟨w.heap.size, 0, none⟩ (.slice x1 (n - 1) cap1)) w.heap.size W0.heap.size x1 cap1 t [.int .i64 0, .int .i64 (d : Nat), .int .i64 0, .slice none 0 0] from
    ⟨hs3, (hg3.block _ (lt_of_block HR3.out) (by simp)).trans HR3.out, (hg3.block _ (lt_of_block HT3.out) (by have := HW0.out; simp; omega)).trans HT3.out, grown_new HG3.out hg3 (Nat.le_refl _)⟩)
  have HTS := Lib.hid (show W0.heap.size ≠ w.heap.size from by have := HW0.out; omega)
  have HTS1 := Lib.hid (show W0.heap.size ≠ w.heap.size + 1 from by have := HW0.out; omega)
  have HLT := Lib.hid (show t.length ≤ 1000000 from by have := HL.out; simp at this; omega)
  clear hs3 hg3 HB3 HR3 HT3 HG3 HA HAG HHG HHB HHR HSL HX1 HC1 HS1 q1 q2
  obtain ⟨T, hT⟩ : ∃ T, T = W0.heap.size := ⟨_, rfl⟩
  rw [← hT] at HS3 HTS HTS1 ⊢
  clear hT HW0
  refine (reader_ex w.heap.size 260 260 _).mono ?_; rintro e w4 ⟨C1, C2, C3, rfl, hg4, hC1, hC2, hC3⟩
  have HRD4 := Lib.hid (Rd.mk hC1 hC2 hC3)
  have HS4 := Lib.hid (HS3.out.kept hg4)
  clear hg4 hC1 hC2 hC3 HS3
  go_wp2_with fail
  refine (next_num HRD4.out HS4.out.lf HLT.out HTK.out).mono ?_; rintro e w5 ⟨x5, cap5, rfl, hlf, hgx, hrd⟩
  have HRD5 := Lib.hid hrd
  have HS5 := Lib.hid (HS4.out.step (Nat.le_refl _) HTS.out hlf hgx)
  clear hlf hgx hrd HS4 HRD4
  go_wp2_with fail
  refine (next_soon HRD5.out HS5.out.lf (by have := HLT.out; have := HU.out; omega) HUK.out).mono ?_; rintro e w9 ⟨rfl, hg9⟩
  go_wp2
  exact ⟨rfl, rfl, HS5.out.g.trans hg9⟩
set_option maxRecDepth 100000 in
set_option maxHeartbeats 4000000 in
theorem record_b3y (x : Option Addr) (cap : Nat) (c : UInt8) (t : List UInt8) (last : Int) (w : World) (hs : Go.Proofs.Ytpoifobhbmhelaa.Src w x (c :: t)) (hcap : (c :: t).length ≤ cap) (hl : (c :: t).length ≤ 1000000) (h0 : 0 ≤ last) (h1 : last ≤ 4611686018427387904) (y n0 : Nat) (u v0 : List UInt8) (ht : take t = .num y u) (hu : take u = .num n0 v0) (hy : ¬ (y : Int) ≤ 4611686018427387904 - last) : Calls Try.prog 36 #[.slice x (c :: t).length cap, .int .i64 last] w fun e w' => RecDo w (decB (c :: t) last) e w' := by
  rw [decB_b3 ht hu (fun h => hy h.1.1)]
  have HU := Lib.hid (take_lt ht)
  have HUV := Lib.hid (take_lt hu)
  have HY := Lib.hid (take_inv ht).2
  have HNB := Lib.hid (take_inv hu).2
  have HTK := Lib.hid ht
  have HUK := Lib.hid hu
  obtain ⟨D, hD⟩ : ∃ D : Int, D = 4611686018427387904 - last := ⟨_, rfl⟩
  have hsub : IntKind.i64.wrap (4611686018427387904 - last) = D := by rw [IntKind.wrap_i64]; omega
  have HDD := Lib.hid hD
  clear ht hu hD
  have hyD : decide ((y : Int) ≤ D) = false := decide_eq_false (by rw [HDD.out]; exact hy)
  clear hy
  obtain ⟨n, hn⟩ : ∃ n, n = (c :: t).length := ⟨_, rfl⟩
  have HN1 := Lib.hid (show n - 1 = t.length from by simp [hn])
  have hn1 : 1 ≤ n := by simp [hn]
  have hpos : 0 < n := hn1
  obtain ⟨b, o, hx, hc⟩ := src_some hs (by simp)
  obtain ⟨x1, cap1, hsl, hc1, hs1⟩ := src_from hs hcap 1 (by simp)
  have hb0 : b < w.heap.size := Go.Proofs.Ytpoifobhbmhelaa.Src.lt (hx ▸ hs) (by simp)
  rw [← hn] at hsl hc1 ⊢
  have hs1' : Go.Proofs.Ytpoifobhbmhelaa.Src w x1 t := by simpa using hs1
  have HX1 := Lib.hid (show ∀ b' o', x1 = some ⟨b', o', none⟩ → t ≠ [] → b' ≠ w.heap.size from fun b' o' e hne => by
    have := Go.Proofs.Ytpoifobhbmhelaa.Src.lt (e ▸ hs1') hne
    omega)
  obtain ⟨d, hd⟩ : ∃ d : Nat, d = c.toNat := ⟨_, rfl⟩
  obtain ⟨HG, HB0, HR0⟩ := two_new w (.cells #[.slice x n cap] 23) (.cells rz.toArray 25)
  have hd256 : d < 256 := by rw [hd]; exact c.toNat_lt
  have hcd : w.cell? ⟨b, o, none⟩ = some (.int .u8 (d : Int)) := by rw [hd]; exact hc 0 (by simp)
  have hcW := keep_cell HG hcd
  have HSL := Lib.hid hsl
  have HS1 := Lib.hid hs1'
  have HC1 := Lib.hid hc1
  have HN := Lib.hid hn
  have HD := Lib.hid hd
  have HHG := Lib.hid HG
  have HHB := Lib.hid HB0
  have HHR := Lib.hid HR0
  have HL := Lib.hid hl
  have HH0 := Lib.hid h0
  have HH1 := Lib.hid h1
  subst hx
  clear hs hcap hl h0 h1 hsl hc1 hs1 hs1' hc hn hd hcd HG HB0 HR0 hb0
  go_enter Try.func36, Try.ntmps36
  go_wp2_with fail
  refine (must_yes _ _).mono ?_; rintro e w2 ⟨⟨v, rfl⟩, rfl⟩
  obtain ⟨W0, hW0⟩ : ∃ W0, W0 = (w.alloc (.cells #[.slice (some ⟨b, o, none⟩) n cap] 23)).alloc (.cells rz.toArray 25) := ⟨_, rfl⟩
  have HW0 := Lib.hid (show W0.heap.size = w.heap.size + 1 + 1 from by rw [hW0]; simp)
  rw [← hW0] at HHG HHB HHR hcW ⊢
  clear hW0
  have q0 : W0.cell? ⟨w.heap.size, 0, none⟩ = some (.slice (some ⟨b, o, none⟩) n cap) := cells_all HHB.out 0
  have HA := Lib.hid (heap_alloc_new W0 (.cells rz.toArray 25))
  have HAG := Lib.hid (World.grownBy_alloc W0 (.cells rz.toArray 25) none)
  go_wp2_with (with_reducible refine hold_st 25 _ _ rfl ?_)
  apply Lib.hid
  with_reducible refine wpList_store_all rfl 25 _ _ rfl _ ?cs1 ?hx1 ?hy1 _ _ HA.out ?hf1 _ ?hl1 Try.size25 ?h11 ?_
  case hy1 => exact rfl
  case hx1 => exact rfl
  case hf1 => exact rfl
  case hl1 => exact rfl
  case h11 => simp [allOne, Value.oneCell']
  intro w3 hb3 hg3
  have HB3 := Lib.hid ((hg3.block w.heap.size (by have := lt_of_block (keep_blk HAG.out HHB.out); exact this) (by have := HW0.out; simp; omega)).trans (keep_blk HAG.out HHB.out))
  have HR3 := Lib.hid ((hg3.block (w.heap.size + 1) (by have := lt_of_block (keep_blk HAG.out HHR.out); exact this) (by have := HW0.out; simp; omega)).trans (keep_blk HAG.out HHR.out))
  have HT3 := Lib.hid (show w3.heap[W0.heap.size]? = some (.cells ([.int .i64 0, .int .i64 (d : Nat), .int .i64 0, .slice none 0 0] : List Value).toArray 25 (0, 0)) from hb3)
  have HG3 := Lib.hid (grown_new3 (HHG.out.trans HAG.out) hg3 (fun g e => by cases e; have := HW0.out; omega))
  clear hb3 hg3 q0 hcW
  have q1 : w3.cell? ⟨w.heap.size, 0, none⟩ = some (.slice (some ⟨b, o, none⟩) n cap) := cells_all HB3.out 0
  have q2 : w3.frozen? ⟨w.heap.size, 0, none⟩ = false := frozen_all HB3.out 0
  go_wp2_with (with_reducible refine hold_sl 23 _ _ _ _ rfl ?_)
  apply Lib.hid
  refine wpList_val (by rfl) (exec_sl eB elemB (x := .tmp 18) (y := .const (.int .i64 1)) rfl (some ⟨b, o, none⟩) n cap 1 (by rfl) (by rfl) hn1 _ (.slice x1 (n - 1) cap1) HSL.out.symm) ?_
  go_wp2_with fail
  have hs3 := lf_set (x := x1) (cap := cap1) (r := t) HB3.out (HS1.out.keptNone HG3.out) HX1.out (by rw [← HN1.out]; exact HC1.out)
  rw [← HN1.out] at hs3
  have hg3 := grown_setCell w3 w.heap.size 0 (.slice x1 (n - 1) cap1)
  have HS3 := Lib.hid (show Rs w (w3.setCell ⟨w.heap.size, 0, none⟩ (.slice x1 (n - 1) cap1)) w.heap.size W0.heap.size x1 cap1 t [.int .i64 0, .int .i64 (d : Nat), .int .i64 0, .slice none 0 0] from
    ⟨hs3, (hg3.block _ (lt_of_block HR3.out) (by simp)).trans HR3.out, (hg3.block _ (lt_of_block HT3.out) (by have := HW0.out; simp; omega)).trans HT3.out, grown_new HG3.out hg3 (Nat.le_refl _)⟩)
  have HTS := Lib.hid (show W0.heap.size ≠ w.heap.size from by have := HW0.out; omega)
  have HTS1 := Lib.hid (show W0.heap.size ≠ w.heap.size + 1 from by have := HW0.out; omega)
  have HLT := Lib.hid (show t.length ≤ 1000000 from by have := HL.out; simp at this; omega)
  clear hs3 hg3 HB3 HR3 HT3 HG3 HA HAG HHG HHB HHR HSL HX1 HC1 HS1 q1 q2
  obtain ⟨T, hT⟩ : ∃ T, T = W0.heap.size := ⟨_, rfl⟩
  rw [← hT] at HS3 HTS HTS1 ⊢
  clear hT HW0
  refine (reader_ex w.heap.size 260 260 _).mono ?_; rintro e w4 ⟨C1, C2, C3, rfl, hg4, hC1, hC2, hC3⟩
  have HRD4 := Lib.hid (Rd.mk hC1 hC2 hC3)
  have HS4 := Lib.hid (HS3.out.kept hg4)
  clear hg4 hC1 hC2 hC3 HS3
  go_wp2_with fail
  refine (next_num HRD4.out HS4.out.lf HLT.out HTK.out).mono ?_; rintro e w5 ⟨x5, cap5, rfl, hlf, hgx, hrd⟩
  have HRD5 := Lib.hid hrd
  have HS5 := Lib.hid (HS4.out.step (Nat.le_refl _) HTS.out hlf hgx)
  clear hlf hgx hrd HS4 HRD4
  go_wp2_with fail
  refine (next_num HRD5.out HS5.out.lf (by have := HLT.out; have := HU.out; omega) HUK.out).mono ?_; rintro e w6 ⟨x6, cap6, rfl, hlf, hgx, hrd⟩
  have HRD6 := Lib.hid hrd
  have HS6 := Lib.hid (HS5.out.step (Nat.le_refl _) HTS.out hlf hgx)
  clear hlf hgx hrd HS5 HRD5
  go_wp2_with fail
  refine (must_no _ _).mono ?_; rintro e w9 ⟨rfl, rfl⟩
  go_wp2
  exact ⟨rfl, rfl, HS6.out.g⟩
set_option maxRecDepth 100000 in
set_option maxHeartbeats 4000000 in
theorem record_b3n (x : Option Addr) (cap : Nat) (c : UInt8) (t : List UInt8) (last : Int) (w : World) (hs : Go.Proofs.Ytpoifobhbmhelaa.Src w x (c :: t)) (hcap : (c :: t).length ≤ cap) (hl : (c :: t).length ≤ 1000000) (h0 : 0 ≤ last) (h1 : last ≤ 4611686018427387904) (y n0 : Nat) (u v0 : List UInt8) (ht : take t = .num y u) (hu : take u = .num n0 v0) (hy : (y : Int) ≤ 4611686018427387904 - last) (hn0 : ¬ n0 < 65536) : Calls Try.prog 36 #[.slice x (c :: t).length cap, .int .i64 last] w fun e w' => RecDo w (decB (c :: t) last) e w' := by
  rw [decB_b3 ht hu (fun h => hn0 h.1.2)]
  have HU := Lib.hid (take_lt ht)
  have HUV := Lib.hid (take_lt hu)
  have HY := Lib.hid (take_inv ht).2
  have HNB := Lib.hid (take_inv hu).2
  have HTK := Lib.hid ht
  have HUK := Lib.hid hu
  obtain ⟨D, hD⟩ : ∃ D : Int, D = 4611686018427387904 - last := ⟨_, rfl⟩
  have hsub : IntKind.i64.wrap (4611686018427387904 - last) = D := by rw [IntKind.wrap_i64]; omega
  have HDD := Lib.hid hD
  clear ht hu hD
  have hyD : decide ((y : Int) ≤ D) = true := decide_eq_true (by rw [HDD.out]; exact hy)
  have hnD : decide ((n0 : Int) < 65536) = false := decide_eq_false (by omega)
  clear hy hn0
  obtain ⟨n, hn⟩ : ∃ n, n = (c :: t).length := ⟨_, rfl⟩
  have HN1 := Lib.hid (show n - 1 = t.length from by simp [hn])
  have hn1 : 1 ≤ n := by simp [hn]
  have hpos : 0 < n := hn1
  obtain ⟨b, o, hx, hc⟩ := src_some hs (by simp)
  obtain ⟨x1, cap1, hsl, hc1, hs1⟩ := src_from hs hcap 1 (by simp)
  have hb0 : b < w.heap.size := Go.Proofs.Ytpoifobhbmhelaa.Src.lt (hx ▸ hs) (by simp)
  rw [← hn] at hsl hc1 ⊢
  have hs1' : Go.Proofs.Ytpoifobhbmhelaa.Src w x1 t := by simpa using hs1
  have HX1 := Lib.hid (show ∀ b' o', x1 = some ⟨b', o', none⟩ → t ≠ [] → b' ≠ w.heap.size from fun b' o' e hne => by
    have := Go.Proofs.Ytpoifobhbmhelaa.Src.lt (e ▸ hs1') hne
    omega)
  obtain ⟨d, hd⟩ : ∃ d : Nat, d = c.toNat := ⟨_, rfl⟩
  obtain ⟨HG, HB0, HR0⟩ := two_new w (.cells #[.slice x n cap] 23) (.cells rz.toArray 25)
  have hd256 : d < 256 := by rw [hd]; exact c.toNat_lt
  have hcd : w.cell? ⟨b, o, none⟩ = some (.int .u8 (d : Int)) := by rw [hd]; exact hc 0 (by simp)
  have hcW := keep_cell HG hcd
  have HSL := Lib.hid hsl
  have HS1 := Lib.hid hs1'
  have HC1 := Lib.hid hc1
  have HN := Lib.hid hn
  have HD := Lib.hid hd
  have HHG := Lib.hid HG
  have HHB := Lib.hid HB0
  have HHR := Lib.hid HR0
  have HL := Lib.hid hl
  have HH0 := Lib.hid h0
  have HH1 := Lib.hid h1
  subst hx
  clear hs hcap hl h0 h1 hsl hc1 hs1 hs1' hc hn hd hcd HG HB0 HR0 hb0
  go_enter Try.func36, Try.ntmps36
  go_wp2_with fail
  refine (must_yes _ _).mono ?_; rintro e w2 ⟨⟨v, rfl⟩, rfl⟩
  obtain ⟨W0, hW0⟩ : ∃ W0, W0 = (w.alloc (.cells #[.slice (some ⟨b, o, none⟩) n cap] 23)).alloc (.cells rz.toArray 25) := ⟨_, rfl⟩
  have HW0 := Lib.hid (show W0.heap.size = w.heap.size + 1 + 1 from by rw [hW0]; simp)
  rw [← hW0] at HHG HHB HHR hcW ⊢
  clear hW0
  have q0 : W0.cell? ⟨w.heap.size, 0, none⟩ = some (.slice (some ⟨b, o, none⟩) n cap) := cells_all HHB.out 0
  have HA := Lib.hid (heap_alloc_new W0 (.cells rz.toArray 25))
  have HAG := Lib.hid (World.grownBy_alloc W0 (.cells rz.toArray 25) none)
  go_wp2_with (with_reducible refine hold_st 25 _ _ rfl ?_)
  apply Lib.hid
  with_reducible refine wpList_store_all rfl 25 _ _ rfl _ ?cs1 ?hx1 ?hy1 _ _ HA.out ?hf1 _ ?hl1 Try.size25 ?h11 ?_
  case hy1 => exact rfl
  case hx1 => exact rfl
  case hf1 => exact rfl
  case hl1 => exact rfl
  case h11 => simp [allOne, Value.oneCell']
  intro w3 hb3 hg3
  have HB3 := Lib.hid ((hg3.block w.heap.size (by have := lt_of_block (keep_blk HAG.out HHB.out); exact this) (by have := HW0.out; simp; omega)).trans (keep_blk HAG.out HHB.out))
  have HR3 := Lib.hid ((hg3.block (w.heap.size + 1) (by have := lt_of_block (keep_blk HAG.out HHR.out); exact this) (by have := HW0.out; simp; omega)).trans (keep_blk HAG.out HHR.out))
  have HT3 := Lib.hid (show w3.heap[W0.heap.size]? = some (.cells ([.int .i64 0, .int .i64 (d : Nat), .int .i64 0, .slice none 0 0] : List Value).toArray 25 (0, 0)) from hb3)
  have HG3 := Lib.hid (grown_new3 (HHG.out.trans HAG.out) hg3 (fun g e => by cases e; have := HW0.out; omega))
  clear hb3 hg3 q0 hcW
  have q1 : w3.cell? ⟨w.heap.size, 0, none⟩ = some (.slice (some ⟨b, o, none⟩) n cap) := cells_all HB3.out 0
  have q2 : w3.frozen? ⟨w.heap.size, 0, none⟩ = false := frozen_all HB3.out 0
  go_wp2_with (with_reducible refine hold_sl 23 _ _ _ _ rfl ?_)
  apply Lib.hid
  refine wpList_val (by rfl) (exec_sl eB elemB (x := .tmp 18) (y := .const (.int .i64 1)) rfl (some ⟨b, o, none⟩) n cap 1 (by rfl) (by rfl) hn1 _ (.slice x1 (n - 1) cap1) HSL.out.symm) ?_
  go_wp2_with fail
  have hs3 := lf_set (x := x1) (cap := cap1) (r := t) HB3.out (HS1.out.keptNone HG3.out) HX1.out (by rw [← HN1.out]; exact HC1.out)
  rw [← HN1.out] at hs3
  have hg3 := grown_setCell w3 w.heap.size 0 (.slice x1 (n - 1) cap1)
  have HS3 := Lib.hid (show Rs w (w3.setCell ⟨w.heap.size, 0, none⟩ (.slice x1 (n - 1) cap1)) w.heap.size W0.heap.size x1 cap1 t [.int .i64 0, .int .i64 (d : Nat), .int .i64 0, .slice none 0 0] from
    ⟨hs3, (hg3.block _ (lt_of_block HR3.out) (by simp)).trans HR3.out, (hg3.block _ (lt_of_block HT3.out) (by have := HW0.out; simp; omega)).trans HT3.out, grown_new HG3.out hg3 (Nat.le_refl _)⟩)
  have HTS := Lib.hid (show W0.heap.size ≠ w.heap.size from by have := HW0.out; omega)
  have HTS1 := Lib.hid (show W0.heap.size ≠ w.heap.size + 1 from by have := HW0.out; omega)
  have HLT := Lib.hid (show t.length ≤ 1000000 from by have := HL.out; simp at this; omega)
  clear hs3 hg3 HB3 HR3 HT3 HG3 HA HAG HHG HHB HHR HSL HX1 HC1 HS1 q1 q2
  obtain ⟨T, hT⟩ : ∃ T, T = W0.heap.size := ⟨_, rfl⟩
  rw [← hT] at HS3 HTS HTS1 ⊢
  clear hT HW0
  refine (reader_ex w.heap.size 260 260 _).mono ?_; rintro e w4 ⟨C1, C2, C3, rfl, hg4, hC1, hC2, hC3⟩
  have HRD4 := Lib.hid (Rd.mk hC1 hC2 hC3)
  have HS4 := Lib.hid (HS3.out.kept hg4)
  clear hg4 hC1 hC2 hC3 HS3
  go_wp2_with fail
  refine (next_num HRD4.out HS4.out.lf HLT.out HTK.out).mono ?_; rintro e w5 ⟨x5, cap5, rfl, hlf, hgx, hrd⟩
  have HRD5 := Lib.hid hrd
  have HS5 := Lib.hid (HS4.out.step (Nat.le_refl _) HTS.out hlf hgx)
  clear hlf hgx hrd HS4 HRD4
  go_wp2_with fail
  refine (next_num HRD5.out HS5.out.lf (by have := HLT.out; have := HU.out; omega) HUK.out).mono ?_; rintro e w6 ⟨x6, cap6, rfl, hlf, hgx, hrd⟩
  have HRD6 := Lib.hid hrd
  have HS6 := Lib.hid (HS5.out.step (Nat.le_refl _) HTS.out hlf hgx)
  clear hlf hgx hrd HS5 HRD5
  go_wp2_with fail
  refine (must_no _ _).mono ?_; rintro e w9 ⟨rfl, rfl⟩
  go_wp2
  exact ⟨rfl, rfl, HS6.out.g⟩
end Go.Proofs.Ytpoifobhbmhelaa
