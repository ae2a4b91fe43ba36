/- log.Decode. -/
import Derived.Test.YtpoifobhbmhelaaAD
import Derived.Test.YtpoifobhbmhelaaX
set_option linter.unusedVariables false
set_option linter.unusedSimpArgs false
namespace Go.Proofs.Ytpoifobhbmhelaa
open Go.RowKit
abbrev dB (w : World) : World := ((w.alloc (.cells lz.toArray 31)).alloc (.cells #[.int .i64 0] 3)).alloc (.cells #[.int .i64 0] 32)
theorem dB_facts (w : World) : (dB w).heap[w.heap.size]? = some (.cells lz.toArray 31 (0, 0)) ∧ (dB w).heap[w.heap.size + 1]? = some (.cells #[.int .i64 0] 3 (0, 0)) ∧ (dB w).heap[w.heap.size + 1 + 1]? = some (.cells #[.int .i64 0] 32 (0, 0)) ∧ w.grownBy (dB w) none ∧ (dB w).heap.size = w.heap.size + 1 + 1 + 1 := by
  obtain ⟨h1, h2, h3⟩ := two_new3 w (.cells lz.toArray 31) (.cells #[.int .i64 0] 3) (.cells #[.int .i64 0] 32)
  exact ⟨h1, h2, h3, ((World.grownBy_alloc w _ none).trans (World.grownBy_alloc _ _ none)).trans (World.grownBy_alloc _ _ none), by rw [World.size_alloc, World.size_alloc, World.size_alloc]⟩
theorem results_c3 {fn : Func} {p q r : Tmp} (h : fn.results = #[.cell p 31, .cell q 3, .cell r 32]) (tmps : Array Value) (w : World) (g k j : Nat) (cs : Array Value) (hs : cs.size = 6) (z e : Int)
    (hp : tmps.getD p undef = .pointer (some ⟨g, 0, none⟩)) (hq : tmps.getD q undef = .pointer (some ⟨k, 0, none⟩)) (hr : tmps.getD r undef = .pointer (some ⟨j, 0, none⟩)) (hg : w.heap[g]? = some (.cells cs 31 (0, 0))) (hk : w.heap[k]? = some (.cells #[.int .i64 z] 3 (0, 0))) (hj : w.heap[j]? = some (.cells #[.int .i64 e] 32 (0, 0))) : (results fn tmps).run Try.prog w = .ok (.tuple #[.agg cs, .int .i64 z, .int .i64 e]) w := by
  have hp' : tmps[p]?.getD undef = .pointer (some ⟨g, 0, none⟩) := by simpa using hp
  have hq' : tmps[q]?.getD undef = .pointer (some ⟨k, 0, none⟩) := by simpa using hq
  have hr' : tmps[r]?.getD undef = .pointer (some ⟨j, 0, none⟩) := by simpa using hr
  have hl := run_loadVar_row (P := Try.prog) w g 31 31 cs (0, 0) _ hg Try.underlying31 rfl (by rw [hs]; exact Try.size31)
  have k1 : w.cell? ⟨k, 0, none⟩ = some (.int .i64 z) := cells_all hk 0
  have k2 : w.cell? ⟨j, 0, none⟩ = some (.int .i64 e) := cells_all hj 0
  have l2 : (loadVar 3 ⟨k, 0, none⟩).run Try.prog w = .ok (.int .i64 z) w := by simp [go_sem, k1]
  have l3 : (loadVar 32 ⟨j, 0, none⟩).run Try.prog w = .ok (.int .i64 e) w := by simp [go_sem, k2]
  simp [results, h, hp', hq', hr', asAddr, hl, l2, l3]
theorem grown_ge {w W W' : World} (hg : w.grownBy W none) (hk : Keeps (fun k => w.heap.size ≤ k) W W') : w.grownBy W' none := ((Keeps.keep (X := fun k => w.heap.size ≤ k) hg).trans hk).toGrown (fun i hi h => by omega)
/-- A panic that is caught: an error. -/
theorem dec_panic {w W : World} {R : Ending → World → Prop} {tmps : Array Value} {cs0 : List Value} {r0 e0 err : Int} (hL : W.heap[w.heap.size]? = some (.cells cs0.toArray 31 (0, 0))) (h6 : cs0.length = 6) (hR : W.heap[w.heap.size + 1]? = some (.cells #[.int .i64 r0] 3 (0, 0))) (hE : W.heap[w.heap.size + 1 + 1]? = some (.cells #[.int .i64 e0] 32 (0, 0)))
    (h2 : tmps.getD 2 undef = .pointer (some ⟨w.heap.size, 0, none⟩)) (h3 : tmps.getD 3 undef = .pointer (some ⟨w.heap.size + 1, 0, none⟩)) (h4 : tmps.getD 4 undef = .pointer (some ⟨w.heap.size + 1 + 1, 0, none⟩)) (hz : err ≠ 0)
    (hk : ∀ W', Keeps (fun k => w.heap.size ≤ k) W W' → R (.returned (.tuple #[lgV 0 0 0 none 0 0 false 0, .int .i64 0, .int .i64 err])) W') :
    bodyPostD Try.prog Try.f15 R (Exit.panic [{ v := .iface 66 (.agg #[.int .i64 err]), recovered := false }]) { tmps := tmps, defers := [{ target := .fn (.func 31) #[.pointer (some ⟨w.heap.size + 1 + 1, 0, none⟩), .pointer (some ⟨w.heap.size, 0, none⟩), .pointer (some ⟨w.heap.size + 1, 0, none⟩)], args := #[] }] } W := by
  refine leaves_cons (f := 31) (args := #[.pointer (some ⟨w.heap.size + 1 + 1, 0, none⟩), .pointer (some ⟨w.heap.size, 0, none⟩), .pointer (some ⟨w.heap.size + 1, 0, none⟩)]) (by simp) (by simp [go_sem]) ?_
  refine (catch_fail (w.heap.size + 1 + 1) w.heap.size (w.heap.size + 1) err e0 r0 cs0 [] W hE hL h6 hR).mono ?_
  rintro e u' w'' ⟨rfl, rfl, hC⟩
  have hres := results_c3 (fn := Try.f15) rfl tmps w'' _ _ _ lz.toArray rfl 0 err h2 h3 h4 (hC.2.1 hz).1 (hC.2.1 hz).2 hC.1
  simp [Leaves, settle, hres]
  exact hk w'' (hC.2.2.2.mono (fun i _ h => by omega))
/-- A panic that is caught: the bytes end too soon. -/
theorem dec_soon {w W : World} {R : Ending → World → Prop} {tmps : Array Value} {cs0 : List Value} {r0 e0 : Int} (hL : W.heap[w.heap.size]? = some (.cells cs0.toArray 31 (0, 0))) (h6 : cs0.length = 6) (hR : W.heap[w.heap.size + 1]? = some (.cells #[.int .i64 r0] 3 (0, 0))) (hE : W.heap[w.heap.size + 1 + 1]? = some (.cells #[.int .i64 e0] 32 (0, 0)))
    (h2 : tmps.getD 2 undef = .pointer (some ⟨w.heap.size, 0, none⟩)) (h3 : tmps.getD 3 undef = .pointer (some ⟨w.heap.size + 1, 0, none⟩)) (h4 : tmps.getD 4 undef = .pointer (some ⟨w.heap.size + 1 + 1, 0, none⟩))
    (hk : ∀ W', Keeps (fun k => k = w.heap.size + 1 + 1 ∨ k = w.heap.size ∨ k = w.heap.size + 1) W W' → R (.returned (.tuple #[.agg cs0.toArray, .int .i64 r0, .int .i64 0])) W') :
    bodyPostD Try.prog Try.f15 R (Exit.panic [{ v := .iface 66 (.agg #[.int .i64 0]), recovered := false }]) { tmps := tmps, defers := [{ target := .fn (.func 31) #[.pointer (some ⟨w.heap.size + 1 + 1, 0, none⟩), .pointer (some ⟨w.heap.size, 0, none⟩), .pointer (some ⟨w.heap.size + 1, 0, none⟩)], args := #[] }] } W := by
  refine leaves_cons (f := 31) (args := #[.pointer (some ⟨w.heap.size + 1 + 1, 0, none⟩), .pointer (some ⟨w.heap.size, 0, none⟩), .pointer (some ⟨w.heap.size + 1, 0, none⟩)]) (by simp) (by simp [go_sem]) ?_
  refine (catch_fail (w.heap.size + 1 + 1) w.heap.size (w.heap.size + 1) 0 e0 r0 cs0 [] W hE hL h6 hR).mono ?_
  rintro e u' w'' ⟨rfl, rfl, hC⟩
  have hres := results_c3 (fn := Try.f15) rfl tmps w'' _ _ _ cs0.toArray (by simpa using h6) r0 0 h2 h3 h4 ((hC.2.2.1 rfl).1.trans hL) ((hC.2.2.1 rfl).2.trans hR) hC.1
  simp [Leaves, settle, hres]
  exact hk w'' hC.2.2.2
/-- A return. -/
theorem dec_ret {w W : World} {R : Ending → World → Prop} {tmps : Array Value} {cs0 : List Value} {r0 e0 : Int} (hL : W.heap[w.heap.size]? = some (.cells cs0.toArray 31 (0, 0))) (h6 : cs0.length = 6) (hR : W.heap[w.heap.size + 1]? = some (.cells #[.int .i64 r0] 3 (0, 0))) (hE : W.heap[w.heap.size + 1 + 1]? = some (.cells #[.int .i64 e0] 32 (0, 0)))
    (h2 : tmps.getD 2 undef = .pointer (some ⟨w.heap.size, 0, none⟩)) (h3 : tmps.getD 3 undef = .pointer (some ⟨w.heap.size + 1, 0, none⟩)) (h4 : tmps.getD 4 undef = .pointer (some ⟨w.heap.size + 1 + 1, 0, none⟩))
    (hk : R (.returned (.tuple #[.agg cs0.toArray, .int .i64 r0, .int .i64 e0])) W) :
    bodyPostD Try.prog Try.f15 R Exit.ret { tmps := tmps, defers := [{ target := .fn (.func 31) #[.pointer (some ⟨w.heap.size + 1 + 1, 0, none⟩), .pointer (some ⟨w.heap.size, 0, none⟩), .pointer (some ⟨w.heap.size + 1, 0, none⟩)], args := #[] }] } W := by
  refine leaves_cons (f := 31) (args := #[.pointer (some ⟨w.heap.size + 1 + 1, 0, none⟩), .pointer (some ⟨w.heap.size, 0, none⟩), .pointer (some ⟨w.heap.size + 1, 0, none⟩)]) (by simp) (by simp [go_sem]) ?_
  refine (catch_idle (w.heap.size + 1 + 1) w.heap.size (w.heap.size + 1) W).mono ?_
  rintro e u' w'' ⟨rfl, rfl, rfl⟩
  have hres := results_c3 (fn := Try.f15) rfl tmps w'' _ _ _ cs0.toArray (by simpa using h6) r0 e0 h2 h3 h4 hL hR hE
  simp [Leaves, settle, hres]
  exact hk
set_option maxRecDepth 100000 in
set_option maxHeartbeats 16000000 in
theorem dec_nomag (x : Option Addr) (cap : Nat) (b : List UInt8) (w : World) (hs : Go.Proofs.Ytpoifobhbmhelaa.Src w x b) (hcap : b.length ≤ cap) (hl : b.length ≤ 900000) (hm : b.take 4 ≠ magic) : Calls Try.prog 15 #[.slice x b.length cap] w fun e w' => DecDo w (decL b) e w' := by
  obtain ⟨H1, H2, H3, H4, H5⟩ := dB_facts w
  have HB1 := Lib.hid H1
  have HB2 := Lib.hid H2
  have HB3 := Lib.hid H3
  have HG := Lib.hid H4
  have HSZ := Lib.hid H5
  have HS := Lib.hid hs
  have HCAP := Lib.hid hcap
  obtain ⟨n, hn⟩ : ∃ n, n = b.length := ⟨_, rfl⟩
  have HN := Lib.hid hn
  rw [← hn] at hl ⊢
  obtain ⟨D, hD⟩ : ∃ D, D = decL b := ⟨_, rfl⟩
  have HD := Lib.hid hD
  rw [← hD]
  clear H1 H2 H3 H4 H5 hs hcap hD
  have kc : (convert 23 23 (.slice (some ⟨w.heap.size + 1 + 1 + 1, 0, none⟩) 4 4)).run Try.prog ((dB w).alloc (magO 0 0)) = .ok (.slice (some ⟨w.heap.size + 1 + 1 + 1, 0, none⟩) 4 4) ((dB w).alloc (magO 4 5)) := by have h := conv_lit (dB w) #[.int .u8 80, .int .u8 77, .int .u8 68, .int .u8 82] 4 4; rw [HSZ.out] at h; exact h
  have HMG := Lib.hid (World.grownBy_alloc (dB w) (magO 4 5) none)
  have HMS := Lib.hid (show Go.Proofs.Ytpoifobhbmhelaa.Src ((dB w).alloc (magO 4 5)) (some ⟨w.heap.size + 1 + 1 + 1, 0, none⟩) magic from by have h := src_lit (dB w) magic 4 5; rw [HSZ.out] at h; exact h)
  have hmf : ∀ (fn : Fn) (first cap : Array Value) (w : World), (Instr.makeFunc fn first cap).run Try.prog w = .ok (.func fn first cap) w := fun _ _ _ _ => rfl
  have HNO := Lib.hid (show D = (.zero, 0, 261) from HD.out.trans (decL_nm hm))
  have C := Lib.hid (cutPrefix_no x (some ⟨w.heap.size + 1 + 1 + 1, 0, none⟩) n 4 cap 4 b magic ((dB w).alloc (magO 4 5)) hn rfl (by have := HCAP.out; omega) (HS.out.keptNone (HG.out.trans HMG.out)) HMS.out hm)
  clear hn hm
  go_enter_defers Try.func15, Try.ntmps15
  go_wp2_with fail
  refine C.out.mono ?_; rintro e0 w2 ⟨rfl, rfl⟩
  go_wp2_with fail
  refine (must_no _ _).mono ?_; rintro e0 w2 ⟨rfl, rfl⟩
  have HGA := Lib.hid (World.grownBy_alloc ((dB w).alloc (magO 4 5)) (.cells #[.slice x n cap] 23) none)
  have HG3 := Lib.hid (HMG.out.trans HGA.out)
  have HX1 := Lib.hid (keep_blk HG3.out HB1.out)
  have HX2 := Lib.hid (keep_blk HG3.out HB2.out)
  have HX3 := Lib.hid (keep_blk HG3.out HB3.out)
  go_wp2
  exact dec_panic HX1.out rfl HX2.out HX3.out rfl rfl rfl (by decide) (fun W hk => DecDo.fail HNO.out (grown_ge (HG.out.trans HG3.out) hk))
end Go.Proofs.Ytpoifobhbmhelaa
