import Derived.Test.YtnglbneefkdfgaaV
import Derived.Lib.SlBytesConst
set_option linter.unusedVariables false
namespace Go.Proofs.Ytnglbneefkdfgaa
open Go.RowKit
/-- A net that was made since w0. -/
structure Wk (w0 w : World) (B : Nat) (M : Nat → Prop) (c : Nc) (g : Nh) : Prop where
  ns : NS M w B c g
  mw : ∀ k, M k → w0.heap.size ≤ k ∧ k < w.heap.size
  g : w0.grownBy w none
theorem Wk.step {w0 w w' : World} {B : Nat} {M : Nat → Prop} {c c' : Nc} {g g' : Nh} (h : Wk w0 w B M c g) (p : LPost M w w' B c c' g') : Wk w0 w' B (with_ M (own c' B)) c' g' := by
  have hz := p.keep.size
  have hg := h.g.size
  refine ⟨p.ns, fun k hk => ?_, ?_⟩
  · rcases hk with hk | hk
    · have := h.mw k hk; omega
    · have h1 := p.ns.lt k hk
      exact ⟨(p.newl k hk).elim (fun h2 => (h.mw k (h.ns.ow k h2)).1) (fun h2 => by omega), h1⟩
  · exact ((Keeps.keep (X := fun k => w0.heap.size ≤ k) h.g).trans (p.keep.mono (fun i _ hi => (h.mw i (h.ns.ow i hi)).1))).toGrown (fun i hi hx => by omega)
theorem Wk.keptNone {w0 w w' : World} {B : Nat} {M : Nat → Prop} {c : Nc} {g : Nh} (h : Wk w0 w B M c g) (hg : w.grownBy w' none) : Wk w0 w' B M c g :=
  ⟨h.ns.keptNone hg, fun k hk => by have := h.mw k hk; have := hg.size; omega, h.g.trans hg⟩
theorem Wk.fin {w0 w w' : World} {B : Nat} {M : Nat → Prop} {c : Nc} {g : Nh} (h : Wk w0 w B M c g) (hk : Keeps (own c B) w.drew w') : w0.grownBy w' none := by
  have hg := h.g.size
  exact ((Keeps.keep (X := fun k => w0.heap.size ≤ k) h.g).trans (hk.undrew.mono (fun i _ hi => (h.mw i (h.ns.ow i hi)).1))).toGrown (fun i hi hx => by omega)
theorem Wk.start {w0 w : World} {B : Nat} (hB : w0.heap.size ≤ B) (h : Nk w B .new) (hg : w0.grownBy w none) : Wk w0 w B (fun k => k = B) .new .zero :=
  ⟨new_ns h rfl, fun k hk => by subst hk; exact ⟨hB, h.lt⟩, hg⟩
theorem src_lit (w : World) (l : List UInt8) (p q : Nat) : Go.Proofs.Ytnglbneefkdfgaa.Src (w.alloc (.cells (bsV l).toArray 5 (p, q))) (some ⟨w.heap.size, 0, none⟩) l := by
  refine .inr ⟨_, _, rfl, fun j hj => ?_⟩
  rw [Nat.zero_add, cells_all (heap_alloc_new w _)]
  rw [List.getElem?_toArray]
  exact bV_get l j hj
set_option maxRecDepth 100000 in
set_option maxHeartbeats 8000000 in
theorem works_any (w : World) : Calls Try.prog 9 #[] w fun e w' => e = .returned (.bool true) ∧ w.grownBy w' none := by
  go_enter Try.func9, Try.ntmps9
  go_wp2_with fail
  refine (new_any _).mono ?_; rintro e w1 ⟨B, rfl, hB, hT1, hg1⟩
  obtain ⟨c1, hc1⟩ : ∃ c, c = Nc.new := ⟨_, rfl⟩
  rw [← hc1] at hT1
  have H1 := Lib.hid (show Wk w w1 B _ c1 .zero from hc1 ▸ Wk.start hB (hc1 ▸ hT1) hg1)
  clear hT1 hg1 hc1
  have kc := Lib.run_convert_bytes_const (P := Try.prog) w1 22 5 #[.int .u8 97, .int .u8 98, .int .u8 99] 3 3 Try.underlying22 Try.underlying5
  have hga := World.grownBy_alloc w1 (.cells #[.int .u8 97, .int .u8 98, .int .u8 99] 5 (3, 4)) none
  have HK := Lib.hid (H1.out.keptNone hga)
  have HX := Lib.hid (show Go.Proofs.Ytnglbneefkdfgaa.Src (w1.alloc (.cells #[.int .u8 97, .int .u8 98, .int .u8 99] 5 (3, 4))) (some ⟨w1.heap.size, 0, none⟩) [97, 98, 99] from src_lit w1 [97, 98, 99] 3 4)
  clear hga
  have C := push_any _ B c1 (Nh.zero : Nh) _ HK.out.ns (by constructor <;> decide) (fun k hk => (HK.out.mw k hk).2) (some ⟨w1.heap.size, 0, none⟩) 3 3 [97, 98, 99] rfl HX.out
  rw [show (Nh.zero : Nh).pushAt [97, 98, 99] = 0 from by decide, show (Nh.zero : Nh).pushNo [97, 98, 99] = 0 from by decide, show (Nh.zero : Nh).push [97, 98, 99] = ⟨[[97, 98, 99]], 0, []⟩ from by rfl] at C
  go_wp2_with fail
  refine C.mono ?_; rintro e w2 ⟨c2, rfl, hL⟩
  have H2 := Lib.hid (HK.out.step hL)
  have HN2 := Lib.hid (show ∀ k, own c2 B k → own c1 B k ∨ w1.heap.size ≤ k from fun k hk => (hL.newl k hk).imp id (fun h => by simp at h; omega))
  have hz2 := HK.out.g.size
  have HZ2 := Lib.hid (show w1.heap.size ≤ w2.heap.size from by have := hL.keep.size; simp at this; omega)
  clear hL C kc HK HX H1 hz2
  have kc := Lib.run_convert_bytes_const (P := Try.prog) w2 22 5 #[.int .u8 100] 1 1 Try.underlying22 Try.underlying5
  have hga := World.grownBy_alloc w2 (.cells #[.int .u8 100] 5 (1, 2)) none
  have HK := Lib.hid (H2.out.keptNone hga)
  have HX := Lib.hid (show Go.Proofs.Ytnglbneefkdfgaa.Src (w2.alloc (.cells #[.int .u8 100] 5 (1, 2))) (some ⟨w2.heap.size, 0, none⟩) [100] from src_lit w2 [100] 1 2)
  clear hga
  have C := push_any _ B c2 (⟨[[97, 98, 99]], 0, []⟩ : Nh) _ HK.out.ns (by constructor <;> decide) (fun k hk => (HK.out.mw k hk).2) (some ⟨w2.heap.size, 0, none⟩) 1 1 [100] rfl HX.out
  rw [show (⟨[[97, 98, 99]], 0, []⟩ : Nh).pushAt [100] = 3 from by decide, show (⟨[[97, 98, 99]], 0, []⟩ : Nh).pushNo [100] = 0 from by decide, show (⟨[[97, 98, 99]], 0, []⟩ : Nh).push [100] = ⟨[[97, 98, 99], [100]], 0, []⟩ from by rfl] at C
  go_wp2_with fail
  refine C.mono ?_; rintro e w3 ⟨c3, rfl, hL⟩
  have H3 := Lib.hid (HK.out.step hL)
  have HN3 := Lib.hid (show ∀ k, own c3 B k → own c2 B k ∨ w2.heap.size ≤ k from fun k hk => (hL.newl k hk).imp id (fun h => by simp at h; omega))
  have hz3 := HK.out.g.size
  have HZ3 := Lib.hid (show w2.heap.size ≤ w3.heap.size from by have := hL.keep.size; simp at this; omega)
  clear hL C kc HK HX H2 hz3
  have HB3 := Lib.hid (show (∀ l ∈ ([[97, 98, 99], [100]] : List (List UInt8)), l.length ≤ 1000000) by decide)
  have C := next_any _ B c3 (⟨[[97, 98, 99], [100]], 0, []⟩ : Nh) 3 _ H3.out.ns (by constructor <;> decide) HB3.out rfl
  rw [show (⟨[[97, 98, 99], [100]], 0, []⟩ : Nh).nextAt = 0 from by decide, show (⟨[[97, 98, 99], [100]], 0, []⟩ : Nh).more = true from by decide, show (⟨[[97, 98, 99], [100]], 0, []⟩ : Nh).nextB = [97, 98, 99] from by rfl] at C
  go_wp2_with fail
  refine C.mono ?_; rintro e w4 ⟨a4, cap4, rfl, hs4, hr4, hv4, h4⟩
  have H4 := Lib.hid (H3.out.keptNone h4)
  have HS4 := Lib.hid hs4
  have hz4 := h4.size
  have HR4 := Lib.hid (show ∀ k, rowOf (.slice a4 3 cap4) = some k → w3.heap.size ≤ k ∧ k < w4.heap.size from fun k hk => ⟨hr4 k hk, hv4.lt k hk⟩)
  have HO4 := Lib.hid (show ∀ k, own c3 B k → k < w3.heap.size from H3.out.ns.lt)
  obtain ⟨c4, hc4⟩ : ∃ c, c = c3 := ⟨_, rfl⟩
  have HC4 := Lib.hid hc4
  rw [← hc4] at H4
  clear C hs4 hr4 hv4 h4 H3 HB3 hc4
  have kc := Lib.run_convert_bytes_const (P := Try.prog) w4 22 5 #[.int .u8 120, .int .u8 121] 2 2 Try.underlying22 Try.underlying5
  have hga := World.grownBy_alloc w4 (.cells #[.int .u8 120, .int .u8 121] 5 (2, 3)) none
  have HK := Lib.hid (H4.out.keptNone hga)
  have HX := Lib.hid (show Go.Proofs.Ytnglbneefkdfgaa.Src (w4.alloc (.cells #[.int .u8 120, .int .u8 121] 5 (2, 3))) (some ⟨w4.heap.size, 0, none⟩) [120, 121] from src_lit w4 [120, 121] 2 3)
  clear hga
  have C := send_any _ B c4 (⟨[[97, 98, 99], [100]], 0, []⟩ : Nh) _ HK.out.ns (by constructor <;> decide) (fun k hk => (HK.out.mw k hk).2) (some ⟨w4.heap.size, 0, none⟩) 2 2 [120, 121] rfl HX.out
  rw [show (⟨[[97, 98, 99], [100]], 0, []⟩ : Nh).sendAt [120, 121] = 0 from by decide, show (⟨[[97, 98, 99], [100]], 0, []⟩ : Nh).sendNo [120, 121] = 0 from by decide, show (⟨[[97, 98, 99], [100]], 0, []⟩ : Nh).send [120, 121] = ⟨[[97, 98, 99], [100]], 0, [[120, 121]]⟩ from by rfl] at C
  go_wp2_with fail
  refine C.mono ?_; rintro e w5 ⟨c5, rfl, hL⟩
  have H5 := Lib.hid (HK.out.step hL)
  have HN5 := Lib.hid (show ∀ k, own c5 B k → own c4 B k ∨ w4.heap.size ≤ k from fun k hk => (hL.newl k hk).imp id (fun h => by simp at h; omega))
  have hz5 := HK.out.g.size
  have HS4' := Lib.hid ((HS4.out.keptNone (World.grownBy_alloc w4 (.cells #[.int .u8 120, .int .u8 121] 5 (2, 3)) none)).keeps hL.keep (fun _ b o e hb => by have h1 := HR4.out b (by rw [e]; rfl); rw [HC4.out] at hb; have := HO4.out b hb; omega))
  have HZ5 := Lib.hid (show w4.heap.size ≤ w5.heap.size from by have := hL.keep.size; simp at this; omega)
  clear hL C kc HK HX H4 hz5
  have HNO := Lib.hid (show ∀ b o, a4 = some ⟨b, o, none⟩ → ¬ own c5 B b from fun b o e hb => by
    have h1 := HR4.out b (by rw [e]; rfl)
    rcases HN5.out b hb with h | h
    · rw [HC4.out] at h; have := HO4.out b h; omega
    · omega)
  have HS5 := Lib.hid (show Go.Proofs.Ytnglbneefkdfgaa.Src w5 a4 [97, 98, 99] from HS4'.out)
  have k1 := conv_srcn (n := 3) (c := cap4) rfl HS5.out
  go_wp2_with fail
  refine (num_any _ _).mono ?_; rintro e w' ⟨rfl, rfl⟩
  go_wp2_with fail
  refine (num_any _ _).mono ?_; rintro e w' ⟨rfl, rfl⟩
  go_wp2_with fail
  refine (num_any _ _).mono ?_; rintro e w' ⟨rfl, rfl⟩
  have C := take_any _ B c5 (⟨[[97, 98, 99], [100]], 0, [[120, 121]]⟩ : Nh) _ H5.out.ns
  rw [show (⟨[[97, 98, 99], [100]], 0, [[120, 121]]⟩ : Nh).more = true from by decide, show (⟨[[97, 98, 99], [100]], 0, [[120, 121]]⟩ : Nh).take = ⟨[[97, 98, 99], [100]], 1, [[120, 121]]⟩ from by rfl] at C
  go_wp2_with fail
  refine C.mono ?_; rintro e w6 ⟨c6, rfl, hL⟩
  have H6 := Lib.hid (H5.out.step hL)
  clear hL C k1
  go_wp2_with fail
  refine (waits_ns _ B c6 (⟨[[97, 98, 99], [100]], 1, [[120, 121]]⟩ : Nh) 1 _ rfl H6.out.ns).mono ?_; rintro e w' ⟨rfl, rfl⟩
  go_wp2_with fail
  refine (sent_q _ B c6 (⟨[[97, 98, 99], [100]], 1, [[120, 121]]⟩ : Nh) 1 _ rfl H6.out.ns (by constructor <;> decide) (by decide)).mono ?_; rintro e w7 ⟨a8, cap8, vs8, rfl, -, -, h2⟩
  have HG := Lib.hid (H6.out.g.trans h2)
  clear h2
  go_wp2
  go_ret
  exact ⟨rfl, HG.out⟩
end Go.Proofs.Ytnglbneefkdfgaa
