import Derived.Test.YtmdgehpmeikgfaaY
import Derived.Lib.SlBytesConst
set_option linter.unusedVariables false
namespace Go.Proofs.Ytmdgehpmeikgfaa
open Go.RowKit
theorem src_two (w : World) (x y : UInt8) : Go.Proofs.Ytmdgehpmeikgfaa.Src (w.alloc (.cells #[.int .u8 (x.toNat : Int), .int .u8 (y.toNat : Int)] 5 (2, 3))) (some ⟨w.heap.size, 0, none⟩) [x, y] := by
  refine .inr ⟨_, _, rfl, fun j hj => ?_⟩
  rw [Nat.zero_add]
  have := cells_all (heap_alloc_new w (.cells #[.int .u8 (x.toNat : Int), .int .u8 (y.toNat : Int)] 5 (2, 3))) j
  rw [this]
  match j, hj with
  | 0, _ => rfl
  | 1, _ => rfl
set_option maxHeartbeats 8000000 in
theorem works_any (w : World) : Calls Try.prog 23 #[] w fun e w' => e = .returned (.bool true) ∧ w.grownBy w' none := by
  go_enter Try.func23, Try.ntmps23
  go_wp2_with fail
  refine (new_any _).mono ?_; rintro e w1 ⟨B, rfl, hB, hT1, hg1⟩
  have H1 := Lib.hid (Wk.start hB hT1 hg1)
  clear hT1 hg1
  go_wp2_with fail
  refine (ls_setAlarm B _ _ 5 _ H1.out.ls).mono ?_; rintro e w2 ⟨rfl, c2, hp⟩
  have H2 := Lib.hid (show Wk w w2 B c2 ⟨5, 0, false, false, [], 0, []⟩ from H1.out.step hp)
  clear hp H1
  go_wp2_with fail
  refine (ls_setMask B c2 _ 31 (by decide) _ H2.out.ls).mono ?_; rintro e w3 ⟨rfl, c3, hp⟩
  have H3 := Lib.hid (show Wk w w3 B c3 ⟨5, 15, false, false, [], 0, []⟩ from H2.out.step hp)
  clear hp H2
  have C := pending_ls B c3 _ 5 _ H3.out.ls (by refine ⟨?_, ?_, ?_, ?_⟩ <;> decide)
  rw [show pend 15 (Gh.wantL ⟨5, 15, false, false, [], 0, []⟩ 5) = some 0 from by decide] at C
  go_wp2_with fail
  refine C.mono ?_; rintro e w4 ⟨rfl, hg⟩
  have H4 := Lib.hid (show Wk w w4 B c3 ⟨5, 15, false, false, [], 0, []⟩ from H3.out.keptNone hg)
  clear hg H3 C
  have kc := Lib.run_convert_bytes_const (P := Try.prog) w4 27 5 #[.int .u8 97, .int .u8 98] 2 2 Try.underlying27 Try.underlying5
  have H5 := Lib.hid (H4.out.keptNone (World.grownBy_alloc w4 (.cells #[.int .u8 97, .int .u8 98] 5 (2, 3)) none))
  have hX := Lib.hid (show Go.Proofs.Ytmdgehpmeikgfaa.Src (w4.alloc (.cells #[.int .u8 97, .int .u8 98] 5 (2, 3))) (some ⟨w4.heap.size, 0, none⟩) [97, 98] from src_two w4 97 98)
  go_wp2_with fail
  refine (ls_push_ok B c3 _ [97, 98] _ 2 _ H5.out.ls (by refine ⟨?_, ?_, ?_, ?_⟩ <;> decide) hX.out (by decide) (by decide)).mono ?_; rintro e w6 ⟨rfl, c6, hp⟩
  have H6 := Lib.hid (show Wk w w6 B c6 ⟨5, 15, false, false, [97, 98], 0, []⟩ from H5.out.step hp)
  clear hp H5 hX kc
  go_wp2_with fail
  refine (ls_take_one B c6 _ _ H6.out.ls (by decide) (by decide)).mono ?_; rintro e w7 ⟨rfl, c7, hp⟩
  have H7 := Lib.hid (show Wk w w7 B c7 ⟨5, 15, false, false, [97, 98], 1, []⟩ from H6.out.step hp)
  clear hp H6
  go_wp2_with fail
  refine (ls_setMask B c7 _ 12 (by decide) _ H7.out.ls).mono ?_; rintro e w8 ⟨rfl, c8, hp⟩
  have H8 := Lib.hid (show Wk w w8 B c8 ⟨5, 12, false, false, [97, 98], 1, []⟩ from H7.out.step hp)
  clear hp H7
  have C := pending_ls B c8 _ 9 _ H8.out.ls (by refine ⟨?_, ?_, ?_, ?_⟩ <;> decide)
  rw [show pend 12 (Gh.wantL ⟨5, 12, false, false, [97, 98], 1, []⟩ 9) = none from by decide] at C
  go_wp2_with fail
  refine C.mono ?_; rintro e w9 ⟨rfl, hg⟩
  have H9 := Lib.hid (show Wk w w9 B c8 ⟨5, 12, false, false, [97, 98], 1, []⟩ from H8.out.keptNone hg)
  clear hg H8 C
  go_wp2_with fail
  refine (num_any _ _).mono ?_; rintro e w' ⟨rfl, rfl⟩
  have C9 := wants_ls B c8 _ 4 w9 H9.out.ls (by refine ⟨?_, ?_, ?_, ?_⟩ <;> decide)
  rw [show setL (Gh.wantL ⟨5, 12, false, false, [97, 98], 1, []⟩ 4) = 2 from by decide] at C9
  go_wp2_with fail
  refine C9.mono ?_; rintro e u1 ⟨rfl, hg⟩
  have H10 := Lib.hid (H9.out.keptNone hg)
  clear hg C9 H9
  go_wp2_with fail
  refine (ls_tell B c8 _ 120 _ H10.out.ls (by decide)).mono ?_; rintro e u2 ⟨rfl, c11, hp⟩
  have H11 := Lib.hid (H10.out.step hp)
  clear hp H10
  go_wp2_with fail
  refine (told_sl B c11 _ _ H11.out.ls.lk H11.out.ls.o (by decide)).mono ?_; rintro e u3 ⟨a5, cap5, rfl, hQ5, h5⟩
  have k : (convert 27 9 (.slice a5 1 cap5)).run Try.prog u3 = .ok (.string ⟨#[120]⟩) u3 := conv_sl hQ5
  have ke : ((⟨#[120]⟩ : ByteArray) == ⟨#[120]⟩) = true := by decide
  have HG := Lib.hid (H11.out.grown.trans h5)
  clear hQ5 h5 H11
  go_wp2
  go_ret
  exact ⟨rfl, HG.out⟩
end Go.Proofs.Ytmdgehpmeikgfaa
