import Derived.Test.YtmdgehpmeikgfaaH
namespace Go.Proofs.Ytmdgehpmeikgfaa
open Go.RowKit
set_option maxHeartbeats 4000000 in
theorem tell_lk (B : Nat) (c : Lc) (x : UInt8) (l : List UInt8) (w : World) (hL : Lk w B c) (hQ : Sl w c.ov l) (hl : l.length ≤ 999999) :
    Calls Try.prog 26 #[.pointer (some ⟨B, 0, none⟩), .int .u8 (x.toNat : Int)] w fun e w' => ∃ v', e = .returned (.int .i64 (l.length : Nat)) ∧ Lk w' B { c with ov := v' } ∧ Sl w' v' (l ++ [x]) ∧ Keeps (fun k => k = B ∨ rowOf c.ov = some k) w w' ∧ (rowOf v' = rowOf c.ov ∨ ∃ g, rowOf v' = some g ∧ w.heap.size ≤ g) := by
  obtain ⟨qa, qcap, hq, hqc⟩ := hQ.shape
  have HQ := Lib.hid hQ
  have HL := Lib.hid hL
  have c6 : w.cell? ⟨B, 8, none⟩ = some (.slice qa l.length qcap) := (hL.cell 8).trans (congrArg some hq)
  have hG := World.grownBy_alloc w (.cells #[.int .u8 (x.toNat : Int)] 5) none
  have hQd : Sl (w.alloc (.cells #[.int .u8 (x.toNat : Int)] 5)) (.slice qa l.length qcap) l := hq ▸ hQ.keptNone hG
  have hXd : Go.Src Try.prog 1 27 (.slice (some ⟨w.heap.size, 0, none⟩) 1 1) [x].length (bsV [x]) (w.alloc (.cells #[.int .u8 (x.toNat : Int)] 5)) :=
    Go.Src.ofSlice _ Try.underlying27 ⟨w.heap.size, 0, none⟩ 1 1 (bsV [x]) (by simp [bsV]) (cell_one_new w (.int .u8 (x.toNat : Int)) 5) (bs_one [x])
  have HG := Lib.hid hG
  clear hQ hL hG
  go_enter Try.func26, Try.ntmps26
  go_wp2_with fail
  refine (none_lk B c _ HL.out).mono ?_; rintro e w' ⟨rfl, rfl⟩
  go_wp2_with (at_builtin; refine wpList_sl rfl _ _ rfl _ _ l [x] rfl rfl hQd hXd (by simp; omega) ?_)
  intro v2 w2 hQ2 hg2 hr2
  obtain ⟨a2, cap2, hv2, hc2⟩ := hQ2.shape
  rw [List.length_append, List.length_singleton] at hv2
  subst hv2
  have hneB : rowOf (.slice qa l.length qcap) ≠ some B := fun e => hQd.ne (b := B) (HL.out.keptNone HG.out).blk (by decide) B e rfl
  have hL2 : Lk w2 B c := (HL.out.keptNone HG.out).kept hg2 (fun e => hneB e.symm)
  have k6 : w2.cell? ⟨B, 8, none⟩ = some (.slice qa l.length qcap) := (hL2.cell 8).trans (congrArg some hq)
  have f6 := hL2.free 8
  have k8 : (w2.setCell ⟨B, 8, none⟩ (.slice a2 (l.length + 1) cap2)).cell? ⟨B, 8, none⟩ = some (.slice a2 (l.length + 1) cap2) := World.cell?_setCell_same' _ _ _ (by rw [k6]; rfl)
  have HL3 := Lib.hid (show Lk (w2.setCell ⟨B, 8, none⟩ (.slice a2 (l.length + 1) cap2)) B { c with ov := .slice a2 (l.length + 1) cap2 } from hL2.set 8 _ rfl)
  have HQ3 := Lib.hid (hQ2.kept (Lk.set_grown (B := B) 8 (.slice a2 (l.length + 1) cap2)) (hQ2.ne hL2.blk (by decide)))
  have HK := Lib.hid (((Keeps.of (X := fun k => k = B ∨ rowOf c.ov = some k) HG.out (fun r e => by cases e)).trans (Keeps.of hg2 (fun r e => by rw [hq]; exact .inr e))).trans (Keeps.of (Lk.set_grown (B := B) 8 (.slice a2 (l.length + 1) cap2)) (fun r e => by cases e; exact .inl rfl)))
  have HR := Lib.hid hr2
  clear hQ2 hg2 hr2 hQd hXd hL2
  go_wp2
  go_ret
  refine ⟨_, by simp, HL3.out, HQ3.out, HK.out, ?_⟩
  rw [hq]
  exact HR.out.imp id (fun e => ⟨_, e, by simp⟩)
end Go.Proofs.Ytmdgehpmeikgfaa
