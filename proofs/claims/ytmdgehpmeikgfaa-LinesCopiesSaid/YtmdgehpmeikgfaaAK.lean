import Derived.Test.YtmdgehpmeikgfaaAJ
import Derived.Lib.SlBytesConst
set_option linter.unusedVariables false
namespace Go.Proofs.Ytmdgehpmeikgfaa
open Go.RowKit
theorem sameG_refl (g : Gh) : sameG g g = true := by simp [sameG]
theorem sameG_symm (a b : Gh) : sameG a b = sameG b a := by
  unfold sameG
  congr 1
  · simp [eq_comm]
  congr 1
  · simp [eq_comm]
  congr 1
  · simp [eq_comm]
  congr 1
  · simp [eq_comm]
  congr 1
  · simp [eq_comm]
  · simp [eq_comm]
theorem src_one (w : World) (x : UInt8) : Go.Proofs.Ytmdgehpmeikgfaa.Src (w.alloc (.cells #[.int .u8 (x.toNat : Int)] 5 (1, 2))) (some ⟨w.heap.size, 0, none⟩) [x] := by
  refine .inr ⟨_, _, rfl, fun j hj => ?_⟩
  rw [Nat.zero_add]
  have := cells_all (heap_alloc_new w (.cells #[.int .u8 (x.toNat : Int)] 5 (1, 2))) j
  rw [this]
  match j, hj with
  | 0, _ => rfl
theorem srcX_one (w : World) (x : Ac) (bx : List UInt8) (hbn : x.bn = bx.length) (hX : Go.Proofs.Ytmdgehpmeikgfaa.Src w x.ba bx) (hwd : x.word < 4294967296) (hbl : bx.length ≤ 140737488355328) : SrcX (w.alloc (.cells x.cells 49)) (some ⟨w.heap.size, 0, none⟩) 1 (fun _ => x) (fun _ => bx) := by
  refine .inr ⟨_, _, rfl, fun j hj => ⟨fun i v hv => ?_, hbn, hX.keptNone (World.grownBy_alloc _ _ _), hwd, hbl⟩⟩
  obtain rfl : j = 0 := by omega
  have := cells_all (heap_alloc_new w (.cells x.cells 49)) i
  simp only [Nat.zero_mul, Nat.zero_add]
  rw [this]
  simpa using hv
/-- All that stands when the copies have gone on. -/
structure CQ (w0 w : World) (B Bc Bd A1 A2 A3 : Nat) (c cc cd : Lc) (r r1 r2 : Rf) (g g1 g2 : Gh) : Prop where
  l : LS w B c g1
  c' : LS w Bc cc g
  d : LS w Bd cd g2
  r' : RS w r g
  s : RS w r1 g1
  t : RS w r2 g2
  x : w.heap[A1]? = some (.cells r.cells 29 (0, 0))
  y : w.heap[A2]? = some (.cells r1.cells 29 (0, 0))
  z : w.heap[A3]? = some (.cells r2.cells 29 (0, 0))
  grown : w0.grownBy w none
theorem CQ.kn {w0 w w' : World} {B Bc Bd A1 A2 A3 : Nat} {c cc cd : Lc} {r r1 r2 : Rf} {g g1 g2 : Gh} (h : CQ w0 w B Bc Bd A1 A2 A3 c cc cd r r1 r2 g g1 g2) (hg : w.grownBy w' none) : CQ w0 w' B Bc Bd A1 A2 A3 c cc cd r r1 r2 g g1 g2 :=
  ⟨h.l.keptNone hg, h.c'.keptNone hg, h.d.keptNone hg, h.r'.keptNone hg, h.s.keptNone hg, h.t.keptNone hg, (hg.block _ (lt_of_block h.x) (by simp)).trans h.x, (hg.block _ (lt_of_block h.y) (by simp)).trans h.y, (hg.block _ (lt_of_block h.z) (by simp)).trans h.z, h.grown.trans hg⟩
theorem exec_ld49 {op : Oper} {ρ : Operand → Value} {W : World} {b : Nat} {v : Ac} {x : Operand} (ho : op.op = .load 49 x) (hx : ρ x = .pointer (some ⟨b, 0, none⟩)) (h : W.heap[b]? = some (.cells v.cells 49 (0, 0))) : (execOp ρ op).run Try.prog W = .ok (.value v.val) W := by
  simp only [execOp, ho, hx, Sem.run_bind, ld49 h, Result.andThen_ok, Sem.run_pure]
set_option maxRecDepth 100000 in
set_option maxHeartbeats 32000000 in
theorem linesCopies_walk (a : Option Addr) (n cap : Nat) (l : Nat → Ac) (bs : Nat → List UInt8) (x : Ac) (bx : List UInt8) (w : World) (hs : SrcX w a n l bs) (hm : n ≤ 9223372036854775807) (hbn : x.bn = bx.length) (hX : Go.Proofs.Ytmdgehpmeikgfaa.Src w x.ba bx) (hwd : x.word < 4294967296) (hbl : bx.length ≤ 140737488355328) :
    Calls Try.prog 8 #[.slice a n cap, x.val] w fun e w' => e = .returned (.bool true) ∧ w.grownBy w' none := by
  have hg0 := World.grownBy_alloc w (.cells x.cells 49) none
  have HXB := Lib.hid (heap_alloc_new w (.cells x.cells 49))
  have HG0 := Lib.hid hg0
  have hs0 : SrcX (w.alloc (.cells x.cells 49)) a n l bs := hs.imp id (fun ⟨b, o, e, h⟩ => ⟨b, o, e, fun j hj => by
    obtain ⟨h1, h2, h3, h4, h5⟩ := h j hj
    exact ⟨rangeAt_of h1 (hg0.block b (World.block_lt_of_cell? w _ (h1 0 _ rfl)) (by simp)), h2, h3.keptNone hg0, h4, h5⟩⟩)
  have C := few_any a n cap l bs _ hs0 hm
  have HBN := Lib.hid hbn
  have HX := Lib.hid hX
  have HS := Lib.hid hs0
  clear hs hs0 hbn hX hg0
  by_cases hc : cost l n ≤ 5000
  rotate_left
  · have hd : decide (cost l n ≤ 5000) = false := by simp [hc]
    rw [hd] at C
    clear hd hc
    go_enter Try.func8, Try.ntmps8
    go_wp2_with fail
    refine C.mono ?_; rintro e w' ⟨rfl, rfl⟩
    clear C
    go_wp2_with fail
    refine (works_any _).mono ?_; rintro e wz ⟨rfl, hgz⟩
    have HGz := Lib.hid (HG0.out.trans hgz)
    clear hgz
    go_wp2
    go_ret
    exact ⟨rfl, HGz.out⟩
  have hd : decide (cost l n ≤ 5000) = true := by simp [hc]
  rw [hd] at C
  have hsx : SrcX ((w.alloc (.cells x.cells 49)).alloc (.cells x.cells 49)) (some ⟨w.heap.size + 1, 0, none⟩) 1 (fun _ => x) (fun _ => bx) := by
    have h := srcX_one (w.alloc (.cells x.cells 49)) x bx HBN.out (HX.out.keptNone HG0.out) hwd hbl
    rwa [World.size_alloc] at h
  have C1 := few_any _ 1 1 _ _ _ hsx (by omega)
  have HG1 := Lib.hid (HG0.out.trans (World.grownBy_alloc (w.alloc (.cells x.cells 49)) (.cells x.cells 49) none))
  have HXB1 := Lib.hid (((World.grownBy_alloc (w.alloc (.cells x.cells 49)) (.cells x.cells 49) none).block _ (lt_of_block HXB.out) (by simp)).trans HXB.out)
  by_cases hcx : cost (fun _ => x) 1 ≤ 5000
  rotate_left
  · have hd1 : decide (cost (fun _ => x) 1 ≤ 5000) = false := by simp [hcx]
    rw [hd1] at C1
    clear hd hc hd1 hcx hsx
    go_enter Try.func8, Try.ntmps8
    go_wp2_with fail
    refine C.mono ?_; rintro e w' ⟨rfl, rfl⟩
    clear C
    go_wp2_with (with_reducible refine hold_ld 49 _ rfl ?_)
    apply Lib.hid
    refine wpList_val (by rfl) (exec_ld49 (x := .tmp 3) rfl rfl HXB.out) ?_
    go_wp2_with fail
    refine C1.mono ?_; rintro e w' ⟨rfl, rfl⟩
    clear C1
    go_wp2_with fail
    refine (works_any _).mono ?_; rintro e wz ⟨rfl, hgz⟩
    have HGz := Lib.hid (HG1.out.trans hgz)
    clear hgz
    go_wp2
    go_ret
    exact ⟨rfl, HGz.out⟩
  have hd1 : decide (cost (fun _ => x) 1 ≤ 5000) = true := by simp [hcx]
  rw [hd1] at C1
  have hbx : bx.length ≤ 5000 := by
    have : (0 + 40 + x.bn) ≤ 5000 := hcx
    rw [HBN.out] at this
    omega
  have hcn : n ≤ 125 := by have := cost_ge l n; omega
  have hbl' : ∀ j, j < n → (bs j).length ≤ 500000 := fun j hj => by
    rcases HS.out with h | ⟨b, o, _, h⟩
    · omega
    · have := cost_bn l j n hj
      rw [(h j hj).2.1] at this
      omega
  have hwds : ∀ j, j < n → (l j).word < 4294967296 := fun j hj => by
    rcases HS.out with h | ⟨b, o, _, h⟩
    · omega
    · exact (h j hj).2.2.2.1
  have HWG := Lib.hid (wg_run l bs hwds n (Nat.le_refl _))
  have hp1 := run_pushed l bs n
  have ht1 := run_told l bs n
  have hs1 : SrcX ((w.alloc (.cells x.cells 49)).alloc (.cells x.cells 49)) a n l bs := HS.out.imp id (fun ⟨b, o, e, h⟩ => ⟨b, o, e, fun j hj => by
    obtain ⟨h1, h2, h3, h4, h5⟩ := h j hj
    exact ⟨rangeAt_of h1 ((World.grownBy_alloc (w.alloc (.cells x.cells 49)) (.cells x.cells 49) none).block b (World.block_lt_of_cell? _ _ (h1 0 _ rfl)) (by simp)), h2, h3.keptNone (World.grownBy_alloc _ _ _), h4, h5⟩⟩)
  have C2 := played_any a n cap l bs _ hs1 (by omega) hbl'
  obtain ⟨g, hg⟩ : ∃ g, g = Gh.run l bs n := ⟨_, rfl⟩
  rw [← hg] at C2 HWG hp1 ht1
  clear hd hc hd1 hcx hsx hs1 HS hbl' hwds hg
  go_enter Try.func8, Try.ntmps8
  go_wp2_with fail
  refine C.mono ?_; rintro e w' ⟨rfl, rfl⟩
  clear C
  go_wp2_with (with_reducible refine hold_ld 49 _ rfl ?_)
  apply Lib.hid
  refine wpList_val (by rfl) (exec_ld49 (x := .tmp 3) rfl rfl HXB.out) ?_
  go_wp2_with fail
  refine C1.mono ?_; rintro e w' ⟨rfl, rfl⟩
  clear C1
  go_wp2_with fail
  refine C2.mono ?_; rintro e w1 ⟨B, c, r, rfl, hL1, hR1, hsep, hnl, hnr, hg1⟩
  have HN := Lib.hid (heap_alloc_new w1 (.cells Rf.zero.cells 29))
  have hga := World.grownBy_alloc w1 (.cells Rf.zero.cells 29) none
  have HLa := Lib.hid (hL1.keptNone hga)
  have HRa := Lib.hid (hR1.keptNone hga)
  have HGa := Lib.hid ((HG1.out.trans hg1).trans hga)
  have hsz := (HG1.out.trans hg1).size
  have HNO := Lib.hid ((hL1.keptNone hga).nown HN.out)
  have HNR := Lib.hid ((hR1.keptNone hga).nrow HN.out)
  have HSEP := Lib.hid hsep
  have HNL := Lib.hid (show ∀ k, own c B k → w.heap.size ≤ k from fun k hk => Nat.le_trans HG1.out.size (hnl k hk))
  have HXB2 := Lib.hid ((hga.block _ (lt_of_block ((hg1.block _ (lt_of_block HXB1.out) (by simp)).trans HXB1.out)) (by simp)).trans ((hg1.block _ (lt_of_block HXB1.out) (by simp)).trans HXB1.out))
  clear hga hg1 hL1 hR1 C2 hsep hnl hnr HXB HXB1
  go_wp2_with (with_reducible refine hold_st 29 _ _ rfl ?_)
  apply Lib.hid
  with_reducible refine wpList_store_all rfl 29 _ _ rfl _ ?cs5501 ?hx5501 ?hy5501 _ _ HN.out ?hf5501 _ ?hl5501 Try.size29 ?h15501 ?_
  case hy5501 => exact rfl
  case hx5501 => exact rfl
  case hf5501 => exact rfl
  case hl5501 => exact rfl
  case h15501 => simp [allOne, Value.oneCell']
  intro w2 hb2 hg2
  have hk2 : Keeps (fun k => k = w1.heap.size) (w1.alloc (.cells Rf.zero.cells 29)) w2 := Keeps.row hg2 rfl
  have HX2 := Lib.hid (show w2.heap[w1.heap.size]? = some (.cells r.cells 29 (0, 0)) from hb2)
  have HL2 := Lib.hid (HLa.out.keeps hk2 (fun k hk e => HNO.out (e ▸ hk)))
  have HR2 := Lib.hid (HRa.out.keeps hk2 (fun k hk e => HNR.out (e ▸ hk)))
  have HG2 := Lib.hid (grown_new HGa.out hg2 hsz)
  have HXB3 := Lib.hid ((hg2.block _ (lt_of_block HXB2.out) (fun e => by
    have e2 := Option.some.inj e
    have h1 := HXB2.out
    rw [e2, HN.out] at h1
    cases h1)).trans HXB2.out)
  clear hb2 hg2 hk2 HN HLa HRa HGa HXB2
  go_wp2_with fail
  refine (copy_ls B c g w2 HL2.out (by omega) (by omega)).mono ?_; rintro e w3 ⟨Bc, cc, rfl, hC, hnc, hg3⟩
  have HC3 := Lib.hid hC
  have HNC := Lib.hid hnc
  have HL3 := Lib.hid (HL2.out.keptNone hg3)
  have HR3 := Lib.hid (HR2.out.keptNone hg3)
  have HX3 := Lib.hid ((hg3.block _ (lt_of_block HX2.out) (by simp)).trans HX2.out)
  have HXB4 := Lib.hid ((hg3.block _ (lt_of_block HXB3.out) (by simp)).trans HXB3.out)
  have HG3 := Lib.hid (HG2.out.trans hg3)
  have HZ3 := Lib.hid hg3.size
  clear hC hnc hg3
  go_wp2_with fail
  refine (copy_ls B c g w3 HL3.out (by omega) (by omega)).mono ?_; rintro e w4 ⟨Bd, cd, rfl, hC, hnc, hg4⟩
  have HD4 := Lib.hid hC
  have HND := Lib.hid hnc
  have HC4 := Lib.hid (HC3.out.keptNone hg4)
  have HL4 := Lib.hid (HL3.out.keptNone hg4)
  have HR4 := Lib.hid (HR3.out.keptNone hg4)
  have HX4 := Lib.hid ((hg4.block _ (lt_of_block HX3.out) (by simp)).trans HX3.out)
  have HXB5 := Lib.hid ((hg4.block _ (lt_of_block HXB4.out) (by simp)).trans HXB4.out)
  have HG4 := Lib.hid (HG3.out.trans hg4)
  have HZ4 := Lib.hid hg4.size
  clear hC hnc hg4
  have CS := same_ls B Bc c cc g g w4 HL4.out HC4.out (by omega) (by omega)
  rw [sameG_refl] at CS
  go_wp2_with fail
  refine CS.mono ?_; rintro e w5 ⟨rfl, hg5⟩
  have HL5 := Lib.hid (HL4.out.keptNone hg5)
  have HC5 := Lib.hid (HC4.out.keptNone hg5)
  have HD5 := Lib.hid (HD4.out.keptNone hg5)
  have HR5 := Lib.hid (HR4.out.keptNone hg5)
  have HX5 := Lib.hid ((hg5.block _ (lt_of_block HX4.out) (by simp)).trans HX4.out)
  have HXB6 := Lib.hid ((hg5.block _ (lt_of_block HXB5.out) (by simp)).trans HXB5.out)
  have HG5 := Lib.hid (HG4.out.trans hg5)
  have HZ5 := Lib.hid hg5.size
  clear hg5 CS
  go_wp2_with (with_reducible refine hold_ld 29 _ rfl ?_)
  apply Lib.hid
  with_reducible refine wpList_load_blk rfl 29 _ rfl _ ?o5502 ?hx5502 _ _ _ HX5.out _ 9 ?hn5502 Try.underlying29 rfl Try.size29 ?_
  case hx5502 => exact rfl
  case hn5502 => exact rfl
  go_wp2_with (with_reducible refine hold_ld 49 _ rfl ?_)
  apply Lib.hid
  refine wpList_val (by rfl) (exec_ld49 (x := .tmp 3) rfl rfl HXB6.out) ?_
  have CA := act_any B c r g x bx w5 HL5.out HR5.out HSEP.out HWG.out HBN.out (HX.out.keptNone HG5.out) (fun hne b' o' e hk => by have h1 := HNL.out _ hk; have h2 := Go.Proofs.Ytmdgehpmeikgfaa.Src.lt (src_at e HX.out) hne; omega) (by omega) (by omega) (by omega) hwd
  go_wp2_with fail
  refine CA.mono ?_; rintro e w6 ⟨c', r', rfl, hP⟩
  obtain ⟨g1, hg1⟩ : ∃ g1, g1 = g.step x bx := ⟨_, rfl⟩
  rw [← hg1] at hP
  have HWG1 := Lib.hid (show WG g1 from hg1 ▸ HWG.out.step x hwd bx)
  have hp2 : g1.pushed.length ≤ 500000 := by have := (g.step_pushed x bx).1; rw [← hg1] at this; omega
  have ht2 : g1.told.length ≤ 500000 := by have := g.step_told x bx; rw [← hg1] at this; omega
  -- what is apart
  have hdl : ∀ k, own cc Bc k → ¬ own c B k := fun k h1 h2 => by have h3 := HNC.out k h1; have h4 := HL2.out.lt k h2; omega
  have hdl2 : ∀ k, own cd Bd k → ¬ own c B k := fun k h1 h2 => by have h3 := HND.out k h1; have h4 := HL3.out.lt k h2; omega
  have HC6 := Lib.hid (HC5.out.keeps hP.keep hdl)
  have HD6 := Lib.hid (HD5.out.keeps hP.keep hdl2)
  have HR6 := Lib.hid (HR5.out.keeps hP.keep (fun k h1 h2 => HSEP.out k h2 h1))
  have HX6 := Lib.hid ((hP.keep.block _ (lt_of_block HX5.out) (HL5.out.nown HX5.out)).trans HX5.out)
  have HG6 := Lib.hid (show w.grownBy w6 none from ((Keeps.keep (X := fun k => w.heap.size ≤ k) HG5.out).trans (hP.keep.mono (fun i _ h => HNL.out i h))).toGrown (fun i hi h => by omega))
  have HL6 := Lib.hid hP.ls
  have HS6 := Lib.hid hP.rs
  have HNL6 := Lib.hid (show ∀ k, own c' B k → own c B k ∨ w5.heap.size ≤ k from hP.newl)
  have HNR6 := Lib.hid (show ∀ k, rrow r' k → rrow r k ∨ w5.heap.size ≤ k from hP.newr)
  have HZ6 := Lib.hid hP.keep.size
  clear hP hdl hdl2 CA hg1
  have hgb := World.grownBy_alloc w6 (.cells Rf.zero.cells 29) none
  have HNb := Lib.hid (heap_alloc_new w6 (.cells Rf.zero.cells 29))
  have HGb := Lib.hid hgb
  clear hgb
  go_wp2_with (with_reducible refine hold_st 29 _ _ rfl ?_)
  apply Lib.hid
  with_reducible refine wpList_store_all rfl 29 _ _ rfl _ ?cs5503 ?hx5503 ?hy5503 _ _ HNb.out ?hf5503 _ ?hl5503 Try.size29 ?h15503 ?_
  case hy5503 => exact rfl
  case hx5503 => exact rfl
  case hf5503 => exact rfl
  case hl5503 => exact rfl
  case h15503 => simp [allOne, Value.oneCell']
  intro w7 hb7 hg7
  have hg67 : w6.grownBy w7 none := grown_new HGb.out hg7 (Nat.le_refl _)
  have HY7 := Lib.hid (show w7.heap[w6.heap.size]? = some (.cells r'.cells 29 (0, 0)) from hb7)
  have HC7 := Lib.hid (HC6.out.keptNone hg67)
  have HD7 := Lib.hid (HD6.out.keptNone hg67)
  have HR7 := Lib.hid (HR6.out.keptNone hg67)
  have HL7 := Lib.hid (HL6.out.keptNone hg67)
  have HS7 := Lib.hid (HS6.out.keptNone hg67)
  have HX7 := Lib.hid ((hg67.block _ (lt_of_block HX6.out) (by simp)).trans HX6.out)
  have HG7 := Lib.hid (HG6.out.trans hg67)
  have HZ7 := Lib.hid hg67.size
  clear hb7 hg7 hg67 HNb HGb
  have kc := Lib.run_convert_bytes_const (P := Try.prog) w7 27 5 #[.int .u8 122] 1 1 Try.underlying27 Try.underlying5
  have hgz := World.grownBy_alloc w7 (.cells #[.int .u8 122] 5 (1, 2)) none
  have HZS := Lib.hid (show Go.Proofs.Ytmdgehpmeikgfaa.Src (w7.alloc (.cells #[.int .u8 122] 5 (1, 2))) (some ⟨w7.heap.size, 0, none⟩) [122] from src_one w7 122)
  have HGz := Lib.hid hgz
  clear hgz
  go_wp2_with (with_reducible refine hold_ld 29 _ rfl ?_)
  apply Lib.hid
  with_reducible refine wpList_load_blk rfl 29 _ rfl _ ?o5504 ?hx5504 _ _ _ HX7.out _ 9 ?hn5504 Try.underlying29 rfl Try.size29 ?_
  case hx5504 => exact rfl
  case hn5504 => exact rfl
  have CB := act_any Bd cd r g ⟨1, 0, some ⟨w7.heap.size, 0, none⟩, 1, 1, 0, 0, false⟩ [122] _ (HD7.out.keptNone HGz.out) (HR7.out.keptNone HGz.out) (fun k h1 h2 => by have h3 := HND.out k h1; have h4 := HR2.out.lt k h2; have := HZ3.out; omega) HWG.out rfl HZS.out (fun hne b' o' e hk => by cases e; have := HD7.out.lt _ hk; omega) (by simp) (by omega) (by omega) (show (0 : Nat) < 4294967296 by decide)
  go_wp2_with fail
  refine CB.mono ?_; rintro e w8 ⟨cd', r2, rfl, hP⟩
  obtain ⟨g2, hg2⟩ : ∃ g2, g2 = g.step ⟨1, 0, some ⟨w7.heap.size, 0, none⟩, 1, 1, 0, 0, false⟩ [122] := ⟨_, rfl⟩
  rw [← hg2] at hP
  have HWG2 := Lib.hid (show WG g2 from hg2 ▸ HWG.out.step _ (show (0 : Nat) < 4294967296 by decide) _)
  have hp3 : g2.pushed.length ≤ 500000 := by have := (g.step_pushed ⟨1, 0, some ⟨w7.heap.size, 0, none⟩, 1, 1, 0, 0, false⟩ [122]).1; rw [← hg2] at this; omega
  have ht3 : g2.told.length ≤ 500000 := by have := g.step_told ⟨1, 0, some ⟨w7.heap.size, 0, none⟩, 1, 1, 0, 0, false⟩ [122]; rw [← hg2] at this; omega
  have hd5 : ∀ k, own cd Bd k → k < w5.heap.size := HD5.out.lt
  have HC8 := Lib.hid ((HC7.out.keptNone HGz.out).keeps hP.keep (fun k h1 h2 => by have h3 := HND.out k h2; have h4 := HC3.out.lt k h1; omega))
  have HL8 := Lib.hid ((HL7.out.keptNone HGz.out).keeps hP.keep (fun k h1 h2 => by have h3 := HND.out k h2; have h5 := hd5 k h2; exact (HNL6.out k h1).elim (fun h => by have h4 := HL3.out.lt k h; omega) (fun h => by omega)))
  have HR8 := Lib.hid ((HR7.out.keptNone HGz.out).keeps hP.keep (fun k h1 h2 => by have h3 := HND.out k h2; have h4 := HR2.out.lt k h1; have := HZ3.out; omega))
  have HS8 := Lib.hid ((HS7.out.keptNone HGz.out).keeps hP.keep (fun k h1 h2 => by have h3 := HND.out k h2; have h5 := hd5 k h2; exact (HNR6.out k h1).elim (fun h => by have h4 := HR2.out.lt k h; have := HZ3.out; omega) (fun h => by omega)))
  have HX8 := Lib.hid ((hP.keep.block _ (lt_of_block ((HGz.out.block _ (lt_of_block HX7.out) (by simp)).trans HX7.out)) ((HD7.out.keptNone HGz.out).nown ((HGz.out.block _ (lt_of_block HX7.out) (by simp)).trans HX7.out))).trans ((HGz.out.block _ (lt_of_block HX7.out) (by simp)).trans HX7.out))
  have HY8 := Lib.hid ((hP.keep.block _ (lt_of_block ((HGz.out.block _ (lt_of_block HY7.out) (by simp)).trans HY7.out)) ((HD7.out.keptNone HGz.out).nown ((HGz.out.block _ (lt_of_block HY7.out) (by simp)).trans HY7.out))).trans ((HGz.out.block _ (lt_of_block HY7.out) (by simp)).trans HY7.out))
  have HD8 := Lib.hid hP.ls
  have HT8 := Lib.hid hP.rs
  have HG8 := Lib.hid (show w.grownBy w8 none from ((Keeps.keep (X := fun k => w.heap.size ≤ k) (HG7.out.trans HGz.out)).trans (hP.keep.mono (fun i _ h => by have h3 := HND.out i h; have := HG3.out.size; omega))).toGrown (fun i hi h => by omega))
  clear hP hd5 CB hg2
  have hgb := World.grownBy_alloc w8 (.cells Rf.zero.cells 29) none
  have HNb := Lib.hid (heap_alloc_new w8 (.cells Rf.zero.cells 29))
  have HGb := Lib.hid hgb
  clear hgb kc
  go_wp2_with (with_reducible refine hold_st 29 _ _ rfl ?_)
  apply Lib.hid
  with_reducible refine wpList_store_all rfl 29 _ _ rfl _ ?cs5505 ?hx5505 ?hy5505 _ _ HNb.out ?hf5505 _ ?hl5505 Try.size29 ?h15505 ?_
  case hy5505 => exact rfl
  case hx5505 => exact rfl
  case hf5505 => exact rfl
  case hl5505 => exact rfl
  case h15505 => simp [allOne, Value.oneCell']
  intro w9 hb9 hg9
  have hg89 : w8.grownBy w9 none := grown_new HGb.out hg9 (Nat.le_refl _)
  have HZ9 := Lib.hid (show w9.heap[w8.heap.size]? = some (.cells r2.cells 29 (0, 0)) from hb9)
  have HC9 := Lib.hid (HC8.out.keptNone hg89)
  have HD9 := Lib.hid (HD8.out.keptNone hg89)
  have HR9 := Lib.hid (HR8.out.keptNone hg89)
  have HL9 := Lib.hid (HL8.out.keptNone hg89)
  have HS9 := Lib.hid (HS8.out.keptNone hg89)
  have HT9 := Lib.hid (HT8.out.keptNone hg89)
  have HX9 := Lib.hid ((hg89.block _ (lt_of_block HX8.out) (by simp)).trans HX8.out)
  have HY9 := Lib.hid ((hg89.block _ (lt_of_block HY8.out) (by simp)).trans HY8.out)
  have HG9 := Lib.hid (HG8.out.trans hg89)
  clear hb9 hg9 hg89 HNb HGb
  go_wp2_with (with_reducible refine hold_ld 29 _ rfl ?_)
  apply Lib.hid
  with_reducible refine wpList_load_blk rfl 29 _ rfl _ ?o5506 ?hx5506 _ _ _ HX9.out _ 9 ?hn5506 Try.underlying29 rfl Try.size29 ?_
  case hx5506 => exact rfl
  case hn5506 => exact rfl
  go_wp2_with (with_reducible refine hold_ld 29 _ rfl ?_)
  apply Lib.hid
  with_reducible refine wpList_load_blk rfl 29 _ rfl _ ?o5507 ?hx5507 _ _ _ HY9.out _ 9 ?hn5507 Try.underlying29 rfl Try.size29 ?_
  case hx5507 => exact rfl
  case hn5507 => exact rfl
  have CR := rsame_rs r r' g g1 w9 HR9.out HS9.out HWG.out HWG1.out
  have HQ9 := Lib.hid (CQ.mk HL9.out HC9.out HD9.out HR9.out HS9.out HT9.out HX9.out HY9.out HZ9.out HG9.out)
  have hsy := sameG_symm g1 g
  generalize hsm : sameG g g1 = sm at CR hsy
  have HSM := Lib.hid hsm
  have HSY := Lib.hid hsy
  clear hsm hsy HL9 HC9 HD9 HR9 HS9 HT9 HX9 HY9 HZ9 HG9 HL8 HC8 HD8 HR8 HS8 HT8 HX8 HY8 HG8 HL7 HC7 HD7 HR7 HS7 HX7 HY7 HG7 HL6 HC6 HD6 HR6 HS6 HX6 HG6 HL5 HC5 HD5 HR5 HX5 HG5 HL4 HC4 HD4 HR4 HX4 HG4 HL3 HC3 HR3 HX3 HG3 HL2 HR2 HX2 HG2 HXB3 HXB4 HXB5 HXB6 HZS HGz HNL6 HNR6 HZ3 HZ4 HZ5 HZ6 HZ7 HND HNC HNL HSEP HNO HNR
  go_wp2_with fail
  refine (CR).mono ?_; rintro e w10 ⟨rfl, hg⟩
  have HQ10 := Lib.hid (HQ9.out.kn hg)
  clear hg HQ9 CR
  go_wp2_with fail
  refine (take_nil _).mono ?_; rintro e w' ⟨rfl, rfl⟩
  go_wp2_with fail
  refine (pending_nil 9 _).mono ?_; rintro e w11 ⟨rfl, hg⟩
  have HQ11 := Lib.hid (HQ10.out.kn hg)
  clear hg HQ10
  go_wp2_with fail
  refine (push_nil none 0 0 _).mono ?_; rintro e w' ⟨rfl, rfl⟩
  go_wp2_with fail
  refine (setAlarm_nil 1 _).mono ?_; rintro e w' ⟨rfl, rfl⟩
  go_wp2_with fail
  refine (setMask_nil 1 _).mono ?_; rintro e w' ⟨rfl, rfl⟩
  have d0 := cells_all HQ11.out.x 0
  have d1 := cells_all HQ11.out.x 1
  have d2 := cells_all HQ11.out.x 2
  have d3 := cells_all HQ11.out.x 3
  have d4 := cells_all HQ11.out.x 4
  have d5 := cells_all HQ11.out.x 5
  have d6 := cells_all HQ11.out.x 6
  have d7 := cells_all HQ11.out.x 7
  have d8 := cells_all HQ11.out.x 8
  go_wp2_with fail
  refine (is_ok Bc cc r g _ HQ11.out.c' HQ11.out.r' HWG.out (by omega) (by omega)).mono ?_; rintro e w12 ⟨rfl, hg⟩
  have HQ12 := Lib.hid (HQ11.out.kn hg)
  clear d0 d1 d2 d3 d4 d5 d6 d7 d8 hg HQ11
  have d0 := cells_all HQ12.out.y 0
  have d1 := cells_all HQ12.out.y 1
  have d2 := cells_all HQ12.out.y 2
  have d3 := cells_all HQ12.out.y 3
  have d4 := cells_all HQ12.out.y 4
  have d5 := cells_all HQ12.out.y 5
  have d6 := cells_all HQ12.out.y 6
  have d7 := cells_all HQ12.out.y 7
  have d8 := cells_all HQ12.out.y 8
  go_wp2_with fail
  refine (is_ok B c' r' g1 _ HQ12.out.l HQ12.out.s HWG1.out (by omega) (by omega)).mono ?_; rintro e w13 ⟨rfl, hg⟩
  have HQ13 := Lib.hid (HQ12.out.kn hg)
  clear d0 d1 d2 d3 d4 d5 d6 d7 d8 hg HQ12
  have d0 := cells_all HQ13.out.z 0
  have d1 := cells_all HQ13.out.z 1
  have d2 := cells_all HQ13.out.z 2
  have d3 := cells_all HQ13.out.z 3
  have d4 := cells_all HQ13.out.z 4
  have d5 := cells_all HQ13.out.z 5
  have d6 := cells_all HQ13.out.z 6
  have d7 := cells_all HQ13.out.z 7
  have d8 := cells_all HQ13.out.z 8
  go_wp2_with fail
  refine (is_ok Bd cd' r2 g2 _ HQ13.out.d HQ13.out.t HWG2.out (by omega) (by omega)).mono ?_; rintro e w14 ⟨rfl, hg⟩
  have HQ14 := Lib.hid (HQ13.out.kn hg)
  clear d0 d1 d2 d3 d4 d5 d6 d7 d8 hg HQ13
  have CS := same_ls B Bc c' cc g1 g _ HQ14.out.l HQ14.out.c' (by omega) (by omega)
  rw [HSY.out] at CS
  go_wp2_with fail
  refine (CS).mono ?_; rintro e w15 ⟨rfl, hg⟩
  have HQ15 := Lib.hid (HQ14.out.kn hg)
  clear CS hg HQ14
  have CS := same_ls Bc B cc c' g g1 _ HQ15.out.c' HQ15.out.l (by omega) (by omega)
  rw [HSM.out] at CS
  go_wp2_with fail
  refine (CS).mono ?_; rintro e w16 ⟨rfl, hg⟩
  have HQ16 := Lib.hid (HQ15.out.kn hg)
  clear CS hg HQ15
  go_wp2_with fail
  refine (num_any _ _).mono ?_; rintro e w' ⟨rfl, rfl⟩
  go_wp2_with fail
  refine (raise_nil 2 true _).mono ?_; rintro e w' ⟨rfl, rfl⟩
  go_wp2_with fail
  refine (num_any _ _).mono ?_; rintro e w' ⟨rfl, rfl⟩
  go_wp2_with fail
  refine (alarm_nil _).mono ?_; rintro e w' ⟨rfl, rfl⟩
  go_wp2_with fail
  refine (waits_nil _).mono ?_; rintro e w' ⟨rfl, rfl⟩
  go_wp2_with fail
  refine (queue_nil _).mono ?_; rintro e w' ⟨rfl, rfl⟩
  go_wp2_with fail
  refine (told_nil _).mono ?_; rintro e w' ⟨rfl, rfl⟩
  go_wp2_with fail
  refine (tell_nil 1 _).mono ?_; rintro e w' ⟨rfl, rfl⟩
  go_wp2_with fail
  refine (mask_nil _).mono ?_; rintro e w' ⟨rfl, rfl⟩
  go_wp2_with fail
  refine (raised_nil 2 _).mono ?_; rintro e w' ⟨rfl, rfl⟩
  go_wp2_with fail
  refine (wants_nil 1 _).mono ?_; rintro e w17 ⟨rfl, hg⟩
  have HQ17 := Lib.hid (HQ16.out.kn hg)
  clear hg HQ16
  go_wp2_with fail
  refine (copy_nil _).mono ?_; rintro e w' ⟨rfl, rfl⟩
  go_wp2_with fail
  refine (same_nn _).mono ?_; rintro e w' ⟨rfl, rfl⟩
  go_wp2_with fail
  refine (same_nl Bc cc _ HQ17.out.c'.lk).mono ?_; rintro e w' ⟨rfl, rfl⟩
  go_wp2_with fail
  refine (same_ln Bc cc _ HQ17.out.c'.lk).mono ?_; rintro e w' ⟨rfl, rfl⟩
  go_wp2_with fail
  refine (works_any _).mono ?_; rintro e w18 ⟨rfl, hg⟩
  have HQ18 := Lib.hid (HQ17.out.kn hg)
  clear hg HQ17
  go_wp2
  go_ret
  exact ⟨rfl, HQ18.out.grown⟩
end Go.Proofs.Ytmdgehpmeikgfaa
