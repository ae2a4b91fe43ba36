import Derived.Test.YtnglbneefkdfgaaAA
set_option linter.unusedVariables false
namespace Go.Proofs.Ytnglbneefkdfgaa
open Go.RowKit
theorem LPost.undrew {M : Nat → Prop} {w w' : World} {B : Nat} {c c' : Nc} {g' : Nh} (h : LPost M w.drew w' B c c' g') : LPost M w w' B c c' g' := ⟨h.ns, h.keep.undrew, h.newl⟩
/-- A net, and a list of the packets that came. -/
structure IO (w wr : World) (B : Nat) (M : Nat → Prop) (c : Nc) (g : Nh) (ins : List (List UInt8)) (v : Value) (vs : List Value) : Prop where
  wk : Wk w wr B M c g
  gs : Gs eL wr v ins.length vs
  bl : BL M wr vs ins
  ro : ∀ k, rowOf v = some k → M k ∧ ¬ own c B k
theorem IO.keptNone {w wr wr' : World} {B : Nat} {M : Nat → Prop} {c : Nc} {g : Nh} {ins : List (List UInt8)} {v : Value} {vs : List Value} (h : IO w wr B M c g ins v vs) (hg : wr.grownBy wr' none) : IO w wr' B M c g ins v vs :=
  ⟨h.wk.keptNone hg, h.gs.keptNone hg, h.bl.keeps (X := fun _ => False) (Keeps.keep hg) (fun _ _ h => h.elim), h.ro⟩
theorem IO.net {w wr u : World} {B : Nat} {M : Nat → Prop} {c c' : Nc} {g g' : Nh} {ins : List (List UInt8)} {v : Value} {vs : List Value} (h : IO w wr B M c g ins v vs) (hL : LPost M wr u B c c' g') : IO w u B (with_ M (own c' B)) c' g' ins v vs := by
  have hx : ∀ k, with_ M (own c' B) k → M k ∨ wr.heap.size ≤ k := fun k hk => hk.elim .inl (fun h2 => (hL.newl k h2).imp (h.wk.ns.ow k) id)
  refine ⟨h.wk.step hL, h.gs.keeps hL.keep (fun k hk => (h.ro k hk).2), (h.bl.more hx).keeps hL.keep (fun k _ hk => .inl (h.wk.ns.ow k hk)), fun k hk => ⟨.inl (h.ro k hk).1, fun h2 => ?_⟩⟩
  have := h.gs.lt k hk
  exact (hL.newl k h2).elim (h.ro k hk).2 (fun h3 => by omega)
theorem IO.app {w wr u2 w3 : World} {B : Nat} {M : Nat → Prop} {c : Nc} {g : Nh} {ins : List (List UInt8)} {v v' x : Value} {vs : List Value} {bs : List UInt8} (h : IO w wr B M c g ins v vs) (hx : Inn M wr x bs) (h2 : wr.grownBy u2 none)
    (hQ : Gs eL w3 v' (ins.length + 1) (vs ++ [x])) (h3 : u2.grownBy w3 (rowOf v)) (hr : rowOf v' = rowOf v ∨ rowOf v' = some u2.heap.size) :
    IO w w3 B (with_ M (fun k => rowOf v' = some k)) c g (ins ++ [bs]) v' (vs ++ [x]) := by
  have hz2 := h2.size
  have hz3 := h3.size
  have hgz := h.wk.g.size
  have hk : Keeps (fun k => rowOf v = some k) wr w3 := (Keeps.keep h2).trans (Keeps.of h3 (fun r e => e))
  have hm : ∀ k, with_ M (fun k => rowOf v' = some k) k → M k ∨ wr.heap.size ≤ k := fun k hk => hk.elim .inl (fun e => by
    rcases hr with h4 | h4
    · exact .inl (h.ro k (h4 ▸ e)).1
    · rw [h4] at e; injection e with e; exact .inr (by omega))
  have hx' : ∀ k, k < wr.heap.size → rowOf v = some k → with_ M (fun k => rowOf v' = some k) k := fun k _ e => .inl (h.ro k e).1
  refine ⟨⟨(h.wk.ns.more (fun k hk => .inl hk) hm).keeps hk hx' (fun k hk e => (h.ro k e).2 hk), fun k hk => ?_, ?_⟩, by simpa using hQ, ?_, fun k hk => ⟨.inr hk, fun ho => ?_⟩⟩
  · rcases hk with hk | hk
    · have := h.wk.mw k hk; omega
    · have h5 := hQ.lt k hk
      refine ⟨?_, h5⟩
      rcases hr with h4 | h4
      · exact (h.wk.mw k (h.ro k (h4 ▸ hk)).1).1
      · rw [h4] at hk; injection hk with hk; omega
  · exact ((Keeps.keep (X := fun k => w.heap.size ≤ k) h.wk.g).trans (hk.mono (fun i _ e => (h.wk.mw i (h.ro i e).1).1))).toGrown (fun i hi hx => by omega)
  · exact ((h.bl.more hm).keeps hk hx').snoc ((hx.more hm).keeps hk hx')
  · rcases hr with h4 | h4
    · exact (h.ro k (h4 ▸ hk)).2 ho
    · rw [h4] at hk; injection hk with hk
      have := h.wk.ns.lt k ho
      omega
theorem Nh.run_succ (l : Nat → Ac) (bs : Nat → List UInt8) (k : Nat) : Nh.run l bs (k + 1) = (Nh.run l bs k).step (l k).what (bs k) := rfl
/-- What the loop keeps. -/
def OI (w : World) (B : Nat) (l : Nat → Ac) (bs : Nat → List UInt8) (k : Nat) (v came taken bytes : Value) (wr : World) : Prop :=
  ∃ c M vs, IO w wr B M c (Nh.run l bs k) (Nh.run l bs k).came v vs ∧ came = .int .i64 (tot (Nh.run l bs k).came : Nat) ∧ taken = .int .i64 ((Nh.run l bs k).taken : Nat) ∧ bytes = .int .i64 (tot ((Nh.run l bs k).came.take (Nh.run l bs k).taken) : Nat)
theorem src_ls2 {w : World} {a : Option Addr} {n c : Nat} {t : TypeId} (h : (w.alloc (.cells #[.slice a n c] t)).heap[w.heap.size]? = some (.cells #[.slice a n c] t (0, 0))) : Go.Src Try.prog eL.sz 34 (.slice (some ⟨w.heap.size, 0, none⟩) 1 1) 1 [.slice a n c] (w.alloc (.cells #[.slice a n c] t)) := src_ls h
set_option maxRecDepth 100000 in
set_option maxHeartbeats 16000000 in
theorem netOrder_walk (a : Option Addr) (n cap : Nat) (l : Nat → Ac) (bs : Nat → List UInt8) (w : World) (hs : SrcX w a n l bs) (hm : n ≤ 9223372036854775807) :
    Calls Try.prog 4 #[.slice a n cap] w fun e w' => e = .returned (.bool true) ∧ w.grownBy w' none := by
  by_cases hc : cost l n ≤ 8000
  rotate_left
  · have hd : decide (cost l n ≤ 8000) = false := by simp [hc]
    have C := few_any a n cap l bs w hs hm
    rw [hd] at C
    clear hs hd hc
    go_enter Try.func4, Try.ntmps4
    go_wp2_with fail
    refine C.mono ?_; rintro e w' ⟨rfl, rfl⟩
    clear C
    go_wp2_with fail
    refine (works_any _).mono ?_; rintro e w1 ⟨rfl, hg1⟩
    go_wp2
    go_ret
    exact ⟨rfl, hg1⟩
  have hd : decide (cost l n ≤ 8000) = true := by simp [hc]
  have C := few_any a n cap l bs w hs hm
  rw [hd] at C
  have hn400 : n ≤ 400 := by have := cost_ge l n; omega
  have hbn : ∀ j, j < n → (l j).bn = (bs j).length := fun j hj => by
    rcases hs with h | ⟨b, o, _, h⟩
    · omega
    · exact (h j hj).2.1
  have hbl : ∀ j, j < n → (bs j).length ≤ 10000 := fun j hj => by
    have h1 := hbn j hj
    have := cost_bn l j n hj
    omega
  have HNBS := Lib.hid (fun k hk => run_nb l bs n hbn (by omega) (by omega) k hk)
  have HBL := Lib.hid hbl
  clear hbn hd hc hbl
  go_enter Try.func4, Try.ntmps4
  go_wp2_with fail
  refine C.mono ?_; rintro e w' ⟨rfl, rfl⟩
  go_wp2_with fail
  refine (new_any _).mono ?_; rintro e w1 ⟨B, rfl, hB, hTb, hg1⟩
  have H1 := Lib.hid (show OI w B l bs 0 (.slice none 0 0) (.int .i64 0) (.int .i64 0) (.int .i64 0) w1 from ⟨.new, _, [], ⟨Wk.start hB hTb hg1, Gs.nil eL w1, BL.nil, fun k h => by (cases h)⟩, rfl, rfl, rfl⟩)
  clear hTb hg1 C
  go_wp2
  go_loopw [4, 5, 6, 7, 8] (fun v cm tk by_ i wr => ∃ k : Nat, k ≤ n ∧ i = .int .i64 k ∧ OI w B l bs k v cm tk by_ wr) (fun _ _ _ _ i _ => n - (intOf i).toNat)
  case atStart => exact ⟨0, Nat.zero_le _, rfl, H1.out⟩
  case round =>
    obtain ⟨k, hk, rfl, c, M, vs, hIO, rfl, rfl, rfl⟩ := hrel
    have hnb := HNBS.out k hk
    have hle := run_le l bs k
    obtain ⟨g, hg⟩ : ∃ g, g = Nh.run l bs k := ⟨_, rfl⟩
    have HG := Lib.hid hg
    rw [← hg] at hIO hnb hle
    rw [← hg]
    obtain ⟨ia, icap, hiv, _⟩ := hIO.gs.shape
    subst hiv
    obtain ⟨m, hmm⟩ : ∃ m, m = g.came.length := ⟨_, rfl⟩
    rw [← hmm]
    obtain ⟨cm, hcm⟩ : ∃ cm, cm = tot g.came := ⟨_, rfl⟩
    rw [← hcm]
    obtain ⟨tk, htk⟩ : ∃ tk, tk = g.taken := ⟨_, rfl⟩
    rw [← htk]
    obtain ⟨by_, hby⟩ : ∃ by_, by_ = tot (g.came.take g.taken) := ⟨_, rfl⟩
    rw [htk, ← hby, ← htk]
    have hm5 : m < 100000 := by rw [hmm]; exact hnb.came
    have hc5 : cm ≤ 100000000 := by rw [hcm]; exact hnb.tc
    have ht5 : tk ≤ m := by rw [hmm, htk]; exact hIO.wk.ns.tk
    have hb5 : by_ ≤ 100000000 := by rw [hby]; exact Nat.le_trans (tot_take_le _ _) hnb.tc
    have HM := Lib.hid hmm
    have HCM := Lib.hid hcm
    have HTK := Lib.hid htk
    have HBY := Lib.hid hby
    have HI0 := Lib.hid (show IO w wr B M c g g.came (.slice ia m icap) vs from by rw [hmm]; exact hIO)
    have HLE := Lib.hid hle
    clear hIO hg hmm hcm htk hby hle H1
    by_cases hlt : k < n
    · obtain ⟨b, o, rfl, hcs⟩ := hs.resolve_left (by omega)
      have hb0 : b < w.heap.size := World.block_lt_of_cell? w _ ((hcs k hlt).1 0 _ rfl)
      have hlt' : (k : Int) < (n : Nat) := by omega
      have hblk := HI0.out.wk.g.block b hb0 (by simp)
      have c0 : wr.cell? ⟨b, o + k * 2, none⟩ = some (.int .i64 (l k).what) := (World.cell?_of_block (a := ⟨b, o + k * 2, none⟩) hblk).trans ((hcs k hlt).1 0 _ rfl)
      have c1 : wr.cell? ⟨b, o + k * 2 + 1, none⟩ = some (.slice (l k).ba (l k).bn (l k).bc) := (World.cell?_of_block (a := ⟨b, o + k * 2 + 1, none⟩) hblk).trans ((hcs k hlt).1 1 _ rfl)
      have hwk : IntKind.i64.wrap ((k : Int) + 1) = ((k + 1 : Nat) : Int) := by rw [IntKind.wrap_i64]; omega
      have HSB := Lib.hid (hcs k hlt).2.2.1
      have HBN := Lib.hid (hcs k hlt).2.1
      have HXI := Lib.hid (show Inn M wr (.slice (l k).ba (l k).bn (l k).bc) (bs k) from ⟨_, _, by rw [(hcs k hlt).2.1], (hcs k hlt).2.2.1.keptNone HI0.out.wk.g, fun he b' o' e hmb => by
        have h1 := (HI0.out.wk.mw b' hmb).1
        have h2 := Go.Proofs.Ytnglbneefkdfgaa.Src.lt (e ▸ (hcs k hlt).2.2.1) he
        omega⟩)
      have hblk5 := HBL.out k hlt
      have HBB := Lib.hid hblk5
      obtain ⟨xn, hxn⟩ : ∃ xn, xn = (l k).bn := ⟨_, rfl⟩
      rw [← hxn] at c1
      have HXN := Lib.hid (show xn = (bs k).length from by rw [hxn]; exact HBN.out)
      have HXI := Lib.hid (show Inn M wr (.slice (l k).ba xn (l k).bc) (bs k) from by rw [hxn]; exact HXI.out)
      have hxn5 : xn ≤ 10000 := by rw [HXN.out]; exact hblk5
      obtain ⟨wh, hwh⟩ : ∃ wh, wh = (l k).what := ⟨_, rfl⟩
      rw [← hwh] at c0
      obtain ⟨xb, hxb⟩ : ∃ xb, xb = bs k := ⟨_, rfl⟩
      have HRS := Lib.hid (show Nh.run l bs (k + 1) = g.step wh xb from by rw [hwh, hxb, HG.out]; rfl)
      have HSX := Lib.hid (show Go.Proofs.Ytnglbneefkdfgaa.Src w (l k).ba xb from by rw [hxb]; exact HSB.out)
      rw [← hxb] at HXN HXI
      have HMB := Lib.hid (show ∀ k, M k → k < wr.heap.size from fun k hk => (HI0.out.wk.mw k hk).2)
      have hcellb : ∀ u : World, w.grownBy u none → u.cell? ⟨b, o + k * 2 + 1, none⟩ = some (.slice (l k).ba xn (l k).bc) := fun u hu => (World.cell?_of_block (a := ⟨b, o + k * 2 + 1, none⟩) (hu.block b hb0 (by simp))).trans (by rw [hxn]; exact (hcs k hlt).1 1 _ rfl)
      have HCELL := Lib.hid hcellb
      clear hcs hs hblk hblk5 hxn hwh hxb hcellb HSB HBN
      by_cases h0 : wh = 0
      · subst h0
        have C := push_any M B c g wr HI0.out.wk.ns hnb HMB.out (l k).ba xn (l k).bc xb HXN.out (HSX.out.keptNone HI0.out.wk.g)
        by_cases hf : g.full xb = true
        · rw [show g.pushAt xb = 0 from by simp [Nh.pushAt, hf], show g.pushNo xb = 3 from by simp [Nh.pushNo, hf], show g.push xb = g from by simp [Nh.push, hf]] at C
          have HST := Lib.hid (show g.step 0 xb = g from by simp [Nh.step, Nh.push, hf])
          clear hf
          go_wp2_with fail
          refine C.mono ?_; rintro e w2 ⟨c2, rfl, hL⟩
          have HI2 := Lib.hid (HI0.out.net hL)
          clear hL C
          go_wp2_with fail
          refine (num_any _ _).mono ?_; rintro e w' ⟨rfl, rfl⟩
          go_wp2
          go_roundw
          case rel => exact ⟨k + 1, by omega, rfl, c2, _, vs, by rw [HRS.out, HST.out]; exact ⟨HI2.out, by rw [← HCM.out], by rw [← HTK.out], by rw [← HBY.out]⟩⟩
          case measure => simp [intOf]; omega
        · rw [show g.pushAt xb = cm from by simp [Nh.pushAt, hf, HCM.out], show g.pushNo xb = 0 from by simp [Nh.pushNo, hf], show g.push xb = { g with came := g.came ++ [xb] } from by simp [Nh.push, hf]] at C
          have HST := Lib.hid (show g.step 0 xb = { g with came := g.came ++ [xb] } from by simp [Nh.step, Nh.push, hf])
          have hw1 : IntKind.i64.wrap ((cm : Int) + (xn : Nat)) = ((cm + xn : Nat) : Int) := by rw [IntKind.wrap_i64]; omega
          clear hf
          go_wp2_with fail
          refine C.mono ?_; rintro e w2 ⟨c2, rfl, hL⟩
          have HI2 := Lib.hid (HI0.out.net hL)
          have HX2 := Lib.hid ((HXI.out.more (M' := with_ M (own c2 B)) (fun k hk => hk.elim .inl (fun h2 => (hL.newl k h2).imp (HI0.out.wk.ns.ow k) id))).keeps hL.keep (fun k _ hk => .inl (HI0.out.wk.ns.ow k hk)))
          have c2' := HCELL.out w2 HI2.out.wk.g
          clear hL C c1
          go_wp2_with fail
          refine (num_any _ _).mono ?_; rintro e w' ⟨rfl, rfl⟩
          have HNN := Lib.hid (heap_alloc_new w2 (.cells #[.slice (l k).ba xn (l k).bc] 22))
          have h2 := World.grownBy_alloc w2 (.cells #[.slice (l k).ba xn (l k).bc] 22) none
          have H2 := Lib.hid h2
          clear h2
          go_wp2_with (at_builtin; refine wpList_gs eL rfl _ _ 34 rfl (.slice (some ⟨w2.heap.size, 0, none⟩) 1 1) m 1 vs [.slice (l k).ba xn (l k).bc] rfl rfl (by rw [HM.out]; have := HI2.out.gs.keptNone H2.out; rwa [HM.out] at this) (src_ls2 HNN.out) (by simp [Value.oneCell']) (by omega) ?_)
          intro v' w3 hQ3 h3 hr
          have hio := HI2.out.app HX2.out H2.out (by rw [← HM.out]; exact hQ3) h3 (by rw [World.size_alloc]; exact hr)
          have HI3 := Lib.hid hio
          have c3' := HCELL.out w3 hio.wk.g
          clear hQ3 h3 hr hio c2'
          go_wp2
          go_roundw
          case rel => exact ⟨k + 1, by omega, rfl, c2, _, _, by rw [HRS.out, HST.out]; exact ⟨HI3.out, by rw [tot_append, tot_one, ← HXN.out, ← HCM.out]; rfl, by rw [← HTK.out], by rw [List.take_append_of_le_length (by rw [← HTK.out, ← HM.out]; exact ht5), ← HBY.out]⟩⟩
          case measure => simp [intOf]; omega
      have h0' : (wh == 0) = false := by simp [h0]
      by_cases h1 : wh = 1
      · subst h1
        obtain ⟨lb, hlb⟩ : ∃ lb, lb = g.nextB.length := ⟨_, rfl⟩
        have HLB := Lib.hid hlb
        have C := next_any M B c g lb wr HI0.out.wk.ns hnb (fun x hx => Nat.le_trans (HLE.out.1 x hx) (by omega)) hlb
        by_cases hmo : tk < m
        · have hmo' : g.more = true := by simp [Nh.more]; rw [← HTK.out, ← HM.out]; exact hmo
          have hmi : (tk : Int) < (m : Nat) := by omega
          have hgt : g.taken < g.came.length := by rw [← HTK.out, ← HM.out]; exact hmo
          rw [hmo', show g.nextAt = by_ from by simp [Nh.nextAt, hmo', HBY.out]] at C
          have HST := Lib.hid (show g.step 1 xb = g.take from by simp [Nh.step])
          have HTA := Lib.hid (show g.take.came = g.came ∧ g.take.taken = g.taken + 1 from by simp [Nh.take, hmo'])
          have HMO := Lib.hid hmo'
          obtain ⟨ig, io, hia⟩ := (show Gs eL wr (.slice ia m icap) m vs from by have := HI0.out.gs; rwa [← HM.out] at this).some_of (by omega)
          subst hia
          obtain ⟨ve, he1, ea, ec, hve, hes, hem⟩ := HI0.out.bl.2 tk (by rw [← HM.out]; exact hmo)
          subst hve
          have hne : g.came[tk]'(by rw [← HM.out]; exact hmo) = g.nextB := by rw [g.nextB_eq hgt]; simp only [HTK.out]
          rw [hne] at he1 hes hem
          rw [← hlb] at he1
          have hw2 : IntKind.i64.wrap ((by_ : Int) + (lb : Nat)) = ((by_ + lb : Nat) : Int) := by have := HLE.out.1 _ (List.getElem_mem hgt); rw [← g.nextB_eq hgt, ← hlb] at this; rw [IntKind.wrap_i64]; omega
          have hw3 : IntKind.i64.wrap ((tk : Int) + 1) = ((tk + 1 : Nat) : Int) := by rw [IntKind.wrap_i64]; omega
          have HBT := Lib.hid (show by_ + lb = tot (g.came.take (g.taken + 1)) from by rw [tot_succ _ _ hgt, ← g.nextB_eq hgt, HBY.out, HLB.out])
          have HE1 := Lib.hid he1
          have HES := Lib.hid hes
          have HEM := Lib.hid hem
          clear hmo' hgt hne hes hem hlb he1
          go_wp2_with fail
          refine C.mono ?_; rintro e w2 ⟨a2, c2, rfl, hsp, hrp, hvp, h2⟩
          have HI2 := Lib.hid (HI0.out.keptNone h2)
          have HSP := Lib.hid (show Go.Proofs.Ytnglbneefkdfgaa.Src w2.drew a2 g.nextB from hsp)
          have HNO := Lib.hid (show ∀ b o, a2 = some ⟨b, o, none⟩ → ¬ own c B b from fun b o e hx => by have h5 := hrp b (by rw [e]; rfl); have h6 := HI0.out.wk.ns.lt b hx; omega)
          have HCT := Lib.hid (show w2.drew.cell? ⟨ig, io + tk, none⟩ = some (.slice ea lb ec) from (show Gs eL w2 (.slice (some ⟨ig, io, none⟩) m icap) m vs from by have := HI2.out.gs; rwa [← HM.out] at this).cell tk _ HE1.out)
          have HNI := Lib.hid (show ¬ own c B ig from (HI0.out.ro ig rfl).2)
          have HLE' := HLE
          have HLE := HLB
          have HSE := Lib.hid (show Go.Proofs.Ytnglbneefkdfgaa.Src w2.drew ea g.nextB from (show Go.Proofs.Ytnglbneefkdfgaa.Src w2 ea g.nextB from HES.out.keptNone h2))
          have HNE := Lib.hid (show g.nextB ≠ [] → ∀ b o, ea = some ⟨b, o, none⟩ → ¬ own c B b from fun he b o e hx => HEM.out he b o e (HI0.out.wk.ns.ow b hx))
          clear hsp hrp hvp h2 C
          go_wp2
          refine regx_open (own c B) (n := 30) rfl (by kernel_rfl) ?_
          refine regx_take 0 (some 79) (v := ?_) rfl rfl (by kernel_rfl) (by kernel_rfl) (by kernel_rfl) (fun _ _ _ h => h) (by rfl) ?_ ?_
          rotate_left
          · intro W hW; go_simp; first | done | with_reducible rfl
          try simp only [Act.put, List.setIfInBounds_toArray, List.set_cons_zero, List.set_cons_succ]
          refine regx_take 1 (some 80) (v := ?_) rfl rfl (by kernel_rfl) (by kernel_rfl) (by kernel_rfl) (fun _ _ _ h => h) (by rfl) ?_ ?_
          rotate_left
          · intro W hW; go_simp; first | done | with_reducible rfl
          try simp only [Act.put, List.setIfInBounds_toArray, List.set_cons_zero, List.set_cons_succ]
          refine wpAnyH_ready (rs := [2]) (by kernel_rfl) (by simp) ?_
          refine (AllReadyH.cons (o := { dst := some 81, op := Op.call { callee := Callee.value (Operand.func 13), args := #[Operand.tmp 80], argTypes := #[24] }, type := 4, pos := "law.go:189", after := #[{ on := 1, ground := Ground.data }], guard := none }) rfl (fun K hK => ?_) AllReadyH.nil)
          go_simp
          have C2 := take_any _ B c g _ HI2.out.wk.ns.drew; rw [HMO.out] at C2; refine C2.mono ?_; rintro e u1 ⟨c3, rfl, hL⟩; clear C2; have h1 : Keeps (own c B) _ u1 := hL.keep
          refine regx_next hK h1 ?_
          clear hK K
          try simp only [Act.put, List.setIfInBounds_toArray, List.set_cons_zero, List.set_cons_succ]
          refine regx_take 3 (some 82) (v := ?_) rfl rfl (by kernel_rfl) (by kernel_rfl) (by kernel_rfl) (fun _ _ _ h => h) (by rfl) ?_ ?_
          rotate_left
          · intro W hW; go_simp; first | done | with_reducible rfl
          try simp only [Act.put, List.setIfInBounds_toArray, List.set_cons_zero, List.set_cons_succ]
          refine regx_take 4 (some 83) (v := ?_) rfl rfl (by kernel_rfl) (by kernel_rfl) (by kernel_rfl) (fun _ _ _ h => h) (by rfl) ?_ ?_
          rotate_left
          · intro W hW; go_simp; first | done | with_reducible rfl
          try simp only [Act.put, List.setIfInBounds_toArray, List.set_cons_zero, List.set_cons_succ]
          refine regx_take 5 (some 84) (v := ?_) rfl rfl (by kernel_rfl) (by kernel_rfl) (by kernel_rfl) (fun _ _ _ h => h) (by rfl) ?_ ?_
          rotate_left
          · intro W hW; go_simp; first | done | with_reducible rfl
          try simp only [Act.put, List.setIfInBounds_toArray, List.set_cons_zero, List.set_cons_succ]
          refine regx_take 6 (some 85) (v := ?_) rfl rfl (by kernel_rfl) (by kernel_rfl) (by kernel_rfl) (fun _ _ _ h => h) (by rfl) ?_ ?_
          rotate_left
          · intro W hW; go_simp; first | done | with_reducible rfl
          try simp only [Act.put, List.setIfInBounds_toArray, List.set_cons_zero, List.set_cons_succ]
          refine regx_take 7 (some 86) (v := ?_) rfl rfl (by kernel_rfl) (by kernel_rfl) (by kernel_rfl) (fun _ _ _ h => h) (by rfl) ?_ ?_
          rotate_left
          · intro W hW; go_simp; first | done | with_reducible rfl
          try simp only [Act.put, List.setIfInBounds_toArray, List.set_cons_zero, List.set_cons_succ]
          refine regx_take 8 (some 87) (v := ?_) rfl rfl (by kernel_rfl) (by kernel_rfl) (by kernel_rfl) (fun _ _ _ h => h) (by rfl) ?_ ?_
          rotate_left
          · intro W hW; go_simp; first | done | with_reducible rfl
          try simp only [Act.put, List.setIfInBounds_toArray, List.set_cons_zero, List.set_cons_succ]
          refine regx_take 9 (some 88) (v := ?_) rfl rfl (by kernel_rfl) (by kernel_rfl) (by kernel_rfl) (fun _ _ _ h => h) (by rfl) ?_ ?_
          rotate_left
          · intro W hW; go_simp; first | done | with_reducible rfl
          try simp only [Act.put, List.setIfInBounds_toArray, List.set_cons_zero, List.set_cons_succ]
          refine regx_take 10 (some 89) (v := ?_) rfl rfl (by kernel_rfl) (by kernel_rfl) (by kernel_rfl) (fun _ _ _ h => h) (by rfl) ?_ ?_
          rotate_left
          · intro W hW; go_simp; first | done | with_reducible rfl
          try simp only [Act.put, List.setIfInBounds_toArray, List.set_cons_zero, List.set_cons_succ]
          refine regx_take 11 (some 90) (v := ?_) rfl rfl (by kernel_rfl) (by kernel_rfl) (by kernel_rfl) (fun _ _ _ h => h) (by rfl) ?_ ?_
          rotate_left
          · intro W hW; go_simp; first | done | with_reducible rfl
          try simp only [Act.put, List.setIfInBounds_toArray, List.set_cons_zero, List.set_cons_succ]
          refine regx_take 12 (some 91) (v := ?_) rfl rfl (by kernel_rfl) (by kernel_rfl) (by kernel_rfl) (fun _ _ _ h => h) (by rfl) ?_ ?_
          rotate_left
          · intro W hW; go_simp; first | done | with_reducible rfl
          try simp only [Act.put, List.setIfInBounds_toArray, List.set_cons_zero, List.set_cons_succ]
          refine regx_take 13 (some 92) (v := ?_) rfl rfl (by kernel_rfl) (by kernel_rfl) (by kernel_rfl) (fun _ _ _ h => h) (by rfl) ?_ ?_
          rotate_left
          · intro W hW; go_simp; first | done | with_reducible rfl
          try simp only [Act.put, List.setIfInBounds_toArray, List.set_cons_zero, List.set_cons_succ]
          refine regx_take 14 (some 93) (v := ?_) rfl rfl (by kernel_rfl) (by kernel_rfl) (by kernel_rfl) (fun _ _ _ h => h) (by rfl) ?_ ?_
          rotate_left
          · intro W hW; go_simp; first | done | with_reducible rfl
          try simp only [Act.put, List.setIfInBounds_toArray, List.set_cons_zero, List.set_cons_succ]
          refine regx_take 15 (some 94) (v := ?_) rfl rfl (by kernel_rfl) (by kernel_rfl) (by kernel_rfl) (fun _ _ _ h => h) (by rfl) ?_ ?_
          rotate_left
          · intro W hW; go_simp; first | done | with_reducible rfl
          try simp only [Act.put, List.setIfInBounds_toArray, List.set_cons_zero, List.set_cons_succ]
          refine regx_take 16 (some 95) (v := ?_) rfl rfl (by kernel_rfl) (by kernel_rfl) (by kernel_rfl) (fun _ _ _ h => h) (by rfl) ?_ ?_
          rotate_left
          · intro W hW; have k1 := conv_srcn (c := c2) HLB.out (HSP.out.keeps (h1.trans hW) (fun he b o e hx => HNO.out b o e hx)); go_simp; first | done | with_reducible rfl
          try simp only [Act.put, List.setIfInBounds_toArray, List.set_cons_zero, List.set_cons_succ]
          refine regx_take 17 (some 96) (v := ?_) rfl rfl (by kernel_rfl) (by kernel_rfl) (by kernel_rfl) (fun _ _ _ h => h) (by rfl) ?_ ?_
          rotate_left
          · intro W hW; go_simp; first | done | with_reducible rfl
          try simp only [Act.put, List.setIfInBounds_toArray, List.set_cons_zero, List.set_cons_succ]
          refine regx_take 18 (some 97) (v := ?_) rfl rfl (by kernel_rfl) (by kernel_rfl) (by kernel_rfl) (fun _ _ _ h => h) (by rfl) ?_ ?_
          rotate_left
          · intro W hW; go_simp; first | done | with_reducible rfl
          try simp only [Act.put, List.setIfInBounds_toArray, List.set_cons_zero, List.set_cons_succ]
          refine regx_take 19 (some 98) (v := ?_) rfl rfl (by kernel_rfl) (by kernel_rfl) (by kernel_rfl) (fun _ _ _ h => h) (by rfl) ?_ ?_
          rotate_left
          · intro W hW; go_simp; first | done | with_reducible rfl
          try simp only [Act.put, List.setIfInBounds_toArray, List.set_cons_zero, List.set_cons_succ]
          refine regx_take 20 (some 99) (v := ?_) rfl rfl (by kernel_rfl) (by kernel_rfl) (by kernel_rfl) (fun _ _ _ h => h) (by rfl) ?_ ?_
          rotate_left
          · intro W hW; have k1 := keeps_cell (h1.trans hW) (show w2.drew.cell? ⟨ig, io + tk, none⟩ = _ from HCT.out) HNI.out; go_simp; first | done | with_reducible rfl
          try simp only [Act.put, List.setIfInBounds_toArray, List.set_cons_zero, List.set_cons_succ]
          refine regx_take 21 (some 100) (v := ?_) rfl rfl (by kernel_rfl) (by kernel_rfl) (by kernel_rfl) (fun _ _ _ h => h) (by rfl) ?_ ?_
          rotate_left
          · intro W hW; have k1 := conv_srcn (c := ec) HLE.out (HSE.out.keeps (h1.trans hW) (fun he b o e hx => HNE.out he b o e hx)); go_simp; first | done | with_reducible rfl
          try simp only [Act.put, List.setIfInBounds_toArray, List.set_cons_zero, List.set_cons_succ]
          refine regx_take 22 (some 101) (v := ?_) rfl rfl (by kernel_rfl) (by kernel_rfl) (by kernel_rfl) (fun _ _ _ h => h) (by rfl) ?_ ?_
          rotate_left
          · intro W hW; go_simp; first | done | with_reducible rfl
          try simp only [Act.put, List.setIfInBounds_toArray, List.set_cons_zero, List.set_cons_succ]
          refine regx_take 23 (some 102) (v := ?_) rfl rfl (by kernel_rfl) (by kernel_rfl) (by kernel_rfl) (fun _ _ _ h => h) (by rfl) ?_ ?_
          rotate_left
          · intro W hW; go_simp; first | done | with_reducible rfl
          try simp only [Act.put, List.setIfInBounds_toArray, List.set_cons_zero, List.set_cons_succ]
          refine regx_take 24 (some 103) (v := ?_) rfl rfl (by kernel_rfl) (by kernel_rfl) (by kernel_rfl) (fun _ _ _ h => h) (by rfl) ?_ ?_
          rotate_left
          · intro W hW; go_simp; first | done | with_reducible rfl
          try simp only [Act.put, List.setIfInBounds_toArray, List.set_cons_zero, List.set_cons_succ]
          refine regx_take 25 (some 104) (v := ?_) rfl rfl (by kernel_rfl) (by kernel_rfl) (by kernel_rfl) (fun _ _ _ h => h) (by rfl) ?_ ?_
          rotate_left
          · intro W hW; go_simp; first | done | with_reducible rfl
          try simp only [Act.put, List.setIfInBounds_toArray, List.set_cons_zero, List.set_cons_succ]
          refine regx_take 26 (some 105) (v := ?_) rfl rfl (by kernel_rfl) (by kernel_rfl) (by kernel_rfl) (fun _ _ _ h => h) (by rfl) ?_ ?_
          rotate_left
          · intro W hW; go_simp; first | done | with_reducible rfl
          try simp only [Act.put, List.setIfInBounds_toArray, List.set_cons_zero, List.set_cons_succ]
          refine regx_take 27 (some 106) (v := ?_) rfl rfl (by kernel_rfl) (by kernel_rfl) (by kernel_rfl) (fun _ _ _ h => h) (by rfl) ?_ ?_
          rotate_left
          · intro W hW; go_simp; first | done | with_reducible rfl
          try simp only [Act.put, List.setIfInBounds_toArray, List.set_cons_zero, List.set_cons_succ]
          refine regx_take 28 (some 107) (v := ?_) rfl rfl (by kernel_rfl) (by kernel_rfl) (by kernel_rfl) (fun _ _ _ h => h) (by rfl) ?_ ?_
          rotate_left
          · intro W hW; go_simp; first | done | with_reducible rfl
          try simp only [Act.put, List.setIfInBounds_toArray, List.set_cons_zero, List.set_cons_succ]
          refine regx_take 29 (some 108) (v := ?_) rfl rfl (by kernel_rfl) (by kernel_rfl) (by kernel_rfl) (fun _ _ _ h => h) (by rfl) ?_ ?_
          rotate_left
          · intro W hW; go_simp; first | done | with_reducible rfl
          try simp only [Act.put, List.setIfInBounds_toArray, List.set_cons_zero, List.set_cons_succ]
          refine wpAnyH_done (by kernel_rfl) ?_ _
          have HI3 := Lib.hid (HI2.out.net hL.undrew)
          have HK3 := Lib.hid h1
          clear hL h1
          have c5' : u1.cell? ⟨ig, io + tk, none⟩ = some (.slice ea lb ec) := keeps_cell HK3.out HCT.out HNI.out
          go_wp2
          go_roundw
          case rel => exact ⟨k + 1, by omega, rfl, c3, _, vs, by rw [HRS.out, HST.out, HTA.out.1, HTA.out.2]; exact ⟨HI3.out, by rw [← HCM.out], by rw [← HTK.out]; rfl, by rw [← HBT.out]; rfl⟩⟩
          case measure => simp [intOf]; omega
        · have hmo' : g.more = false := by simp [Nh.more]; rw [← HTK.out, ← HM.out]; omega
          have hmi : ¬ (tk : Int) < (m : Nat) := by omega
          rw [hmo'] at C
          have HST := Lib.hid (show g.step 1 xb = g.take from by simp [Nh.step])
          have HTA := Lib.hid (show g.take.came = g.came ∧ g.take.taken = g.taken from by simp [Nh.take, hmo'])
          have HMO := Lib.hid hmo'
          clear hmo' hlb
          go_wp2_with fail
          refine C.mono ?_; rintro e w2 ⟨a2, c2, rfl, hsp, hrp, hvp, h2⟩
          have HI2 := Lib.hid (HI0.out.keptNone h2)
          clear hsp hrp hvp h2 C
          go_wp2
          refine regx_open (own c B) (n := 30) rfl (by kernel_rfl) ?_
          refine regx_take 0 (some 79) (v := ?_) rfl rfl (by kernel_rfl) (by kernel_rfl) (by kernel_rfl) (fun _ _ _ h => h) (by rfl) ?_ ?_
          rotate_left
          · intro W hW; go_simp; first | done | with_reducible rfl
          try simp only [Act.put, List.setIfInBounds_toArray, List.set_cons_zero, List.set_cons_succ]
          refine regx_take 1 (some 80) (v := ?_) rfl rfl (by kernel_rfl) (by kernel_rfl) (by kernel_rfl) (fun _ _ _ h => h) (by rfl) ?_ ?_
          rotate_left
          · intro W hW; go_simp; first | done | with_reducible rfl
          try simp only [Act.put, List.setIfInBounds_toArray, List.set_cons_zero, List.set_cons_succ]
          refine wpAnyH_ready (rs := [2]) (by kernel_rfl) (by simp) ?_
          refine (AllReadyH.cons (o := { dst := some 81, op := Op.call { callee := Callee.value (Operand.func 13), args := #[Operand.tmp 80], argTypes := #[24] }, type := 4, pos := "law.go:189", after := #[{ on := 1, ground := Ground.data }], guard := none }) rfl (fun K hK => ?_) AllReadyH.nil)
          go_simp
          have C2 := take_any _ B c g _ HI2.out.wk.ns.drew; rw [HMO.out] at C2; refine C2.mono ?_; rintro e u1 ⟨c3, rfl, hL⟩; clear C2; have h1 : Keeps (own c B) _ u1 := hL.keep
          refine regx_next hK h1 ?_
          clear hK K
          try simp only [Act.put, List.setIfInBounds_toArray, List.set_cons_zero, List.set_cons_succ]
          refine regx_take 3 (some 82) (v := ?_) rfl rfl (by kernel_rfl) (by kernel_rfl) (by kernel_rfl) (fun _ _ _ h => h) (by rfl) ?_ ?_
          rotate_left
          · intro W hW; go_simp; first | done | with_reducible rfl
          try simp only [Act.put, List.setIfInBounds_toArray, List.set_cons_zero, List.set_cons_succ]
          refine regx_take 4 (some 83) (v := ?_) rfl rfl (by kernel_rfl) (by kernel_rfl) (by kernel_rfl) (fun _ _ _ h => h) (by rfl) ?_ ?_
          rotate_left
          · intro W hW; go_simp; first | done | with_reducible rfl
          try simp only [Act.put, List.setIfInBounds_toArray, List.set_cons_zero, List.set_cons_succ]
          refine regx_take 5 (some 84) (v := ?_) rfl rfl (by kernel_rfl) (by kernel_rfl) (by kernel_rfl) (fun _ _ _ h => h) (by rfl) ?_ ?_
          rotate_left
          · intro W hW; go_simp; first | done | with_reducible rfl
          try simp only [Act.put, List.setIfInBounds_toArray, List.set_cons_zero, List.set_cons_succ]
          refine regx_take 6 (some 85) (v := ?_) rfl rfl (by kernel_rfl) (by kernel_rfl) (by kernel_rfl) (fun _ _ _ h => h) (by rfl) ?_ ?_
          rotate_left
          · intro W hW; go_simp; first | done | with_reducible rfl
          try simp only [Act.put, List.setIfInBounds_toArray, List.set_cons_zero, List.set_cons_succ]
          refine regx_take 7 (some 86) (v := ?_) rfl rfl (by kernel_rfl) (by kernel_rfl) (by kernel_rfl) (fun _ _ _ h => h) (by rfl) ?_ ?_
          rotate_left
          · intro W hW; go_simp; first | done | with_reducible rfl
          try simp only [Act.put, List.setIfInBounds_toArray, List.set_cons_zero, List.set_cons_succ]
          refine regx_take 8 (some 87) (v := ?_) rfl rfl (by kernel_rfl) (by kernel_rfl) (by kernel_rfl) (fun _ _ _ h => h) (by rfl) ?_ ?_
          rotate_left
          · intro W hW; go_simp; first | done | with_reducible rfl
          try simp only [Act.put, List.setIfInBounds_toArray, List.set_cons_zero, List.set_cons_succ]
          refine regx_take 9 (some 88) (v := ?_) rfl rfl (by kernel_rfl) (by kernel_rfl) (by kernel_rfl) (fun _ _ _ h => h) (by rfl) ?_ ?_
          rotate_left
          · intro W hW; go_simp; first | done | with_reducible rfl
          try simp only [Act.put, List.setIfInBounds_toArray, List.set_cons_zero, List.set_cons_succ]
          refine regx_take 10 (some 89) (v := ?_) rfl rfl (by kernel_rfl) (by kernel_rfl) (by kernel_rfl) (fun _ _ _ h => h) (by rfl) ?_ ?_
          rotate_left
          · intro W hW; go_simp; first | done | with_reducible rfl
          try simp only [Act.put, List.setIfInBounds_toArray, List.set_cons_zero, List.set_cons_succ]
          refine regx_take 11 (some 90) (v := ?_) rfl rfl (by kernel_rfl) (by kernel_rfl) (by kernel_rfl) (fun _ _ _ h => h) (by rfl) ?_ ?_
          rotate_left
          · intro W hW; go_simp; first | done | with_reducible rfl
          try simp only [Act.put, List.setIfInBounds_toArray, List.set_cons_zero, List.set_cons_succ]
          refine regx_take 12 (some 91) (v := ?_) rfl rfl (by kernel_rfl) (by kernel_rfl) (by kernel_rfl) (fun _ _ _ h => h) (by rfl) ?_ ?_
          rotate_left
          · intro W hW; go_simp; first | done | with_reducible rfl
          try simp only [Act.put, List.setIfInBounds_toArray, List.set_cons_zero, List.set_cons_succ]
          refine regx_take 13 (some 92) (v := ?_) rfl rfl (by kernel_rfl) (by kernel_rfl) (by kernel_rfl) (fun _ _ _ h => h) (by rfl) ?_ ?_
          rotate_left
          · intro W hW; go_simp; first | done | with_reducible rfl
          try simp only [Act.put, List.setIfInBounds_toArray, List.set_cons_zero, List.set_cons_succ]
          refine regx_take 14 (some 93) (v := ?_) rfl rfl (by kernel_rfl) (by kernel_rfl) (by kernel_rfl) (fun _ _ _ h => h) (by rfl) ?_ ?_
          rotate_left
          · intro W hW; go_simp; first | done | with_reducible rfl
          try simp only [Act.put, List.setIfInBounds_toArray, List.set_cons_zero, List.set_cons_succ]
          refine regx_skip 15 (some 94) rfl rfl (by kernel_rfl) (by kernel_rfl) (by kernel_rfl) (fun _ _ _ h => h) (by rfl) ?_
          try simp only [Act.put, List.setIfInBounds_toArray, List.set_cons_zero, List.set_cons_succ]
          refine regx_skip 16 (some 95) rfl rfl (by kernel_rfl) (by kernel_rfl) (by kernel_rfl) (fun _ _ _ h => h) (by rfl) ?_
          try simp only [Act.put, List.setIfInBounds_toArray, List.set_cons_zero, List.set_cons_succ]
          refine regx_skip 17 (some 96) rfl rfl (by kernel_rfl) (by kernel_rfl) (by kernel_rfl) (fun _ _ _ h => h) (by rfl) ?_
          try simp only [Act.put, List.setIfInBounds_toArray, List.set_cons_zero, List.set_cons_succ]
          refine regx_skip 18 (some 97) rfl rfl (by kernel_rfl) (by kernel_rfl) (by kernel_rfl) (fun _ _ _ h => h) (by rfl) ?_
          try simp only [Act.put, List.setIfInBounds_toArray, List.set_cons_zero, List.set_cons_succ]
          refine regx_skip 19 (some 98) rfl rfl (by kernel_rfl) (by kernel_rfl) (by kernel_rfl) (fun _ _ _ h => h) (by rfl) ?_
          try simp only [Act.put, List.setIfInBounds_toArray, List.set_cons_zero, List.set_cons_succ]
          refine regx_skip 20 (some 99) rfl rfl (by kernel_rfl) (by kernel_rfl) (by kernel_rfl) (fun _ _ _ h => h) (by rfl) ?_
          try simp only [Act.put, List.setIfInBounds_toArray, List.set_cons_zero, List.set_cons_succ]
          refine regx_skip 21 (some 100) rfl rfl (by kernel_rfl) (by kernel_rfl) (by kernel_rfl) (fun _ _ _ h => h) (by rfl) ?_
          try simp only [Act.put, List.setIfInBounds_toArray, List.set_cons_zero, List.set_cons_succ]
          refine regx_skip 22 (some 101) rfl rfl (by kernel_rfl) (by kernel_rfl) (by kernel_rfl) (fun _ _ _ h => h) (by rfl) ?_
          try simp only [Act.put, List.setIfInBounds_toArray, List.set_cons_zero, List.set_cons_succ]
          refine regx_skip 23 (some 102) rfl rfl (by kernel_rfl) (by kernel_rfl) (by kernel_rfl) (fun _ _ _ h => h) (by rfl) ?_
          try simp only [Act.put, List.setIfInBounds_toArray, List.set_cons_zero, List.set_cons_succ]
          refine regx_skip 24 (some 103) rfl rfl (by kernel_rfl) (by kernel_rfl) (by kernel_rfl) (fun _ _ _ h => h) (by rfl) ?_
          try simp only [Act.put, List.setIfInBounds_toArray, List.set_cons_zero, List.set_cons_succ]
          refine regx_skip 25 (some 104) rfl rfl (by kernel_rfl) (by kernel_rfl) (by kernel_rfl) (fun _ _ _ h => h) (by rfl) ?_
          try simp only [Act.put, List.setIfInBounds_toArray, List.set_cons_zero, List.set_cons_succ]
          refine regx_skip 26 (some 105) rfl rfl (by kernel_rfl) (by kernel_rfl) (by kernel_rfl) (fun _ _ _ h => h) (by rfl) ?_
          try simp only [Act.put, List.setIfInBounds_toArray, List.set_cons_zero, List.set_cons_succ]
          refine regx_skip 27 (some 106) rfl rfl (by kernel_rfl) (by kernel_rfl) (by kernel_rfl) (fun _ _ _ h => h) (by rfl) ?_
          try simp only [Act.put, List.setIfInBounds_toArray, List.set_cons_zero, List.set_cons_succ]
          refine regx_take 28 (some 107) (v := ?_) rfl rfl (by kernel_rfl) (by kernel_rfl) (by kernel_rfl) (fun _ _ _ h => h) (by rfl) ?_ ?_
          rotate_left
          · intro W hW; go_simp; first | done | with_reducible rfl
          try simp only [Act.put, List.setIfInBounds_toArray, List.set_cons_zero, List.set_cons_succ]
          refine regx_take 29 (some 108) (v := ?_) rfl rfl (by kernel_rfl) (by kernel_rfl) (by kernel_rfl) (fun _ _ _ h => h) (by rfl) ?_ ?_
          rotate_left
          · intro W hW; go_simp; first | done | with_reducible rfl
          try simp only [Act.put, List.setIfInBounds_toArray, List.set_cons_zero, List.set_cons_succ]
          refine wpAnyH_done (by kernel_rfl) ?_ _
          have HI3 := Lib.hid (HI2.out.net hL.undrew)
          have HK3 := Lib.hid h1
          clear hL h1
          go_wp2
          go_roundw
          case rel => exact ⟨k + 1, by omega, rfl, c3, _, vs, by rw [HRS.out, HST.out, HTA.out.1, HTA.out.2]; exact ⟨HI3.out, by rw [← HCM.out], by rw [← HTK.out], by rw [← HBY.out]⟩⟩
          case measure => simp [intOf]; omega
      · have h1' : (wh == 1) = false := by simp [h1]
        have C := send_any M B c g wr HI0.out.wk.ns hnb HMB.out (l k).ba xn (l k).bc xb HXN.out (HSX.out.keptNone HI0.out.wk.g)
        have HST := Lib.hid (show g.step wh xb = g.send xb from by simp [Nh.step, h0, h1])
        have HCA := Lib.hid (show (g.send xb).came = g.came ∧ (g.send xb).taken = g.taken from by unfold Nh.send; split <;> exact ⟨rfl, rfl⟩)
        clear h0 h1
        go_wp2_with fail
        refine C.mono ?_; rintro e w2 ⟨c2, rfl, hL⟩
        have HI2 := Lib.hid (HI0.out.net hL)
        clear hL C
        go_wp2
        go_roundw
        case rel => exact ⟨k + 1, by omega, rfl, c2, _, vs, by rw [HRS.out, HST.out, HCA.out.1, HCA.out.2]; exact ⟨HI2.out, by rw [← HCM.out], by rw [← HTK.out], by rw [← HBY.out]⟩⟩
        case measure => simp [intOf]; omega
    · have hkn : k = n := by omega
      have hlt' : ¬ (k : Int) < (n : Nat) := by omega
      have HWN := Lib.hid (show m - tk = (g.came.drop g.taken).length from by rw [List.length_drop, ← HM.out, ← HTK.out])
      have hws : IntKind.i64.wrap ((m : Int) - (tk : Nat)) = ((m - tk : Nat) : Int) := by rw [IntKind.wrap_i64]; omega
      clear hs hkn
      go_wp2_with fail
      refine (waits_ns M B c g (m - tk) _ HWN.out HI0.out.wk.ns).mono ?_; rintro e w' ⟨rfl, rfl⟩
      go_wp2_with fail
      refine (works_any _).mono ?_; rintro e w3 ⟨rfl, hg3⟩
      have HG3 := Lib.hid (HI0.out.wk.g.trans hg3)
      clear hg3
      go_wp2
      go_ret
      exact ⟨rfl, HG3.out⟩
end Go.Proofs.Ytnglbneefkdfgaa
