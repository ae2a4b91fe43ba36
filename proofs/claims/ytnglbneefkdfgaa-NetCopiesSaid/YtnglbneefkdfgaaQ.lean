import Derived.Test.YtnglbneefkdfgaaP
set_option linter.unusedVariables false
namespace Go.Proofs.Ytnglbneefkdfgaa
open Go.RowKit
def pkOf (vs : List Value) : Pks :=
  ⟨fun j => match vs[j * 2]? with | some (.slice a _ _) => a | _ => none, fun j => match vs[j * 2]? with | some (.slice _ n _) => n | _ => 0, fun j => match vs[j * 2]? with | some (.slice _ _ c) => c | _ => 0,
   fun j => match vs[j * 2 + 1]? with | some (.int _ z) => z | _ => 0⟩
theorem pk_at {M : Nat → Prop} {w : World} {vs : List Value} {ls : List (List UInt8)} {f : Nat} (h : PK M w vs ls f) (j : Nat) (hj : j < ls.length) :
    vs[j * 2]? = some (.slice ((pkOf vs).a j) ((pkOf vs).n j) ((pkOf vs).c j)) ∧ vs[j * 2 + 1]? = some (.int .i64 ((pkOf vs).f j)) ∧ (pkOf vs).n j = (ls[j]'hj).length ∧ Go.Proofs.Ytnglbneefkdfgaa.Src w ((pkOf vs).a j) (ls[j]'hj) ∧ (pkOf vs).f j = ((f + tot (ls.take j) : Nat) : Int) := by
  obtain ⟨⟨v, h1, a, c, rfl, h2, h3⟩, h4⟩ := h.2 j hj
  simp [pkOf, h1, h4, h2]
theorem NS.qu {M : Nat → Prop} {w : World} {B : Nat} {c : Nc} {g : Nh} (h : NS M w B c g) (hle : ∀ l ∈ g.came, l.length ≤ 1000000) :
    ∃ pk : Pks, Qu w.heap.size w (some ⟨B, 0, none⟩) (g.came.length - g.taken) pk ∧ (∀ j, j < g.came.length - g.taken → pk.n j = ((g.came.drop g.taken).getD j []).length ∧ Go.Proofs.Ytnglbneefkdfgaa.Src w (pk.a j) ((g.came.drop g.taken).getD j []) ∧ ((g.came.drop g.taken).getD j []).length ≤ 1000000) ∧
      (∀ j, j < g.came.length - g.taken → pk.f j = ((tot (g.came.take g.taken) + tot ((g.came.drop g.taken).take j) : Nat) : Int)) := by
  obtain ⟨vs, hq, hpk⟩ := h.q
  have hdl : (g.came.drop g.taken).length = g.came.length - g.taken := by simp
  obtain ⟨a, cap, hv, _⟩ := hq.shape
  refine ⟨pkOf vs, .inr ⟨B, c, a, cap, rfl, h.nk.lt, h.nk, hv, ?_⟩, fun j hj => ?_, fun j hj => ?_⟩
  · by_cases h0 : g.came.length - g.taken = 0
    · exact .inl h0
    · rw [hv] at hq
      obtain ⟨gb, o, rfl⟩ := hq.some_of h0
      refine .inr ⟨gb, o, rfl, hq.lt gb rfl, fun j hj => ?_⟩
      obtain ⟨e1, e2, _⟩ := pk_at hpk j (by omega)
      exact ⟨hq.cell _ _ e1, by have := hq.cell _ _ e2; rwa [← Nat.add_assoc] at this⟩
  · obtain ⟨_, _, e3, e4, _⟩ := pk_at hpk j (by omega)
    have hg : (g.came.drop g.taken).getD j [] = (g.came.drop g.taken)[j]'(by omega) := by rw [List.getD_eq_getElem?_getD, List.getElem?_eq_getElem (by omega)]; rfl
    rw [hg]
    exact ⟨e3, e4, hle _ (List.mem_of_mem_drop (List.getElem_mem _))⟩
  · exact (pk_at hpk j (by omega)).2.2.2.2
theorem next_none (M : Nat → Prop) (B : Nat) (c : Nc) (g : Nh) (w : World) (h : NS M w B c g) (hle : ∀ l ∈ g.came, l.length ≤ 1000000) (hl : g.came.length ≤ 100000) (hk : g.taken = g.came.length) :
    Calls Try.prog 16 #[.pointer (some ⟨B, 0, none⟩)] w fun e w' => e = .returned (.tuple #[.slice none 0 0, .int .i64 0, .bool false]) ∧ w.grownBy w' none := by
  obtain ⟨pk, h1, h2, h3⟩ := h.qu hle
  refine (callsIn_wide.1 (next_in _ _ (by omega) pk _ w h1 h2)).mono ?_
  rintro e w' ⟨⟨h4, rfl⟩ | ⟨h4, _⟩, hb⟩
  · exact ⟨rfl, grown_below hb⟩
  · omega
theorem next_one (M : Nat → Prop) (B : Nat) (c : Nc) (g : Nh) (w : World) (h : NS M w B c g) (hle : ∀ l ∈ g.came, l.length ≤ 1000000) (hl : g.came.length ≤ 100000) (hk : g.taken < g.came.length) :
    Calls Try.prog 16 #[.pointer (some ⟨B, 0, none⟩)] w fun e w' => ∃ v', e = .returned (.tuple #[v', .int .i64 (tot (g.came.take g.taken) : Nat), .bool true]) ∧ Gs eB w' v' (g.came[g.taken]'hk).length (bsV (g.came[g.taken]'hk)) ∧ (∀ k, rowOf v' = some k → w.heap.size ≤ k) ∧ w.grownBy w' none := by
  obtain ⟨pk, h1, h2, h3⟩ := h.qu hle
  have hg : (g.came.drop g.taken).getD 0 [] = g.came[g.taken]'hk := by rw [List.getD_eq_getElem?_getD, List.getElem?_drop, Nat.add_zero, List.getElem?_eq_getElem hk]; rfl
  have hn := (h2 0 (by omega)).1
  have hf := h3 0 (by omega)
  rw [hg] at hn
  simp only [List.take_zero, tot_nil, Nat.add_zero] at hf
  refine (callsIn_wide.1 (next_in _ _ (by omega) pk _ w h1 h2)).mono ?_
  rintro e w' ⟨⟨h4, rfl⟩ | ⟨h4, v', rfl, h5, h6⟩, hb⟩
  · omega
  · change Gs eB w' v' (pk.n 0) (bsV ((g.came.drop g.taken).getD 0 [])) at h5
    rw [hg, hn] at h5
    rw [hf]
    exact ⟨v', rfl, h5, h6, grown_below hb⟩
theorem next_nil (w : World) : Calls Try.prog 16 #[.pointer none] w fun e w' => e = .returned (.tuple #[.slice none 0 0, .int .i64 0, .bool false]) ∧ w.grownBy w' none := by
  refine (callsIn_wide.1 (next_in none 0 (by omega) ⟨fun _ => none, fun _ => 0, fun _ => 0, fun _ => 0⟩ (fun _ => []) w (.inl ⟨rfl, rfl⟩) (fun j hj => by omega))).mono ?_
  rintro e w' ⟨⟨h4, rfl⟩ | ⟨h4, _⟩, hb⟩
  · exact ⟨rfl, grown_below hb⟩
  · omega
theorem map_getD {α : Type} (q : List α) (d : α) (n : Nat) (hn : n = q.length) : (List.finRange n).map (fun x => q.getD x.val d) = q := by
  subst hn
  apply List.ext_getElem
  · simp
  · intro i h1 h2
    simp
theorem queue_nk (M : Nat → Prop) (B : Nat) (c : Nc) (g : Nh) (w : World) (h : NS M w B c g) (hle : ∀ l ∈ g.came, l.length ≤ 1000000) (hl : g.came.length ≤ 100000) :
    Calls Try.prog 25 #[.pointer (some ⟨B, 0, none⟩)] w fun e w' => ∃ v, e = .returned v ∧ CL w.heap.size w' v (g.came.drop g.taken) ∧ w.grownBy w' none := by
  obtain ⟨pk, h1, h2, h3⟩ := h.qu hle
  refine (callsIn_wide.1 (queue_in _ _ (by omega) pk _ w h1 h2)).mono ?_
  rintro e w' ⟨⟨v, rfl, h4⟩, hb⟩
  rw [map_getD _ _ _ (by simp)] at h4
  exact ⟨v, rfl, h4, grown_below hb⟩
theorem queue_nil (w : World) : Calls Try.prog 25 #[.pointer none] w fun e w' => ∃ v, e = .returned v ∧ CL w.heap.size w' v [] ∧ w.grownBy w' none := by
  refine (callsIn_wide.1 (queue_in none 0 (by omega) ⟨fun _ => none, fun _ => 0, fun _ => 0, fun _ => 0⟩ (fun _ => []) w (.inl ⟨rfl, rfl⟩) (fun j hj => by omega))).mono ?_
  rintro e w' ⟨⟨v, rfl, h4⟩, hb⟩
  exact ⟨v, rfl, by simpa using h4, grown_below hb⟩
theorem sent_step (S : Nat) (w u1 u2 w3 : World) (v : Value) (vs : List Value) (ls : List (List UInt8)) (v1 : Value) (l : List UInt8) {v' : Value} (hSw : S ≤ w.heap.size) (hV : Gs eL w v ls.length vs) (hVR : ∀ g, rowOf v = some g → S ≤ g) (hVS : CV S w vs ls)
    (hv1 : Gs eB u1 v1 l.length (bsV l)) (hr1 : ∀ k, rowOf v1 = some k → w.heap.size ≤ k) (h1 : w.grownBy u1 none) (h2 : u1.grownBy u2 none)
    (hQ3 : Gs eL w3 v' (ls.length + 1) (vs ++ [v1])) (h3 : u2.grownBy w3 (rowOf v)) (hr : rowOf v' = rowOf v ∨ rowOf v' = some u2.heap.size) : CL S w3 v' (ls ++ [l]) ∧ Below S w w3 := by
  have hk : Keeps (fun k => rowOf v = some k) w w3 := (Keeps.keep (h1.trans h2)).trans (Keeps.of h3 (fun r e => e))
  have hz1 := h1.size
  have hz2 := h2.size
  refine ⟨⟨vs ++ [v1], by simpa using hQ3, ?_, ?_⟩, hk.below hSw (fun k h => hVR k h)⟩
  · intro g hg
    rcases hr with h | h
    · exact hVR g (h ▸ hg)
    · rw [h] at hg; injection hg with hg; omega
  · refine (hVS.keeps hk (fun k cs h hc => hV.ne hc (by decide) h)).snoc ?_ (fun g hg => Nat.le_trans hSw (hr1 g hg))
    refine ((hv1.keptNone h2).keeps (X := fun k => rowOf v = some k) (Keeps.of h3 (fun r e => e)) (fun g hg e => ?_))
    have h5 := hr1 g hg
    have := hV.lt g e
    omega
theorem copied_s (a : Option Addr) (n c : Nat) (l : List UInt8) (w : World) (h1 : n = l.length) (h2 : Go.Proofs.Ytnglbneefkdfgaa.Src w a l) (h3 : l.length ≤ 1000000) : Calls Try.prog 30 #[.slice a n c] w fun e w' => ∃ a' c', e = .returned (.slice a' n c') ∧ Gs eB w' (.slice a' n c') l.length (bsV l) ∧ w.grownBy w' none ∧ (∀ k, rowOf (.slice a' n c') = some k → w.heap.size ≤ k) := by
  subst h1
  refine (copied_b _ _ _ _ (src_go h2) (bs_one _) h3).mono ?_
  rintro e w' ⟨v', rfl, h4, h5, h6⟩
  obtain ⟨a', c', rfl, _⟩ := h4.shape
  exact ⟨a', c', rfl, h4, h5, h6⟩
set_option maxRecDepth 100000 in
set_option maxHeartbeats 4000000 in
theorem sent_nk (M : Nat → Prop) (B : Nat) (c : Nc) (g : Nh) (w : World) (h : NS M w B c g) (hle : ∀ l ∈ g.sent, l.length ≤ 1000000) (hl : g.sent.length ≤ 100000) :
    Calls Try.prog 26 #[.pointer (some ⟨B, 0, none⟩)] w fun e w' => ∃ v, e = .returned v ∧ CL w.heap.size w' v g.sent ∧ w.grownBy w' none := by
  obtain ⟨us, hs1, hs2⟩ := h.s
  obtain ⟨N, hN⟩ : ∃ N, N = g.sent.length := ⟨_, rfl⟩
  rw [← hN] at hs1 hl
  obtain ⟨sa, scap, hsv, _⟩ := hs1.shape
  have c1 : w.cell? ⟨B, 1, none⟩ = some (.slice sa N scap) := (h.nk.cell 1).trans (congrArg some hsv)
  have HNK := Lib.hid h.nk
  have HS1 := Lib.hid (hsv ▸ hs1)
  have HS2 := Lib.hid hs2
  have HN := Lib.hid hN
  have HLE := Lib.hid hle
  clear h hs1 hs2 hN hsv hle
  go_enter Try.func26, Try.ntmps26
  go_wp2_with fail
  refine (none_nk B c _ HNK.out).mono ?_; rintro e w' ⟨rfl, rfl⟩
  go_wp2
  go_loopw [3, 13] (fun v i wr => ∃ k : Nat, k ≤ N ∧ i = .int .i64 k ∧ CL w.heap.size wr v (g.sent.take k) ∧ Below w.heap.size w wr) (fun _ i _ => N - (intOf i).toNat)
  case atStart => exact ⟨0, Nat.zero_le _, rfl, CL.nil _ _, Below.refl _ _⟩
  case round =>
    obtain ⟨k, hk, rfl, hC, hB⟩ := hrel
    have HCL := Lib.hid hC
    have HB := Lib.hid hB
    clear hC hB
    by_cases hlt : k < N
    · have hl1 : k < g.sent.length := by have := HN.out; omega
      obtain ⟨g1, o1, rfl⟩ := HS1.out.some_of (by omega)
      obtain ⟨v1, e1, i1⟩ := HS2.out.2 k hl1
      obtain ⟨va1, vc1, rfl, s1, _⟩ := i1
      have d1 := HS1.out.cell k _ e1
      have d0 := (HB.out.cell (p := ⟨g1, o1 + k, none⟩) (HS1.out.lt g1 rfl)).trans d1
      have HSR := Lib.hid (s1.below HB.out)
      have hlt' : (k : Int) < (N : Nat) := by omega
      have hwk : IntKind.i64.wrap ((k : Int) + 1) = ((k + 1 : Nat) : Int) := by rw [IntKind.wrap_i64]; omega
      have hlen := HLE.out _ (List.getElem_mem hl1)
      have HTS := Lib.hid (show g.sent.take (k + 1) = g.sent.take k ++ [g.sent[k]'hl1] from List.take_succ_eq_append_getElem hl1)
      obtain ⟨vs, hV, hVR, hVS⟩ := HCL.out
      have htl : (g.sent.take k).length = k := by simp; omega
      obtain ⟨qa, qcap, hqv, _⟩ := hV.shape
      subst hqv
      have HV := Lib.hid hV
      have HVR := Lib.hid hVR
      have HVS := Lib.hid hVS
      have HTL := Lib.hid htl
      obtain ⟨m, hm⟩ : ∃ m, m = (g.sent.take k).length := ⟨_, rfl⟩
      have hm1 : m ≤ 100000 := by omega
      have HM := Lib.hid hm
      obtain ⟨ln, hln⟩ : ∃ ln, ln = (g.sent[k]'hl1).length := ⟨_, rfl⟩
      have HLN := Lib.hid hln
      rw [← hln] at d0
      rw [← hm]
      clear e1 s1 d1 hV hVR hVS htl hm hln HCL
      go_wp2_with fail
      refine (copied_s va1 ln vc1 _ wr HLN.out HSR.out hlen).mono ?_; rintro e u1 ⟨a1, c1, rfl, hv1, h1, hr1⟩
      have hn := heap_alloc_new u1 (.cells #[.slice a1 ln c1] 22)
      have h2 := World.grownBy_alloc u1 (.cells #[.slice a1 ln c1] 22) none
      have HV1 := Lib.hid hv1
      have H1 := Lib.hid h1
      have H2 := Lib.hid h2
      have HR1 := Lib.hid hr1
      have HNN := Lib.hid hn
      clear hv1 h1 h2 hr1 hn
      go_wp2_with (at_builtin; refine wpList_gs eL rfl _ _ 34 rfl (.slice (some ⟨u1.heap.size, 0, none⟩) 1 1) m 1 vs [.slice a1 ln c1] rfl rfl (by rw [HM.out]; exact (HV.out.keptNone H1.out).keptNone H2.out) (src_ls HNN.out) (by simp [Value.oneCell']) (by omega) ?_)
      intro v' w3 hQ3 h3 hr
      have hP := sent_step w.heap.size wr u1 _ w3 _ vs (g.sent.take k) _ _ HB.out.size HV.out HVR.out HVS.out HV1.out HR1.out H1.out H2.out (by rw [HM.out] at hQ3; exact hQ3) (by rw [HM.out] at h3; exact h3) (by rw [HM.out] at hr; rw [World.size_alloc]; exact hr)
      rw [← HTS.out] at hP
      have HP := Lib.hid hP
      clear hQ3 h3 hr hP
      go_wp2
      go_roundw
      case rel => exact ⟨k + 1, by omega, rfl, HP.out.1, HB.out.trans HP.out.2⟩
      case measure => simp [intOf]; omega
    · have hkn : k = N := by omega
      have hlt' : ¬ (k : Int) < (N : Nat) := by omega
      have HCL2 := Lib.hid (show CL _ wr _ g.sent from by have h := HCL.out; rwa [List.take_of_length_le (by have := HN.out; omega)] at h)
      clear hkn
      go_wp2
      go_ret
      exact ⟨_, rfl, HCL2.out, grown_below HB.out⟩
end Go.Proofs.Ytnglbneefkdfgaa
