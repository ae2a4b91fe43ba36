import Derived.Test.YtcahpmlajfbidaaG
namespace Go.Proofs.Ytcahpmlajfbidaa
open Go.RowKit
def Tl.get (T : Tl) (i : Int) : Ent := if i = 0 then T.a else if i = 1 then T.b else if i = 2 then T.c else if i = 3 then T.d else .no
theorem results_c27tt {fn : Func} {p t u : Tmp} (h : fn.results = #[.cell p 27, .tmp t, .tmp u]) (tmps : Array Value) (w : World) (g : Nat) (cs : Array Value) (hs : cs.size = 4)
    (hp : tmps.getD p undef = .pointer (some ⟨g, 0, none⟩)) (hg : w.heap[g]? = some (.cells cs 27 (0, 0))) : (results fn tmps).run Try.prog w = .ok (.tuple #[.agg cs, tmps.getD t undef, tmps.getD u undef]) w := by
  have hp' : tmps[p]?.getD undef = .pointer (some ⟨g, 0, none⟩) := by simpa using hp
  have hl := run_loadVar_row (P := Try.prog) w g 27 27 cs (0, 0) _ hg Try.underlying27 rfl (by rw [hs]; exact Try.size27)
  simp [results, h, hp', asAddr, hl]
theorem no_find (p : Int) : Tl.no.find p = -1 := by simp [Tl.find, Ent.hit, Tl.no, Ent.no]
theorem Pt.has {w : World} {p : Option Addr} {T : Tl} {page : Int} (h : Pt w p T) (hf : 0 ≤ T.find page) : ∃ B, p = some ⟨B, 0, none⟩ ∧ Tb w B T := by
  rcases h with ⟨_, rfl⟩ | h
  · rw [no_find] at hf; omega
  · exact h
set_option maxHeartbeats 4000000 in
theorem drop_tb (B : Nat) (T : Tl) (page : Int) (w : World) (h : Tb w B T) : Calls Try.prog 18 #[.pointer (some ⟨B, 0, none⟩), .int .u32 page] w fun e w' => e = .returned (.bool (T.has page)) ∧ Tb w' B (T.drop page) ∧ w.grownBy w' (some B) := by
  have H := Lib.hid h
  clear h
  go_enter Try.func18, Try.ntmps18
  go_wp2_with fail
  refine (find_any _ T page _ (.inr ⟨B, rfl, H.out⟩)).mono ?_; rintro e w1 ⟨rfl, hg1⟩
  have H1 := Lib.hid (H.out.keptNone hg1)
  have HG := Lib.hid (grown_none hg1 (some B))
  clear hg1
  rcases T.find_cases page with hf | hf | hf | hf | hf
  · have hv : T.drop page = T := by unfold Tl.drop; rw [hf]; rfl
    have e1 : T.at page = 0 := by simp [Tl.at, hf]
    have e2 : T.has page = false := by simp [Tl.has, hf]
    rw [e1, e2]
    go_wp2
    go_ret
    exact ⟨by rw [e2]; rfl, by rw [hv]; exact H1.out, HG.out⟩
  · have hv : T.drop page = { T with a := .no } := by unfold Tl.drop; rw [hf]; rfl
    have e1 : T.at page = 0 := by simp [Tl.at, hf]
    have e2 : T.has page = true := by simp [Tl.has, hf]
    rw [e1, e2]
    go_wp2_with (with_reducible refine hold_st 27 _ _ rfl ?_)
    apply Lib.hid
    with_reducible refine wpList_store_blk rfl 27 _ _ rfl _ ?o701 ?cs701 ?hx701 ?hy701 _ _ H1.out.blk ?hf701 _ ?hl701 Try.size27 ?h1701 ?_
    case hy701 => exact rfl
    case hx701 => exact rfl
    case hf701 => exact rfl
    case hl701 => exact rfl
    case h1701 => simp [allOne, Value.oneCell']
    intro w2 hb2 hg2
    have HB := Lib.hid (show Tb w2 B { T with a := .no } from hb2)
    have HG2 := Lib.hid (HG.out.trans hg2)
    clear hb2 hg2
    go_wp2
    go_ret
    exact ⟨by rw [e2]; rfl, by rw [hv]; exact HB.out, HG2.out⟩
  · have hv : T.drop page = { T with b := .no } := by unfold Tl.drop; rw [hf]; rfl
    have e1 : T.at page = 1 := by simp [Tl.at, hf]
    have e2 : T.has page = true := by simp [Tl.has, hf]
    rw [e1, e2]
    go_wp2_with (with_reducible refine hold_st 27 _ _ rfl ?_)
    apply Lib.hid
    with_reducible refine wpList_store_blk rfl 27 _ _ rfl _ ?o702 ?cs702 ?hx702 ?hy702 _ _ H1.out.blk ?hf702 _ ?hl702 Try.size27 ?h1702 ?_
    case hy702 => exact rfl
    case hx702 => exact rfl
    case hf702 => exact rfl
    case hl702 => exact rfl
    case h1702 => simp [allOne, Value.oneCell']
    intro w2 hb2 hg2
    have HB := Lib.hid (show Tb w2 B { T with b := .no } from hb2)
    have HG2 := Lib.hid (HG.out.trans hg2)
    clear hb2 hg2
    go_wp2
    go_ret
    exact ⟨by rw [e2]; rfl, by rw [hv]; exact HB.out, HG2.out⟩
  · have hv : T.drop page = { T with c := .no } := by unfold Tl.drop; rw [hf]; rfl
    have e1 : T.at page = 2 := by simp [Tl.at, hf]
    have e2 : T.has page = true := by simp [Tl.has, hf]
    rw [e1, e2]
    go_wp2_with (with_reducible refine hold_st 27 _ _ rfl ?_)
    apply Lib.hid
    with_reducible refine wpList_store_blk rfl 27 _ _ rfl _ ?o703 ?cs703 ?hx703 ?hy703 _ _ H1.out.blk ?hf703 _ ?hl703 Try.size27 ?h1703 ?_
    case hy703 => exact rfl
    case hx703 => exact rfl
    case hf703 => exact rfl
    case hl703 => exact rfl
    case h1703 => simp [allOne, Value.oneCell']
    intro w2 hb2 hg2
    have HB := Lib.hid (show Tb w2 B { T with c := .no } from hb2)
    have HG2 := Lib.hid (HG.out.trans hg2)
    clear hb2 hg2
    go_wp2
    go_ret
    exact ⟨by rw [e2]; rfl, by rw [hv]; exact HB.out, HG2.out⟩
  · have hv : T.drop page = { T with d := .no } := by unfold Tl.drop; rw [hf]; rfl
    have e1 : T.at page = 3 := by simp [Tl.at, hf]
    have e2 : T.has page = true := by simp [Tl.has, hf]
    rw [e1, e2]
    go_wp2_with (with_reducible refine hold_st 27 _ _ rfl ?_)
    apply Lib.hid
    with_reducible refine wpList_store_blk rfl 27 _ _ rfl _ ?o704 ?cs704 ?hx704 ?hy704 _ _ H1.out.blk ?hf704 _ ?hl704 Try.size27 ?h1704 ?_
    case hy704 => exact rfl
    case hx704 => exact rfl
    case hf704 => exact rfl
    case hl704 => exact rfl
    case h1704 => simp [allOne, Value.oneCell']
    intro w2 hb2 hg2
    have HB := Lib.hid (show Tb w2 B { T with d := .no } from hb2)
    have HG2 := Lib.hid (HG.out.trans hg2)
    clear hb2 hg2
    go_wp2
    go_ret
    exact ⟨by rw [e2]; rfl, by rw [hv]; exact HB.out, HG2.out⟩
theorem drop_nil (page : Int) (w : World) : Calls Try.prog 18 #[.pointer none, .int .u32 page] w fun e w' => e = .returned (.bool false) ∧ w.grownBy w' none := by
  have e1 : Tl.no.at page = 0 := by simp [Tl.at, no_find]
  have e2 : Tl.no.has page = false := by simp [Tl.has, no_find]
  go_enter Try.func18, Try.ntmps18
  go_wp2_with fail
  refine (find_any _ .no page _ (.inl ⟨rfl, rfl⟩)).mono ?_; rintro e w1 ⟨rfl, hg1⟩
  have HG := Lib.hid hg1
  clear hg1
  rw [e1, e2]
  go_wp2
  go_ret
  exact ⟨rfl, HG.out⟩
def Tl.look (T : Tl) (page : Int) : Ent := if T.find page < 0 then .no else T.get (T.find page)
set_option maxHeartbeats 4000000 in
theorem look_any (p : Option Addr) (T : Tl) (page : Int) (w : World) (h : Pt w p T) : Calls Try.prog 14 #[.pointer p, .int .u32 page] w fun e w' => e = .returned (.tuple #[(T.look page).val, .int .i64 (T.at page), .bool (T.has page)]) ∧ w.grownBy w' none := by
  have HN := Lib.hid (heap_alloc_new w (.cells zero4 27))
  have HG0 := Lib.hid (World.grownBy_alloc w (.cells zero4 27) none)
  have H := Lib.hid (h.keptNone HG0.out)
  clear h
  go_enter Try.func14, Try.ntmps14
  go_wp2_with fail
  refine (find_any _ T page _ H.out).mono ?_; rintro e w1 ⟨rfl, hg1⟩
  have H1 := Lib.hid (H.out.keptNone hg1)
  have HX := Lib.hid ((hg1.block w.heap.size (by simp) (by simp)).trans HN.out)
  have HG := Lib.hid (HG0.out.trans hg1)
  clear hg1 HN H HG0
  rcases T.find_cases page with hf | hf | hf | hf | hf
  · have hv : T.look page = .no := by unfold Tl.look; rw [hf]; rfl
    have e1 : T.at page = 0 := by simp [Tl.at, hf]
    have e2 : T.has page = false := by simp [Tl.has, hf]
    rw [e1, e2]
    go_wp2
    refine bodyPost_ret (results_c27tt rfl _ _ _ _ (by rfl) (by rfl) HX.out) (by rfl) ?_
    exact ⟨by rw [hv, e1, e2]; rfl, HG.out⟩
  · have hv : T.look page = T.a := by unfold Tl.look; rw [hf]; rfl
    have e1 : T.at page = 0 := by simp [Tl.at, hf]
    have e2 : T.has page = true := by simp [Tl.has, hf]
    obtain ⟨B, rfl, hb⟩ := H1.out.has (page := page) (by omega)
    have H2 := Lib.hid hb
    clear hb
    rw [e1, e2]
    go_wp2_with (with_reducible refine hold_ld 27 _ rfl ?_)
    apply Lib.hid
    with_reducible refine wpList_load_blk rfl 27 _ rfl _ ?o705 ?hx705 _ _ _ H2.out.blk _ 4 ?hn705 Try.underlying27 rfl Try.size27 ?_
    case hx705 => exact rfl
    case hn705 => exact rfl
    go_wp2_with (with_reducible refine hold_st 27 _ _ rfl ?_)
    apply Lib.hid
    with_reducible refine wpList_store_all rfl 27 _ _ rfl _ ?cs706 ?hx706 ?hy706 _ _ HX.out ?hf706 _ ?hl706 Try.size27 ?h1706 ?_
    case hy706 => exact rfl
    case hx706 => exact rfl
    case hf706 => exact rfl
    case hl706 => exact rfl
    case h1706 => simp [allOne, Value.oneCell']
    intro w2 hb2 hg2
    have HB := Lib.hid hb2
    have HG2 := Lib.hid (grown_new HG.out hg2 (Nat.le_refl _))
    clear hb2 hg2
    go_wp2
    refine bodyPost_ret (results_c27tt rfl _ _ _ _ (by rfl) (by rfl) HB.out) (by rfl) ?_
    exact ⟨by rw [hv, e1, e2]; rfl, HG2.out⟩
  · have hv : T.look page = T.b := by unfold Tl.look; rw [hf]; rfl
    have e1 : T.at page = 1 := by simp [Tl.at, hf]
    have e2 : T.has page = true := by simp [Tl.has, hf]
    obtain ⟨B, rfl, hb⟩ := H1.out.has (page := page) (by omega)
    have H2 := Lib.hid hb
    clear hb
    rw [e1, e2]
    go_wp2_with (with_reducible refine hold_ld 27 _ rfl ?_)
    apply Lib.hid
    with_reducible refine wpList_load_blk rfl 27 _ rfl _ ?o707 ?hx707 _ _ _ H2.out.blk _ 4 ?hn707 Try.underlying27 rfl Try.size27 ?_
    case hx707 => exact rfl
    case hn707 => exact rfl
    go_wp2_with (with_reducible refine hold_st 27 _ _ rfl ?_)
    apply Lib.hid
    with_reducible refine wpList_store_all rfl 27 _ _ rfl _ ?cs708 ?hx708 ?hy708 _ _ HX.out ?hf708 _ ?hl708 Try.size27 ?h1708 ?_
    case hy708 => exact rfl
    case hx708 => exact rfl
    case hf708 => exact rfl
    case hl708 => exact rfl
    case h1708 => simp [allOne, Value.oneCell']
    intro w2 hb2 hg2
    have HB := Lib.hid hb2
    have HG2 := Lib.hid (grown_new HG.out hg2 (Nat.le_refl _))
    clear hb2 hg2
    go_wp2
    refine bodyPost_ret (results_c27tt rfl _ _ _ _ (by rfl) (by rfl) HB.out) (by rfl) ?_
    exact ⟨by rw [hv, e1, e2]; rfl, HG2.out⟩
  · have hv : T.look page = T.c := by unfold Tl.look; rw [hf]; rfl
    have e1 : T.at page = 2 := by simp [Tl.at, hf]
    have e2 : T.has page = true := by simp [Tl.has, hf]
    obtain ⟨B, rfl, hb⟩ := H1.out.has (page := page) (by omega)
    have H2 := Lib.hid hb
    clear hb
    rw [e1, e2]
    go_wp2_with (with_reducible refine hold_ld 27 _ rfl ?_)
    apply Lib.hid
    with_reducible refine wpList_load_blk rfl 27 _ rfl _ ?o709 ?hx709 _ _ _ H2.out.blk _ 4 ?hn709 Try.underlying27 rfl Try.size27 ?_
    case hx709 => exact rfl
    case hn709 => exact rfl
    go_wp2_with (with_reducible refine hold_st 27 _ _ rfl ?_)
    apply Lib.hid
    with_reducible refine wpList_store_all rfl 27 _ _ rfl _ ?cs710 ?hx710 ?hy710 _ _ HX.out ?hf710 _ ?hl710 Try.size27 ?h1710 ?_
    case hy710 => exact rfl
    case hx710 => exact rfl
    case hf710 => exact rfl
    case hl710 => exact rfl
    case h1710 => simp [allOne, Value.oneCell']
    intro w2 hb2 hg2
    have HB := Lib.hid hb2
    have HG2 := Lib.hid (grown_new HG.out hg2 (Nat.le_refl _))
    clear hb2 hg2
    go_wp2
    refine bodyPost_ret (results_c27tt rfl _ _ _ _ (by rfl) (by rfl) HB.out) (by rfl) ?_
    exact ⟨by rw [hv, e1, e2]; rfl, HG2.out⟩
  · have hv : T.look page = T.d := by unfold Tl.look; rw [hf]; rfl
    have e1 : T.at page = 3 := by simp [Tl.at, hf]
    have e2 : T.has page = true := by simp [Tl.has, hf]
    obtain ⟨B, rfl, hb⟩ := H1.out.has (page := page) (by omega)
    have H2 := Lib.hid hb
    clear hb
    rw [e1, e2]
    go_wp2_with (with_reducible refine hold_ld 27 _ rfl ?_)
    apply Lib.hid
    with_reducible refine wpList_load_blk rfl 27 _ rfl _ ?o711 ?hx711 _ _ _ H2.out.blk _ 4 ?hn711 Try.underlying27 rfl Try.size27 ?_
    case hx711 => exact rfl
    case hn711 => exact rfl
    go_wp2_with (with_reducible refine hold_st 27 _ _ rfl ?_)
    apply Lib.hid
    with_reducible refine wpList_store_all rfl 27 _ _ rfl _ ?cs712 ?hx712 ?hy712 _ _ HX.out ?hf712 _ ?hl712 Try.size27 ?h1712 ?_
    case hy712 => exact rfl
    case hx712 => exact rfl
    case hf712 => exact rfl
    case hl712 => exact rfl
    case h1712 => simp [allOne, Value.oneCell']
    intro w2 hb2 hg2
    have HB := Lib.hid hb2
    have HG2 := Lib.hid (grown_new HG.out hg2 (Nat.le_refl _))
    clear hb2 hg2
    go_wp2
    refine bodyPost_ret (results_c27tt rfl _ _ _ _ (by rfl) (by rfl) HB.out) (by rfl) ?_
    exact ⟨by rw [hv, e1, e2]; rfl, HG2.out⟩
end Go.Proofs.Ytcahpmlajfbidaa
