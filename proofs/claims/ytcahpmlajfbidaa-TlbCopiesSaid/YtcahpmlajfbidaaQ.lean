import Derived.Test.YtcahpmlajfbidaaP
namespace Go.Proofs.Ytcahpmlajfbidaa
open Go.RowKit
structure Ac where
  what : Int
  page : Int
  frame : Int
  wr : Bool
  th : Bool
def Ac.cells (x : Ac) : List Value := [.int .i64 x.what, .int .u32 x.page, .int .u32 x.frame, .bool x.wr, .bool x.th]
/-- A list of calls that can be read. -/
def SrcX (w : World) (a : Option Addr) (n : Nat) (l : Nat → Ac) : Prop :=
  n = 0 ∨ ∃ b o, a = some ⟨b, o, none⟩ ∧ ∀ j, j < n → w.rangeAt b (o + j * 5) (l j).cells
def Tl.run (l : Nat → Ac) : Nat → Tl
  | 0 => .no
  | k + 1 => (Tl.run l k).act (l k).what (l k).page (l k).frame (l k).wr
theorem good_run (l : Nat → Ac) : ∀ k, (Tl.run l k).good
  | 0 => .inl rfl
  | k + 1 => Tl.good_act (good_run l k) _ _ _ _
theorem rangeAt_of {w W : World} {b o : Nat} {cs : List Value} (h : w.rangeAt b o cs) (e : W.heap[b]? = w.heap[b]?) : W.rangeAt b o cs :=
  fun j v hj => (World.cell?_of_block e).trans (h j v hj)
theorem exec_ldm {P : Program} {op : Oper} {ρ : Operand → Value} {W : World} {x : Operand} (ty : TypeId) (ho : op.op = .load ty x) (b o : Nat) (hx : ρ x = .pointer (some ⟨b, o, none⟩)) (cs : List Value) (d : TypeDesc) (hc : W.rangeAt b o cs)
    (hu : P.underlying ty = some d) (hd : d.isRow = true) (hi : (P.info? ty).map (·.size) = some cs.length) :
    (execOp ρ op).run P W = .ok (.value (.agg cs.toArray)) W := by
  have hrun := run_loadAt_mid (P := P) W b o ty cs d hc hu hd hi
  simp only [execOp, ho, hx, Sem.run_bind, hrun, Result.andThen_ok, Sem.run_pure]
theorem wp_of_exec {P : Program} {op : Oper} {a : Act} {w : World} {v : Value} {K : Act → World → Prop} {Q : Exit → Act → World → Prop} (h : (execOp a.eval op).run P w = .ok (.value v) w) (k : K (a.put op.dst v) w) : op.wp P a w K Q := by
  unfold Oper.wp
  rw [h]
  exact k
theorem Try.size40 : (Try.prog.info? 40).map (·.size) = some 5 := by kernel_rfl
theorem results_tc30t {fn : Func} {p t u : Tmp} (h : fn.results = #[.tmp t, .cell p 30, .tmp u]) (tmps : Array Value) (w : World) (g : Nat) (cs : Array Value) (hs : cs.size = 17)
    (hp : tmps.getD p undef = .pointer (some ⟨g, 0, none⟩)) (hg : w.heap[g]? = some (.cells cs 30 (0, 0))) : (results fn tmps).run Try.prog w = .ok (.tuple #[tmps.getD t undef, .agg cs, tmps.getD u undef]) w := by
  have hp' : tmps[p]?.getD undef = .pointer (some ⟨g, 0, none⟩) := by simpa using hp
  have hl := run_loadVar_row (P := Try.prog) w g 30 30 cs (0, 0) _ hg Try.underlying30 rfl (by rw [hs]; exact Try.size30)
  simp [results, h, hp', asAddr, hl]
set_option maxHeartbeats 8000000 in
theorem played_any (a : Option Addr) (n cap : Nat) (l : Nat → Ac) (w : World) (hs : SrcX w a n l) (hm : n ≤ 9223372036854775807) :
    Calls Try.prog 10 #[.slice a n cap] w fun e w' => ∃ B, e = .returned (.tuple #[.pointer (some ⟨B, 0, none⟩), (Tl.run l n).val, .bool true]) ∧ w.heap.size ≤ B ∧ Tb w' B (Tl.run l n) ∧ w.grownBy w' none := by
  have HS1 := Lib.hid (heap_alloc_new w (.cells zeros 30))
  go_enter Try.func10, Try.ntmps10
  go_wp2_with fail
  refine (new_any _).mono ?_; rintro e w1 ⟨B, rfl, hB, hTb, hg1⟩
  rw [World.size_alloc] at hB
  have hB1 := hTb.lt
  have hsz := hg1.size
  rw [World.size_alloc] at hsz
  have HN := Lib.hid (heap_alloc_new w1 (.cells zeros 30))
  have HT1 := Lib.hid (hTb.keptNone (World.grownBy_alloc w1 (.cells zeros 30) none))
  have HG1 := Lib.hid (hg1.trans (World.grownBy_alloc w1 (.cells zeros 30) none))
  clear hTb hg1
  go_wp2_with (with_reducible refine hold_st 30 _ _ rfl ?_)
  apply Lib.hid
  with_reducible refine wpList_store_all rfl 30 _ _ rfl _ ?cs1501 ?hx1501 ?hy1501 _ _ HN.out ?hf1501 _ ?hl1501 Try.size30 ?h11501 ?_
  case hy1501 => exact rfl
  case hx1501 => exact rfl
  case hf1501 => exact rfl
  case hl1501 => exact rfl
  case h11501 => simp [allOne, Value.oneCell']
  intro w2 hb2 hg2

  have HX2 := Lib.hid (show w2.heap[w1.heap.size]? = some (.cells (Tl.run l 0).cells 30 (0, 0)) from hb2)
  have HT2 := Lib.hid (show Tb w2 B (Tl.run l 0) from HT1.out.kept hg2 (by simp; omega))
  have HG2 := Lib.hid (grown_new HG1.out hg2 (by simp; omega))
  clear hb2 hg2 HN HT1 HG1
  go_wp2
  go_loopw [7, 8] (fun f i wr => f = .bool true ∧ ∃ k : Nat, k ≤ n ∧ i = .int .i64 k ∧ Tb wr B (Tl.run l k) ∧ wr.heap[w1.heap.size]? = some (.cells (Tl.run l k).cells 30 (0, 0)) ∧ (w.alloc (.cells zeros 30)).grownBy wr none) (fun _ i _ => n - (intOf i).toNat)
  case atStart => exact ⟨rfl, 0, Nat.zero_le _, rfl, HT2.out, HX2.out, HG2.out⟩
  case round =>
    obtain ⟨rfl, k, hk, rfl, hTr, hXr, hgr⟩ := hrel
    have HTr := Lib.hid hTr
    have HXr := Lib.hid hXr
    have HG := Lib.hid hgr
    have hXge : w.heap.size + 1 ≤ w1.heap.size := hsz
    clear hTr hXr hgr HT2 HX2 HG2
    by_cases hlt : k < n
    · obtain ⟨b, o, rfl, hcs⟩ := hs.resolve_left (by omega)
      have hgood := good_run l k
      have hb0 : b < w.heap.size := World.block_lt_of_cell? w _ (hcs k hlt 0 _ rfl)
      have hbw : b < wr.heap.size := by have := HG.out.size; rw [World.size_alloc] at this; omega
      have HS := Lib.hid (fun j hj => rangeAt_of (hcs j hj) ((HG.out.block b (by rw [World.size_alloc]; omega) (by simp)).trans (heap_alloc_old w (.cells zeros 30) hb0)))
      clear hcs hs
      go_wp2
      refine regx_open (fun k => k = B ∨ k = w1.heap.size) (n := 12) rfl (by kernel_rfl) ?_
      refine regx_take 0 (some 21) (v := ?_) rfl rfl (by kernel_rfl) (by kernel_rfl) (by kernel_rfl) (fun _ _ _ h => h) (by rfl) ?_ ?_
      rotate_left
      · intro W hW; go_simp; first | done | with_reducible rfl
      try simp only [Act.put, List.setIfInBounds_toArray, List.set_cons_zero, List.set_cons_succ]
      refine regx_take 2 (some 23) (v := ?_) rfl rfl (by kernel_rfl) (by kernel_rfl) (by kernel_rfl) (fun _ _ _ h => h) (by rfl) ?_ ?_
      rotate_left
      · intro W hW; go_simp; first | done | with_reducible rfl
      try simp only [Act.put, List.setIfInBounds_toArray, List.set_cons_zero, List.set_cons_succ]
      refine regx_take 3 (some 24) (v := ?_) rfl rfl (by kernel_rfl) (by kernel_rfl) (by kernel_rfl) (fun _ _ _ h => h) (by rfl) ?_ ?_
      rotate_left
      · intro W hW; go_simp; first | done | with_reducible rfl
      try simp only [Act.put, List.setIfInBounds_toArray, List.set_cons_zero, List.set_cons_succ]
      refine regx_take 4 (some 25) (v := ?_) rfl rfl (by kernel_rfl) (by kernel_rfl) (by kernel_rfl) (fun _ _ _ h => h) (by rfl) ?_ ?_
      rotate_left
      · intro W hW; go_simp; first | done | with_reducible rfl
      try simp only [Act.put, List.setIfInBounds_toArray, List.set_cons_zero, List.set_cons_succ]
      refine regx_take 5 (some 26) (v := ?_) rfl rfl (by kernel_rfl) (by kernel_rfl) (by kernel_rfl) (fun _ _ _ h => h) (by rfl) ?_ ?_
      rotate_left
      · intro W hW; refine exec_ldm (x := .tmp 25) 40 ?_ b (o + k * 5) ?_ (l k).cells _ (rangeAt_of (HS.out k hlt) (hW.block b hbw (by show ¬ (b = B ∨ b = w1.heap.size); omega))) Try.underlying40 ?_ Try.size40 <;> rfl
      try simp only [Act.put, List.setIfInBounds_toArray, List.set_cons_zero, List.set_cons_succ]
      refine wpAnyH_ready (rs := [1]) (by kernel_rfl) (by simp) ?_
      refine (AllReadyH.cons (o := { dst := some 22, op := Op.load 30 (Operand.tmp 6), type := 30, pos := "law.go:73", after := #[], guard := none }) rfl (fun K hK => ?_) AllReadyH.nil)
      refine wp_of_exec (exec_ld30 (x := .tmp 6) (b := w1.heap.size) (T := Tl.run l k) ?_ ?_ ?_) ?_
      · rfl
      · rfl
      · exact HXr.out
      refine regx_same hK ?_
      clear hK K
      try simp only [Act.put, List.setIfInBounds_toArray, List.set_cons_zero, List.set_cons_succ]
      refine wpAnyH_ready (rs := [6]) (by kernel_rfl) (by simp) ?_
      refine (AllReadyH.cons (o := { dst := some 27, op := Op.call { callee := Callee.value (Operand.func 13), args := #[Operand.tmp 21, Operand.tmp 22, Operand.tmp 26], argTypes := #[24, 30, 40] }, type := 37, pos := "law.go:73", after := #[{ on := 0, ground := Ground.data }, { on := 1, ground := Ground.data }, { on := 5, ground := Ground.data }], guard := none }) rfl (fun K hK => ?_) AllReadyH.nil)
      go_simp
      refine (act_any B (Tl.run l k) _ _ _ _ _ _ HTr.out.drew hgood).mono ?_; rintro e u1 ⟨rfl, hT1, h1'⟩; have h1 : Keeps (fun k => k = B ∨ k = w1.heap.size) _ u1 := Keeps.of h1' (fun r e => by cases e; exact .inl rfl)
      refine regx_next hK h1 ?_
      clear hK K
      try simp only [Act.put, List.setIfInBounds_toArray, List.set_cons_zero, List.set_cons_succ]
      refine regx_take 7 (some 20) (v := ?_) rfl rfl (by kernel_rfl) (by kernel_rfl) (by kernel_rfl) (fun _ _ _ h => h) (by rfl) ?_ ?_
      rotate_left
      · intro W hW; go_simp; first | done | with_reducible rfl
      try simp only [Act.put, List.setIfInBounds_toArray, List.set_cons_zero, List.set_cons_succ]
      refine regx_take 8 (some 28) (v := ?_) rfl rfl (by kernel_rfl) (by kernel_rfl) (by kernel_rfl) (fun _ _ _ h => h) (by rfl) ?_ ?_
      rotate_left
      · intro W hW; go_simp; first | done | with_reducible rfl
      try simp only [Act.put, List.setIfInBounds_toArray, List.set_cons_zero, List.set_cons_succ]
      refine regx_take 9 (some 29) (v := ?_) rfl rfl (by kernel_rfl) (by kernel_rfl) (by kernel_rfl) (fun _ _ _ h => h) (by rfl) ?_ ?_
      rotate_left
      · intro W hW; go_simp; first | done | with_reducible rfl
      try simp only [Act.put, List.setIfInBounds_toArray, List.set_cons_zero, List.set_cons_succ]
      refine wpAnyH_ready (rs := [10]) (by kernel_rfl) (by simp) ?_
      refine (AllReadyH.cons (o := { dst := none, op := Op.store 30 (Operand.tmp 6) (Operand.tmp 28), type := 0, pos := "law.go:73", after := #[{ on := 8, ground := Ground.data }, { on := 6, ground := Ground.chain }, { on := 0, ground := Ground.phase }, { on := 1, ground := Ground.phase }, { on := 2, ground := Ground.phase }, { on := 3, ground := Ground.phase }, { on := 4, ground := Ground.phase }, { on := 5, ground := Ground.phase }, { on := 6, ground := Ground.phase }, { on := 7, ground := Ground.phase }, { on := 8, ground := Ground.phase }, { on := 9, ground := Ground.textOnly Departure.lateStores }], guard := none }) rfl (fun K hK => ?_) AllReadyH.nil)
      have hz := (h1'.block _ (lt_of_block HXr.out) (by simp; omega)).trans HXr.out
      refine wp_store_all 30 _ _ rfl w1.heap.size ?cs9 ?hx9 ?hy9 _ _ hz ?hf9 17 ?hn9 Try.size30 ?h19 ?_
      case hy9 => exact rfl
      case hx9 => exact rfl
      case hf9 => exact rfl
      case hn9 => exact rfl
      case h19 => simp [allOne, Value.oneCell']
      intro u4 hb4 h4'
      have h4 : Keeps (fun k => k = B ∨ k = w1.heap.size) _ u4 := Keeps.of h4' (fun r e => by cases e; exact .inr rfl)
      refine regx_next hK h4 ?_
      clear hK K
      try simp only [Act.put]
      refine regx_take 11 (some 7) (v := ?_) rfl rfl (by kernel_rfl) (by kernel_rfl) (by kernel_rfl) (fun _ _ _ h => h) (by rfl) ?_ ?_
      rotate_left
      · intro W hW; go_simp; first | done | with_reducible rfl
      try simp only [Act.put, List.setIfInBounds_toArray, List.set_cons_zero, List.set_cons_succ]
      refine wpAnyH_done (by kernel_rfl) ?_ _
      have RB := Lib.hid hb4
      have HT4 := Lib.hid (hT1.kept h4' (by simp; omega))
      have HG4 := Lib.hid (grown_new (grown_new (drewr HG.out) h1' (by simp; omega)) h4' (by simpa using hXge))
      clear hb4 h4' h4 h1 h1' hT1
      go_wp2
      go_roundw
      case rel => exact ⟨rfl, k + 1, by omega, by simp, HT4.out, RB.out, HG4.out⟩
      case measure => simp [intOf]; omega
    · obtain rfl : k = n := by omega
      have HSr := Lib.hid ((HG.out.block _ (by rw [World.size_alloc]; omega) (by simp)).trans HS1.out)
      go_wp2
      refine reg_open (some w.heap.size) (n := 6) rfl (by kernel_rfl) ?_
      refine reg_take 0 (some 30) (v := ?_) rfl rfl (by kernel_rfl) (by kernel_rfl) (by kernel_rfl) (fun _ _ _ h => h) (by rfl) ?_ ?_
      rotate_left
      · intro W hW; go_simp; first | done | with_reducible rfl
      try simp only [Act.put, List.setIfInBounds_toArray, List.set_cons_zero, List.set_cons_succ]
      refine reg_take 1 (some 31) (v := ?_) rfl rfl (by kernel_rfl) (by kernel_rfl) (by kernel_rfl) (fun _ _ _ h => h) (by rfl) ?_ ?_
      rotate_left
      · intro W hW; refine exec_ld30 (x := .tmp 6) ?_ ?_ ((hW.block _ (lt_of_block HXr.out) (by simp; omega)).trans HXr.out) <;> rfl
      try simp only [Act.put, List.setIfInBounds_toArray, List.set_cons_zero, List.set_cons_succ]
      refine reg_take 2 (some 32) (v := ?_) rfl rfl (by kernel_rfl) (by kernel_rfl) (by kernel_rfl) (fun _ _ _ h => h) (by rfl) ?_ ?_
      rotate_left
      · intro W hW; go_simp; first | done | with_reducible rfl
      try simp only [Act.put, List.setIfInBounds_toArray, List.set_cons_zero, List.set_cons_succ]
      refine reg_take 3 (some 2) (v := ?_) rfl rfl (by kernel_rfl) (by kernel_rfl) (by kernel_rfl) (fun _ _ _ h => h) (by rfl) ?_ ?_
      rotate_left
      · intro W hW; go_simp; first | done | with_reducible rfl
      try simp only [Act.put, List.setIfInBounds_toArray, List.set_cons_zero, List.set_cons_succ]
      refine wpAnyH_ready (rs := [4]) (by kernel_rfl) (by simp) ?_
      refine (AllReadyH.cons (o := { dst := none, op := Op.store 30 (Operand.tmp 3) (Operand.tmp 31), type := 0, pos := "law.go:75", after := #[{ on := 1, ground := Ground.data }, { on := 3, ground := Ground.chain }, { on := 0, ground := Ground.phase }, { on := 1, ground := Ground.phase }, { on := 2, ground := Ground.textOnly Departure.lateStores }, { on := 3, ground := Ground.phase }], guard := none }) rfl (fun K hK => ?_) AllReadyH.nil)
      have hz : wr.drew.heap[w.heap.size]? = some (.cells zeros 30 (0, 0)) := HSr.out
      refine wp_store_all 30 _ _ rfl w.heap.size ?cs8 ?hx8 ?hy8 _ _ hz ?hf8 17 ?hn8 Try.size30 ?h18 ?_
      case hy8 => exact rfl
      case hx8 => exact rfl
      case hf8 => exact rfl
      case hn8 => exact rfl
      case h18 => simp [allOne, Value.oneCell']
      intro u4 hb4 h4'
      refine reg_next hK h4' ?_
      clear hK K
      try simp only [Act.put]
      refine reg_take 5 (some 4) (v := ?_) rfl rfl (by kernel_rfl) (by kernel_rfl) (by kernel_rfl) (fun _ _ _ h => h) (by rfl) ?_ ?_
      rotate_left
      · intro W hW; go_simp; first | done | with_reducible rfl
      try simp only [Act.put, List.setIfInBounds_toArray, List.set_cons_zero, List.set_cons_succ]
      refine wpAnyH_done (by kernel_rfl) ?_ _
      have RB := Lib.hid hb4
      have HT4 := Lib.hid (HTr.out.drew.kept h4' (by simp; omega))
      have HG4 := Lib.hid (grown_new ((World.grownBy_alloc w (.cells zeros 30) none).trans (drewr HG.out)) h4' (Nat.le_refl _))
      clear hb4 h4'
      go_wp2
      refine bodyPost_ret (results_tc30t rfl _ _ _ _ (by rfl) (by rfl) RB.out) (by rfl) ?_
      exact ⟨B, rfl, by omega, HT4.out, HG4.out⟩
end Go.Proofs.Ytcahpmlajfbidaa
