import Derived.Test.YtfldcclnfagmpaaReadsW
import Derived.Laws.BytesArg
namespace Go.Proofs.Ytfldcclnfagmpaa
open Go.RowKit
theorem OwnB.row' {w : World} {base : Nat} {v : Value} {l : List UInt8} (h : OwnB w base v l) (hne : v ≠ .slice none 0 0) : ∃ g cap, v = .slice (some ⟨g, 0, none⟩) l.length cap ∧ base ≤ g ∧ Row w g l cap := by
  obtain ⟨h1, h2⟩ := h
  rcases h2 with ⟨rfl, h0⟩ | ⟨g, cap, cur, rfl, hg, hh, hn, hc, hs, ht⟩
  · exact absurd rfl hne
  · exact ⟨g, cap, rfl, hg, hn, hc, cur, hh, by omega, by simpa using ht⟩
/-- 'append(v, ys...)', v the call's own and not nil. -/
theorem wpList_bapp2 {w : World} {ops : Array Oper} {rest : List Oper} {o : Oper} {a : Act} {Q : Exit → Act → World → Prop} (hgd : o.guard = none) (s x : Operand)
    (ho : o.op = .call { callee := .builtin .append, args := #[s, x], argTypes := #[22, 22] }) (base : Nat) (v : Value) (xs ys : List UInt8) (hs : a.eval s = v) (hown : OwnB w base v xs) (hv : v ≠ .slice none 0 0)
    (ad : Option Addr) (m c : Nat) (hx : a.eval x = .slice ad m c) (hm : m = ys.length) (hnil : ad = none → c = 0) (hsrc : Src w ad ys) (hlen : xs.length + ys.length ≤ 140737488355328) (hbase : base ≤ w.heap.size)
    (h : ∀ g c w', base ≤ g → Row w' g (xs ++ ys) c → w.grownBy w' v.ownBlock → (some g = v.ownBlock ∨ g = w.heap.size) → wpList Try.prog ops Q rest (a.put o.dst (.slice (some ⟨g, 0, none⟩) (xs ++ ys).length c)) w') : wpList Try.prog ops Q (o :: rest) a w := by
  subst hm
  obtain ⟨i0, hi, hz0, hz1, hz2⟩ := info_parts Try.info5
  cases ad with
  | none =>
    obtain rfl := hnil rfl
    have h0 : ys = [] := by
      rcases hsrc with h | ⟨b, o, hb, _⟩
      · exact h
      · cases hb
    subst h0
    refine wpList_append_own_none hgd s x 22 ho base 5 i0 1 Try.underlying22 hi v _ _ hs hown (by simpa using hx) ?_
    obtain ⟨g, c, hv', hg, hr⟩ := hown.row' hv
    have := h g c w hg (by simpa using hr) (World.grownBy.refl _ _) (by rw [hv']; exact .inl rfl)
    rw [List.append_nil, ← hv'] at this
    exact this
  | some ad =>
    refine wpList_append_own_at w hgd s x 22 ho base 5 i0 (.int .u8 0) 1 1 Try.underlying22 hi hz0 hz1 hz2 rfl (by decide) v _ _ hs hown ad ys.length c (bsV ys) hx (by simp [bsV]) ?_ ?_ (by simp [maxLen]; omega) (by omega) hbase ?_
    · intro j u hj
      obtain ⟨hj', he⟩ := List.getElem?_eq_some_iff.1 hj
      have hjl : j < ys.length := by simpa [bsV] using hj'
      rcases hsrc with hh | ⟨b, o, hb, hc⟩
      · subst hh; simp at hjl
      · cases hb
        rw [Addr.add_lit, hc j hjl, ← he]
        simp [bsV, bV]
    · intro u hu
      simp only [bsV, List.mem_map] at hu
      obtain ⟨c, _, rfl⟩ := hu
      rfl
    · intro v' w' h1 h2 h3 h4
      have e : bsV xs ++ bsV ys = bsV (xs ++ ys) := by simp [bsV]
      rw [e] at h1
      have hown' : OwnB w' base v' (xs ++ ys) := by unfold OwnB; rw [List.length_append]; exact h1
      obtain ⟨g, c, rfl, hg, hr⟩ := hown'.row' (fun e => hv (h3.1 e).1)
      refine h g c w' hg hr h2 ?_
      rcases h4 with h4 | h4
      · exact .inl h4
      · exact .inr (by simpa [Value.ownBlock] using h4)
theorem conv_any {w : World} {a : Option Addr} {cap : Nat} {l : List UInt8} (h : Src w a l) : (convert 22 9 (.slice a l.length cap)).run Try.prog w = .ok (.string ⟨l.toArray⟩) w := by
  cases a with
  | some a => exact conv_src h
  | none =>
    obtain rfl : l = [] := by
      rcases h with h | ⟨b, o, hb, _⟩
      · exact h
      · cases hb
    exact run_convert_bytes_nil (P := Try.prog) w 22 5 Try.underlying22 Try.underlying5 0 cap 9 Try.underlying9
theorem part_zero (B g addr : Nat) (l : List UInt8) (F : FuncId) (caps : Array Value) (w : World) (h : Fr w B g l) (hl : l.length ≤ 2048) (hfit : addr ≤ l.length) (R : World → Prop)
    (hF : ∀ args w, (callFunc F args).run Try.prog w = .ok (.enter F args) w) (hon : ∀ a : Addr, Calls Try.prog F (#[.slice (some a) 0 0] ++ caps) w fun e w' => e = .returned (.tuple #[]) ∧ R w') :
    Calls Try.prog 32 #[.pointer (some ⟨B, 0, none⟩), .int .u32 addr, .int .i64 0, .func (.func F) #[] caps] w fun e w' => e = .returned (.int .i64 0) ∧ R w' := by
  obtain ⟨cap, hb, hr⟩ := h
  have hcap := hr.1
  have hc := cell_of_one hb
  have h2 : ¬ (l.length : Int) < addr := by omega
  have h3 : ¬ (l.length : Int) - addr < 0 := by omega
  go_enter Try.func32, Try.ntmps32
  go_wp2_with fail
  refine (hon _).mono ?_; rintro e w1 ⟨rfl, hR⟩
  clear hon
  go_wp2
  go_ret
  exact ⟨rfl, hR⟩

/-- 'func(b []byte) { copy(b, l) }' of no bytes. -/
theorem load1_zero (a a' : Addr) (Bl c : Nat) (w : World) (hv : w.heap[Bl]? = some (.cells #[.slice (some a') 0 c] 22 (0, 0))) :
    Calls Try.prog 33 (#[.slice (some a) 0 0] ++ #[.pointer (some ⟨Bl, 0, none⟩)]) w fun e w' => e = .returned (.tuple #[]) ∧ w = w' := by
  show Calls Try.prog 33 #[.slice (some a) 0 0, .pointer (some ⟨Bl, 0, none⟩)] w _
  have hcv := cell_of_one hv
  have hcp := fun ty => run_copy_none (P := Try.prog) w 22 22 ty 5 (some a) (some a') 0 0 0 c Try.underlying22 Try.size5 rfl
  go_enter Try.func33, Try.ntmps33
  go_wp2
  go_end0
  exact ⟨rfl, rfl⟩

def loadS (cur : List UInt8) (addr : Nat) (l : List UInt8) : List UInt8 := if cur.length < addr + l.length then cur else cur.take addr ++ l ++ cur.drop (addr + l.length)
theorem loadS_length (cur : List UInt8) (addr : Nat) (l : List UInt8) : (loadS cur addr l).length = cur.length := by
  unfold loadS; split
  · rfl
  · simp; omega

set_option maxHeartbeats 1000000 in
theorem load_any (B g addr n c : Nat) (cur l : List UInt8) (a : Addr) (w : World) (h : Fr w B g cur) (hl2 : cur.length ≤ 2048) (ha : addr < 4294967296) (hn : n = l.length) (hn2 : l.length ≤ 140737488355328) (hs : Src w (some a) l) :
    Calls Try.prog 23 #[.pointer (some ⟨B, 0, none⟩), .int .u32 addr, .slice (some a) n c] w fun e w' => e = .returned (.int .i64 (if cur.length < addr + l.length then 4 else 0)) ∧ Fr w' B g (loadS cur addr l) ∧ w.grownBy w' (some g) := by
  subst hn
  have hmf := mkFunc
  have hg0 := World.grownBy_alloc w (.cells #[.slice (some a) l.length c] 22) none
  have hF0 := h.keptNone hg0
  have hs0 := hs.keptNone hg0
  have hv0 : (w.alloc (.cells #[.slice (some a) l.length c] 22)).heap[w.heap.size]? = some (.cells #[.slice (some a) l.length c] 22 (0, 0)) := heap_alloc_new _ _
  have hgne : g ≠ w.heap.size := by have := h.ltg; omega
  have hF0' := hF0
  obtain ⟨cap, hb0, hr0⟩ := hF0
  have hc0 := cell_of_one hb0
  have hcv := cell_of_one hv0
  unfold loadS
  by_cases hno : cur.length < addr + l.length
  · rw [if_pos hno, if_pos hno]
    have C1 := part_range B g addr l.length cur (.func (.func 33) #[] #[.pointer (some ⟨w.heap.size, 0, none⟩)]) _ hF0' ha (by omega) (by omega) (by omega)
    have HG := Lib.hid hg0
    have HF := Lib.hid hF0'
    clear hg0 hv0 hF0' hb0
    go_enter Try.func23, Try.ntmps23
    go_wp2_with fail
    refine (none_no _ _ _ _ _ hc0).mono ?_; rintro e w' ⟨rfl, rfl⟩
    go_wp2_with fail
    refine C1.mono ?_; rintro e w' ⟨rfl, rfl⟩
    go_wp2
    go_ret
    exact ⟨rfl, HF.out, grown_none HG.out _⟩
  · rw [if_neg hno, if_neg hno]
    have C1 : Calls Try.prog 32 #[.pointer (some ⟨B, 0, none⟩), .int .u32 addr, .int .i64 l.length, .func (.func 33) #[] #[.pointer (some ⟨w.heap.size, 0, none⟩)]] (w.alloc (.cells #[.slice (some a) l.length c] 22)) fun e w' => e = .returned (.int .i64 0) ∧ (Fr w' B g (cur.take addr ++ l ++ cur.drop (addr + l.length)) ∧ w.grownBy w' (some g)) := by
      by_cases hl0 : l = []
      · subst hl0
        refine part_zero B g addr cur 33 #[.pointer (some ⟨w.heap.size, 0, none⟩)] _ hF0' hl2 (by simp at hno; omega) _ enter33 (fun a0 => ?_)
        refine (load1_zero a0 a w.heap.size c _ hv0).mono fun e w' ⟨he, hw⟩ => ⟨he, ?_⟩
        subst hw
        simp only [List.append_nil, List.length_nil, Nat.add_zero, List.take_append_drop]
        exact ⟨hF0', grown_none hg0 _⟩
      · have hlp := List.length_pos_iff.2 hl0
        have h1 := load1 g addr l.length w.heap.size cap c (some a) cur l _ hr0 rfl hl0 (by omega) hs0 hv0
        refine part_ok B g addr l.length cur 33 #[.pointer (some ⟨w.heap.size, 0, none⟩)] _ hF0' (by omega) hl2 (by omega) _ enter33 (h1.mono fun e w' ⟨he, hrow, hg⟩ => ⟨he, ⟨cap, ?_, hrow⟩, (grown_none hg0 _).trans hg⟩)
        rw [show (cur.take addr ++ l ++ cur.drop (addr + l.length)).length = cur.length by simp; omega]
        exact (hg.block B (lt_of_block hb0) (by simpa using hF0'.ne)).trans hb0
    have HF := Lib.hid hF0'
    clear hg0 hv0 hF0' hb0
    go_enter Try.func23, Try.ntmps23
    go_wp2_with fail
    refine (none_no _ _ _ _ _ hc0).mono ?_; rintro e w' ⟨rfl, rfl⟩
    go_wp2_with fail
    refine C1.mono ?_; rintro e w' ⟨rfl, hF', hg'⟩
    clear C1
    go_wp2
    go_ret
    exact ⟨rfl, hF', hg'⟩
theorem take_drop_step (cur l : List UInt8) (addr k : Nat) (hk : k < l.length) (hfit : addr + l.length ≤ cur.length) :
    (cur.take addr ++ l.take k ++ cur.drop (addr + k)).set (addr + k) l[k] = cur.take addr ++ l.take (k + 1) ++ cur.drop (addr + (k + 1)) := by
  have h1 : (cur.take addr ++ l.take k).length = addr + k := by simp; omega
  rw [List.set_append_right _ _ (by omega), h1, Nat.sub_self, List.drop_eq_getElem_cons (by omega), List.set_cons_zero, List.take_succ_eq_append_getElem hk]
  simp only [List.append_assoc, List.cons_append, List.nil_append, Nat.add_assoc]

set_option maxHeartbeats 1000000 in
theorem ref_load_no (b o n cap addr m c : Nat) (a : Option Addr) (w : World) (hn : n ≤ 2048) (ha : addr < 4294967296) (hm : m ≤ 140737488355328) (hno : n < addr + m) :
    Calls Try.prog 24 #[.slice (some ⟨b, o, none⟩) n cap, .int .u32 addr, .slice a m c] w fun e w' => e = .returned (.tuple #[.slice (some ⟨b, o, none⟩) n cap, .int .i64 4]) ∧ w = w' := by
  have h1 : (n : Int) < (addr : Int) + m := by omega
  go_enter Try.func24, Try.ntmps24
  go_wp2
  go_ret2
  exact ⟨rfl, rfl⟩

set_option maxHeartbeats 1000000 in
theorem ref_load (b o n cap addr m c : Nat) (cur l : List UInt8) (a : Option Addr) (w : World) (hs : Src w (some ⟨b, o, none⟩) cur) (hn : n = cur.length) (hne : cur ≠ []) (hl2 : cur.length ≤ 2048) (hs2 : Src w a l) (hm : m = l.length) (hfit : addr + l.length ≤ cur.length) :
    Calls Try.prog 24 #[.slice (some ⟨b, o, none⟩) n cap, .int .u32 addr, .slice a m c] w fun e w' => ∃ g c', e = .returned (.tuple #[.slice (some ⟨g, 0, none⟩) cur.length c', .int .i64 0]) ∧ w.heap.size ≤ g ∧ Row w' g (cur.take addr ++ l ++ cur.drop (addr + l.length)) c' ∧ w.grownBy w' none := by
  subst hn hm
  have hs1 : Src (w.alloc (.cells #[] 5)) (some ⟨b, o, none⟩) cur := hs.keptNone (World.grownBy_alloc _ _ _)
  have ho1 := OwnB.empty w w.heap.size (Nat.le_refl _)
  have h1 : ¬ (cur.length : Int) < (addr : Int) + l.length := by omega
  go_enter Try.func24, Try.ntmps24
  go_wp2_with (at_builtin; refine wpList_bapp rfl _ _ rfl w.heap.size _ [] cur rfl ho1 _ _ _ rfl rfl (by simp) hs1 (by simp; omega) (by simp) ?_)
  intro v' w' k1 k2 k3
  obtain ⟨g, c', rfl, hg, hr⟩ := k1.row hne
  have hg2 : w.grownBy w' none := grown_new (World.grownBy_alloc _ _ _) k2 (Nat.le_refl _)
  have hr0 : Row w' g (cur.take addr ++ l.take 0 ++ cur.drop (addr + 0)) c' := by simpa using hr
  have HR := Lib.hid hr0
  clear k1 k2 k3 hs1 ho1 hr0
  go_wp2
  go_loopw [9] (fun i wr => ∃ k : Nat, k ≤ l.length ∧ i = .int .i64 k ∧ Row wr g (cur.take addr ++ l.take k ++ cur.drop (addr + k)) c' ∧ w.grownBy wr none) (fun i _ => l.length - (intOf i).toNat)
  case atStart => exact ⟨0, Nat.zero_le _, rfl, HR.out, hg2⟩
  case round =>
    obtain ⟨k, hk, rfl, hrow, hgr⟩ := hrel
    by_cases hlt : k < l.length
    · obtain ⟨b2, o2, rfl, hc2⟩ := hs2.resolve_left (fun e => by subst e; simp at hlt)
      have hcl : wr.cell? ⟨b2, o2 + k, none⟩ = some (.int .u8 (l[k].toNat : Int)) := hgr.cell (hc2 k hlt) (by simp)
      have hcell := hrow.cell (addr + k) (by simp; omega)
      have hfz := hrow.frozen (addr + k)
      generalize hx : l[k] = x at *
      have HX := Lib.hid hx
      clear hx
      go_wp2
      go_roundw
      case rel =>
        refine ⟨k + 1, by omega, by go_num, ?_, grown_new hgr (grown_setCell _ _ _ _) hg⟩
        rw [← take_drop_step cur l addr k hlt hfit, HX.out]
        exact hrow.set (addr + k) x
      case measure => simp [intOf]; omega
    · obtain rfl : k = l.length := by omega
      rw [List.take_length] at hrow
      go_wp2
      go_ret2
      exact ⟨g, c', rfl, hg, hrow, hgr⟩

end Go.Proofs.Ytfldcclnfagmpaa
