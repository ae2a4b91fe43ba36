import Derived.Test.YtfldcclnfagmpaaProg
import Derived.Test.YtfldcclnfagmpaaMem
import Derived.Deep.DeepFit
import Derived.BigQuiet
import Derived.Deep.QuietTactic
import Derived.Lib.Hide
import Derived.Laws.AppendOwnNone
namespace Go.Proofs.Ytfldcclnfagmpaa
open Go.RowKit

theorem Try.info5 : (Try.prog.info? 5).map (fun i => (i.zero, i.size, i.bytes)) = some (some (.int .u8 0), 1, 1) := by kernel_rfl

theorem mk_bytes (w : World) (n : Nat) (m : Int) (hm : m = n) (hn : n ≤ 140737488355328) :
    (Instr.makeSlice 22 (.int .i64 m) (.int .i64 m)).run Try.prog w = .ok (.slice (some ⟨w.heap.size, 0, none⟩) n n) (w.alloc (.cells (bsV (List.replicate n 0)).toArray 5)) := by
  subst hm
  obtain ⟨i0, hi, hz0, hz1, hz2⟩ := info_parts Try.info5
  have h := run_make (P := Try.prog) w 22 5 i0 _ Try.underlying22 hi hz0 .i64 .i64 n n (by omega) (Int.le_refl _) (by rw [hz2]; omega) (by omega)
  rw [Int.toNat_natCast, hz1, Nat.mul_one] at h
  rw [h]
  have e : madeCells (Value.int .u8 0).cells n = (bsV (List.replicate n 0)).toArray := by
    apply Array.toList_inj.1
    have := toList_madeCells_one (.int .u8 0) n
    simpa [Value.cells, bsV, bV] using this
  rw [e]

/-- A slice value that the call owns: bytes l, in a row from block 'base' on (or nil and no bytes). -/
def OwnB (w : World) (base : Nat) (v : Value) (l : List UInt8) : Prop := w.ownsRow base 5 1 v l.length (bsV l)
theorem OwnB.nil (w : World) (base : Nat) : OwnB w base (.slice none 0 0) [] := World.ownsRow_nil _ _ _ _
theorem OwnB.empty (w : World) (base : Nat) (hb : base ≤ w.heap.size) : OwnB (w.alloc (.cells #[] 5)) base (.slice (some ⟨w.heap.size, 0, none⟩) 0 0) [] :=
  World.ownsRow_lit w #[] 0 hb (by simp [maxLen]) (by simp)
theorem OwnB.kept {w w' : World} {base : Nat} {v : Value} {l : List UInt8} {row : Option Nat} (h : OwnB w base v l) (hg : w.grownBy w' row) (hne : v.ownBlock = none ∨ v.ownBlock ≠ row) : OwnB w' base v l := World.ownsRow.kept h hg hne
theorem OwnB.keptNone {w w' : World} {base : Nat} {v : Value} {l : List UInt8} (h : OwnB w base v l) (hg : w.grownBy w' none) : OwnB w' base v l := h.kept hg (by cases v.ownBlock <;> simp)
theorem OwnB.row {w : World} {base : Nat} {v : Value} {l : List UInt8} (h : OwnB w base v l) (hne : l ≠ []) : ∃ g cap, v = .slice (some ⟨g, 0, none⟩) l.length cap ∧ base ≤ g ∧ Row w g l cap := by
  obtain ⟨g, cap, h1, _, h2, h3⟩ := Row.of_owns h hne
  exact ⟨g, cap, h1, h2, h3⟩
/-- 'append(v, ys...)', v the call's own, ys whatever can be read. -/
theorem wpList_bapp {w : World} {ops : Array Oper} {rest : List Oper} {o : Oper} {a : Act} {Q : Exit → Act → World → Prop} (hgd : o.guard = none) (s x : Operand)
    (ho : o.op = .call { callee := .builtin .append, args := #[s, x], argTypes := #[22, 22] }) (base : Nat) (v : Value) (xs ys : List UInt8) (hs : a.eval s = v) (hown : OwnB w base v xs)
    (ad : Option Addr) (m c : Nat) (hx : a.eval x = .slice ad m c) (hm : m = ys.length) (hnil : ad = none → c = 0) (hsrc : Src w ad ys) (hlen : xs.length + ys.length ≤ 140737488355328) (hbase : base ≤ w.heap.size)
    (h : ∀ v' w', OwnB w' base v' (xs ++ ys) → w.grownBy w' v.ownBlock → (v'.ownBlock = v.ownBlock ∨ v'.ownBlock = some w.heap.size) → wpList Try.prog ops Q rest (a.put o.dst v') w') : wpList Try.prog ops Q (o :: rest) a w := by
  subst hm
  obtain ⟨i0, hi, hz0, hz1, hz2⟩ := info_parts Try.info5
  cases ad with
  | none =>
    obtain rfl := hnil rfl
    have h0 : ys = [] := by
      rcases hsrc with h | ⟨b, o, hb, _⟩
      · exact h
      · cases hb
    subst h0
    refine wpList_append_own_none hgd s x 22 ho base 5 i0 1 Try.underlying22 hi v _ _ hs hown (by simpa using hx) ?_
    exact h v w (by simpa using hown) (World.grownBy.refl _ _) (.inl rfl)
  | some ad =>
    refine wpList_append_own_at w hgd s x 22 ho base 5 i0 (.int .u8 0) 1 1 Try.underlying22 hi hz0 hz1 hz2 rfl (by decide) v _ _ hs hown ad ys.length c (bsV ys) hx (by simp [bsV]) ?_ ?_ (by simp [maxLen]; omega) (by omega) hbase ?_
    · intro j u hj
      obtain ⟨hj', he⟩ := List.getElem?_eq_some_iff.1 hj
      have hjl : j < ys.length := by simpa [bsV] using hj'
      rcases hsrc with hh | ⟨b, o, hb, hc⟩
      · subst hh; simp at hjl
      · cases hb
        rw [Addr.add_lit, hc j hjl, ← he]
        simp [bsV, bV]
    · intro u hu
      simp only [bsV, List.mem_map] at hu
      obtain ⟨c, _, rfl⟩ := hu
      rfl
    · intro v' w' h1 h2 _ h4
      refine h v' w' ?_ h2 h4
      have e : bsV xs ++ bsV ys = bsV (xs ++ ys) := by simp [bsV]
      rw [e] at h1
      unfold OwnB
      rw [List.length_append]
      exact h1
theorem cell_drewN (w : World) (n : Nat) (a : Addr) : (w.drewN n).cell? a = w.cell? a := by simp
theorem Src.drewN {w : World} {a : Option Addr} {l : List UInt8} (h : Src w a l) (n : Nat) : Src (w.drewN n) a l := by
  rcases h with h | ⟨b, o, ha, hc⟩
  · exact .inl h
  · exact .inr ⟨b, o, ha, fun j hj => (cell_drewN _ _ _).trans (hc j hj)⟩
/-- 'string(b)'. -/
theorem conv_src {w : World} {a : Addr} {cap : Nat} {l : List UInt8} (h : Src w (some a) l) : (convert 22 9 (.slice (some a) l.length cap)).run Try.prog w = .ok (.string ⟨l.toArray⟩) w := by
  refine run_convert_bytes_back (P := Try.prog) w 22 9 5 a cap l Try.underlying22 Try.underlying5 Try.underlying9 ?_
  intro j hj
  rcases h with h | ⟨b, o, hb, hc⟩
  · subst h; simp at hj
  · cases hb; rw [Addr.add_lit]; exact hc j hj
/-- What 'paged' makes. -/
def pageN (pages : Int) : Nat := 64 * (max 1 (min 32 pages)).toNat
def pageAt (l : List UInt8) (i : Nat) : UInt8 := if l = [] then 0 else l.getD (i % l.length) 0
def pagedL (l : List UInt8) (pages : Int) : List UInt8 := (List.range (pageN pages)).map (pageAt l)


def upTo (l : List UInt8) (N k : Nat) : List UInt8 := (List.range N).map (fun i => if i < k then pageAt l i else 0)
theorem upTo_zero (l : List UInt8) (N : Nat) : upTo l N 0 = List.replicate N 0 := by
  simp [upTo, List.map_const']
theorem upTo_length (l : List UInt8) (N k : Nat) : (upTo l N k).length = N := by simp [upTo]
theorem upTo_succ (l : List UInt8) (N k : Nat) : (upTo l N k).set k (pageAt l k) = upTo l N (k + 1) := by
  apply List.ext_getElem?
  intro j
  simp only [upTo, List.getElem?_set, List.length_map, List.length_range, List.getElem?_map]
  by_cases hj : j < N
  · by_cases e : k = j
    · subst e; simp [hj]
    · rw [if_neg e]; simp [List.getElem?_range hj]
      by_cases h2 : j < k
      · rw [if_pos h2, if_pos (by omega)]
      · rw [if_neg h2, if_neg (by omega)]
  · rw [List.getElem?_eq_none (by simpa using hj)]
    by_cases e : k = j
    · subst e; simp [hj]
    · rw [if_neg e]; first | rfl | (have : (List.range N)[j]? = none := List.getElem?_eq_none (by simpa using hj)); rw [this]; rfl
theorem upTo_all (l : List UInt8) (pages : Int) : upTo l (pageN pages) (pageN pages) = pagedL l pages := by
  unfold upTo pagedL
  apply List.map_congr_left
  intro i hi
  rw [if_pos (by simpa using hi)]
theorem pagedL_nil (pages : Int) : pagedL [] pages = List.replicate (pageN pages) 0 := by
  rw [show pagedL [] pages = (List.range (pageN pages)).map (fun _ => 0) from rfl, List.map_const']; simp

set_option maxHeartbeats 400000 in
theorem paged_any (a : Option Addr) (cap : Nat) (l : List UInt8) (pages : Int) (w : World) (hs : Src w a l) (hl : l.length ≤ 3000) :
    Calls Try.prog 11 #[.slice a l.length cap, .int .i64 pages] w fun e w' => ∃ g, e = .returned (.slice (some ⟨g, 0, none⟩) (pageN pages) (pageN pages)) ∧ w.heap.size ≤ g ∧ Row w' g (pagedL l pages) (pageN pages) ∧ w.grownBy w' none := by
  have hmk := mk_bytes w (pageN pages) (64 * max 1 (min 32 pages)) (by unfold pageN; omega) (by unfold pageN; omega)
  have hN : pageN pages ≤ 2048 := by unfold pageN; omega
  have hN1 : 64 ≤ pageN pages := by unfold pageN; omega
  have hg0 := World.grownBy_alloc w (.cells (bsV (List.replicate (pageN pages) 0)).toArray 5) none
  have hr0 : Row (w.alloc (.cells (bsV (List.replicate (pageN pages) 0)).toArray 5)) w.heap.size (upTo l (pageN pages) 0) (pageN pages) := by
    have := Row.new w (List.replicate (pageN pages) 0) (by simp [maxLen]; omega)
    rw [upTo_zero]
    simpa using this
  by_cases h0 : l = []
  · subst h0
    have hr0 : Row (w.alloc (.cells (bsV (List.replicate (pageN pages) 0)).toArray 5)) w.heap.size (pagedL [] pages) (pageN pages) := by rw [upTo_zero] at hr0; rw [pagedL_nil]; exact hr0
    have hR := Lib.hid hr0
    have hG := Lib.hid hg0
    clear hr0 hg0
    go_enter Try.func11, Try.ntmps11
    go_wp2
    refine wp_loop_rounds 1 ?_; rw [rounds_succ]
    go_wp2
    · go_ret
      exact ⟨_, rfl, Nat.le_refl _, hR.out, hG.out⟩
  · have hpos : 0 < l.length := List.length_pos_iff.2 h0
    obtain ⟨b, o, rfl, hc⟩ : ∃ b o, a = some ⟨b, o, none⟩ ∧ ∀ j (h : j < l.length), w.cell? ⟨b, o + j, none⟩ = some (.int .u8 (l[j].toNat : Int)) := hs.resolve_left h0
    have hbl : b < w.heap.size := World.block_lt_of_cell? w _ (hc 0 hpos)
    have HR := hr0
    have hR := Lib.hid hr0
    have hG := Lib.hid hg0
    clear hr0 hg0 HR
    go_enter Try.func11, Try.ntmps11
    go_wp2
    go_loopw [6] (fun i wr => ∃ k : Nat, k ≤ pageN pages ∧ i = .int .i64 k ∧ Row wr w.heap.size (upTo l (pageN pages) k) (pageN pages) ∧ w.grownBy wr none) (fun i _ => pageN pages - (intOf i).toNat)
    case atStart => exact ⟨0, Nat.zero_le _, rfl, hR.out, hG.out⟩
    case round =>
      obtain ⟨k, hk, rfl, hrow, hg⟩ := hrel
      by_cases hlt : k < pageN pages
      · have hm : k % l.length < l.length := Nat.mod_lt _ hpos
        obtain ⟨c, hcv⟩ : ∃ c : UInt8, c = pageAt l k := ⟨_, rfl⟩
        have hcell : wr.cell? ⟨b, o + k % l.length, none⟩ = some (.int .u8 (c.toNat : Int)) := by
          have := hg.cell (hc _ hm) (by simp)
          rw [hcv, pageAt, if_neg h0, List.getD_eq_getElem?_getD, List.getElem?_eq_getElem hm, Option.getD_some]; exact this
        have hcv := Lib.hid hcv
        have hcell2 := hrow.cell k (by rw [upTo_length]; exact hlt)
        have hfz := hrow.frozen k
        go_wp2
        go_roundw
        case rel =>
          refine ⟨k + 1, by omega, by go_num, ?_, ?_⟩
          · rw [← upTo_succ, ← hcv.out]; exact hrow.set k c
          · exact grown_new hg (grown_setCell _ _ _ _) (Nat.le_refl _)
        case measure => simp [intOf]; omega
      · obtain rfl : k = pageN pages := by omega
        go_wp2
        go_ret
        exact ⟨_, rfl, Nat.le_refl _, by rw [← upTo_all]; exact hrow, hg⟩
end Go.Proofs.Ytfldcclnfagmpaa
