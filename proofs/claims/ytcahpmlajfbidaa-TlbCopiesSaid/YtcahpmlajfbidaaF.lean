import Derived.Test.YtcahpmlajfbidaaE
namespace Go.Proofs.Ytcahpmlajfbidaa
open Go.RowKit Go.Shelf
attribute [local go_sem] Oper.semAt_some
theorem walked_nil (w : World) : Calls Try.prog 22 #[.pointer none] w fun e w' => ∃ g, e = .returned (.func (.func 30) #[] #[.pointer (some ⟨g, 0, none⟩)]) ∧ w.heap.size ≤ g ∧ w'.heap[g]? = some (.cells Tl.no.cells 62 (0, 0)) ∧ w.grownBy w' none := by
  have HN := Lib.hid (heap_alloc_new w (.cells Tl.no.cells 62))
  go_enter Try.func22, Try.ntmps22
  go_wp2_with fail
  refine (none_nil _).mono ?_; rintro e w' ⟨rfl, rfl⟩
  go_wp2
  go_ret
  exact ⟨_, rfl, Nat.le_refl _, HN.out, World.grownBy_alloc _ _ _⟩
theorem walked_tb (B : Nat) (T : Tl) (w : World) (h : Tb w B T) : Calls Try.prog 22 #[.pointer (some ⟨B, 0, none⟩)] w fun e w' => ∃ g, e = .returned (.func (.func 30) #[] #[.pointer (some ⟨g, 0, none⟩)]) ∧ w.heap.size ≤ g ∧ w'.heap[g]? = some (.cells T.cells 62 (0, 0)) ∧ w.grownBy w' none := by
  have HN := Lib.hid (heap_alloc_new w (.cells zeros 62))
  have HG0 := Lib.hid (World.grownBy_alloc w (.cells zeros 62) none)
  have H := Lib.hid (h.keptNone (World.grownBy_alloc w (.cells zeros 62) none))
  clear h
  go_enter Try.func22, Try.ntmps22
  go_wp2_with fail
  refine (none_tb B T _ H.out).mono ?_; rintro e w' ⟨rfl, rfl⟩
  go_wp2_with (with_reducible refine hold_ld 62 _ rfl ?_)
  apply Lib.hid
  with_reducible refine wpList_load_blk rfl 62 _ rfl _ ?o401 ?hx401 _ _ _ H.out.blk _ 17 ?hn401 Try.underlying62 rfl Try.size62 ?_
  case hx401 => exact rfl
  case hn401 => exact rfl
  go_wp2_with (with_reducible refine hold_st 62 _ _ rfl ?_)
  apply Lib.hid
  with_reducible refine wpList_store_all rfl 62 _ _ rfl _ ?cs402 ?hx402 ?hy402 _ _ HN.out ?hf402 _ ?hl402 Try.size62 ?h1402 ?_
  case hy402 => exact rfl
  case hx402 => exact rfl
  case hf402 => exact rfl
  case hl402 => exact rfl
  case h1402 => simp [allOne, Value.oneCell']
  intro w2 hb2 hg2
  have HB := Lib.hid hb2
  have HG := Lib.hid hg2
  clear hb2 hg2
  go_wp2
  go_ret
  exact ⟨_, rfl, Nat.le_refl _, HB.out, grown_new HG0.out HG.out (Nat.le_refl _)⟩
/-- A pointer to a TLB, or none. -/
def Pt (w : World) (p : Option Addr) (T : Tl) : Prop := (p = none ∧ T = .no) ∨ ∃ B, p = some ⟨B, 0, none⟩ ∧ Tb w B T
theorem Pt.keptNone {w w' : World} {p : Option Addr} {T : Tl} (h : Pt w p T) (hg : w.grownBy w' none) : Pt w' p T := by
  rcases h with h | ⟨B, h1, h2⟩
  · exact .inl h
  · exact .inr ⟨B, h1, h2.keptNone hg⟩
theorem walked_any (p : Option Addr) (T : Tl) (w : World) (h : Pt w p T) : Calls Try.prog 22 #[.pointer p] w fun e w' => ∃ g, e = .returned (.func (.func 30) #[] #[.pointer (some ⟨g, 0, none⟩)]) ∧ w.heap.size ≤ g ∧ w'.heap[g]? = some (.cells T.cells 62 (0, 0)) ∧ w.grownBy w' none := by
  rcases h with ⟨rfl, rfl⟩ | ⟨B, rfl, h⟩
  · exact walked_nil w
  · exact walked_tb B T w h
theorem walked_stops (F : Fence) (n : Nat) (h30 : F.fn 30) (hro : F.round = none) (hn : 1 ≤ n) (g n₀ : Nat) (T : Tl) (w : World) (hg : w.heap[g]? = some (.cells T.cells 62 (0, 0))) :
    SeqStopsK F n Try.prog 30 #[.pointer (some ⟨g, 0, none⟩)] (fun x : Nat × Ent => #[.int .i64 (x.1 : Int), x.2.val]) (Below n₀) (fun ys => ys = T.seq 4) (fun pre => ∃ k, k ≤ 4 ∧ pre = T.seq k) 4 w :=
  fun l J Jx W hW hJ _ hY h0 => walked1_in F n h30 hro hn l g n₀ T W.heap.size J Jx hJ (fun pre x W h1 h2 _ _ => hY pre x W h1 h2) W ((hW.block _ (lt_of_block hg)).trans hg) h0
/-- The entries that may be walked. -/
abbrev Tl.Item (T : Tl) : Type := { x : Nat × Ent // x ∈ T.four ∧ x.2.th = true }
theorem walked_items (F : Fence) (n : Nat) (h30 : F.fn 30) (hro : F.round = none) (hn : 1 ≤ n) (g n₀ : Nat) (T : Tl) (w : World) (hg : w.heap[g]? = some (.cells T.cells 62 (0, 0))) :
    SeqStopsK F n Try.prog 30 #[.pointer (some ⟨g, 0, none⟩)] (fun x : T.Item => #[.int .i64 (x.1.1 : Int), x.1.2.val]) (Below n₀) (fun ys => ys.map (·.1) = T.seq 4) (fun pre => ∃ k, k ≤ 4 ∧ pre.map (·.1) = T.seq k) 4 w := by
  intro l J Jx W hW hJ hJx hY h0
  have h := walked1_in F n h30 hro hn l g n₀ T W.heap.size (fun pre W => ∃ p : List T.Item, p.map (·.1) = pre ∧ J p W) (fun pre W => ∃ p : List T.Item, p.map (·.1) = pre ∧ Jx p W)
    (fun s A B row hs hg hr => by obtain ⟨p, e, k⟩ := hs; exact ⟨p, e, hJ p A B row k hg hr⟩)
    (fun pre x W1 hs hl hm ht => by
      obtain ⟨p, rfl, k⟩ := hs
      have hy := hY p ⟨x, hm, ht⟩ W1 k (by simpa using hl)
      obtain ⟨fn, tmps, assign, body, h1, h2⟩ := hy
      refine ⟨fn, tmps, assign, body, h1, h2.mono ?_⟩
      rintro e W2 (⟨e1, e2, e3⟩ | ⟨e1, e2⟩)
      · exact .inl ⟨e1, ⟨_, by simp, e2⟩, e3⟩
      · exact .inr ⟨e1, ⟨_, by simp, e2⟩⟩)
    W ((hW.block _ (lt_of_block hg)).trans hg) ⟨[], rfl, h0⟩
  refine h.mono ?_
  rintro e W2 ⟨hv, ⟨ys, e1, p, e2, e3⟩ | ⟨pre, ⟨k, hk, e1⟩, p, e2, e3⟩⟩
  · exact ⟨hv, .inl ⟨p, e2.trans e1, e3⟩⟩
  · exact ⟨hv, .inr ⟨p, ⟨k, hk, e2.trans e1⟩, e3⟩⟩
def findL (p : Int) (l : List (Nat × Ent)) : Int := match l.find? (fun x => x.2.page == p) with | some x => x.1 | none => -1
def firstHit (p : Int) : List (Nat × Ent) → Int
  | [] => -1
  | x :: r => if x.2.hit p then x.1 else firstHit p r
theorem findL_filter (p : Int) : ∀ A : List (Nat × Ent), findL p (A.filter (·.2.th)) = firstHit p A
  | [] => rfl
  | x :: r => by
    have ih := findL_filter p r
    unfold findL at ih ⊢
    rw [firstHit, ← ih]
    cases ht : x.2.th
    · simp [ht, Ent.hit]
    · cases hp : (x.2.page == p) <;> simp [List.filter, ht, hp, Ent.hit]
theorem find_eq (T : Tl) (p : Int) : T.find p = findL p (T.seq 4) := by
  unfold Tl.seq
  rw [findL_filter]
  rfl
theorem seq_prefix (T : Tl) (k : Nat) : T.seq k <+: T.seq 4 := by
  unfold Tl.seq
  have : ([(0, T.a), (1, T.b), (2, T.c), (3, T.d)] : List (Nat × Ent)).take k <+: ([(0, T.a), (1, T.b), (2, T.c), (3, T.d)] : List (Nat × Ent)).take 4 := by simpa using List.take_prefix k ([(0, T.a), (1, T.b), (2, T.c), (3, T.d)] : List (Nat × Ent))
  exact this.filter _
theorem find_none (T : Tl) (p : Int) (h : ∀ x ∈ T.seq 4, x.2.page ≠ p) : T.find p = -1 := by
  rw [find_eq, findL, List.find?_eq_none.2 (fun x hx => by simpa using h x hx)]
theorem find_some (T : Tl) (p : Int) {k : Nat} {ini : List (Nat × Ent)} {x : Nat × Ent} (e : T.seq k = ini ++ [x]) (h : ∀ x ∈ ini, x.2.page ≠ p) (hx : x.2.page = p) : T.find p = x.1 := by
  obtain ⟨r, hr⟩ := seq_prefix T k
  rw [find_eq, findL, ← hr, e, List.append_assoc, List.find?_append, List.find?_eq_none.2 (fun x hx => by simpa using h x hx)]
  simp [hx]
end Go.Proofs.Ytcahpmlajfbidaa
