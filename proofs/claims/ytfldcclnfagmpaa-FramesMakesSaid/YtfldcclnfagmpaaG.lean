import Derived.Test.YtfldcclnfagmpaaF
namespace Go.Proofs.Ytfldcclnfagmpaa
open Go.RowKit

theorem ref_refused (a : Option Addr) (n cap addr : Nat) (width : Int) (w : World) (_hn : n ≤ 2048) (ha : addr < 4294967296) (_hw : (Lit.int .i64 width).wf = true) :
    Calls Try.prog 14 #[.slice a n cap, .int .u32 addr, .int .i64 width] w fun e w' => e = .returned (.int .i64 (refusedS n addr width)) ∧ w = w' := by
  unfold refusedS
  by_cases h1 : width ≠ 1 ∧ width ≠ 4
  · rw [if_pos h1]
    have k1 : (width != 1) = true := by simpa using h1.1
    have k4 : (width != 4) = true := by simpa using h1.2
    go_enter Try.func14, Try.ntmps14
    go_wp2
    go_ret
    exact ⟨rfl, rfl⟩
  · rw [if_neg h1]
    have h3 : width = 1 ∨ width = 4 := by omega
    clear h1
    rcases h3 with rfl | rfl
    · rw [if_neg (by omega)]
      by_cases h4 : n ≤ addr
      · rw [if_pos h4]
        have k : decide (n ≤ addr) = true := by simpa using h4
        go_enter Try.func14, Try.ntmps14
        go_wp2
        go_ret
        exact ⟨rfl, rfl⟩
      · rw [if_neg h4]
        have k : decide (n ≤ addr) = false := by simpa using h4
        go_enter Try.func14, Try.ntmps14
        go_wp2
        go_ret
        exact ⟨rfl, rfl⟩
    · by_cases h2 : (addr : Int) % 4 ≠ 0
      · rw [if_pos h2]
        have k : ((addr : Int) % 4 != 0) = true := by simpa using h2
        clear h2
        go_enter Try.func14, Try.ntmps14
        go_wp2
        go_ret
        exact ⟨rfl, rfl⟩
      · rw [if_neg h2]
        have k : ((addr : Int) % 4 != 0) = false := by simpa using h2
        clear h2
        by_cases h4 : n ≤ addr
        · rw [if_pos h4]
          have k : decide (n ≤ addr) = true := by simpa using h4
          go_enter Try.func14, Try.ntmps14
          go_wp2
          go_ret
          exact ⟨rfl, rfl⟩
        · rw [if_neg h4]
          have k : decide (n ≤ addr) = false := by simpa using h4
          go_enter Try.func14, Try.ntmps14
          go_wp2
          go_ret
          exact ⟨rfl, rfl⟩

theorem leVal_drop (bs : List UInt8) (k : Nat) (h : k < bs.length) : leVal (bs.drop k) = bs[k].toNat + 256 * leVal (bs.drop (k + 1)) := by
  rw [List.drop_eq_getElem_cons h]; rfl
theorem leVal_lt4 (bs : List UInt8) (h : bs.length ≤ 4) : leVal bs < 4294967296 := by
  have h1 := leVal_lt bs
  have h2 : 256 ^ bs.length ≤ 256 ^ 4 := Nat.pow_le_pow_right (by decide) h
  have h3 : (256 : Nat) ^ 4 = 4294967296 := rfl
  omega

set_option maxHeartbeats 1000000 in
theorem ref_read (b o n cap addr width : Nat) (l : List UInt8) (w : World) (hs : Src w (some ⟨b, o, none⟩) l) (hn : n = l.length) (hl : l.length ≤ 2048) (hfit : addr + width ≤ l.length) (hw : width ≤ 4) (hw1 : 1 ≤ width) :
    Calls Try.prog 16 #[.slice (some ⟨b, o, none⟩) n cap, .int .u32 addr, .int .i64 width] w fun e w' => e = .returned (.int .u32 (leVal ((l.drop addr).take width))) ∧ w = w' := by
  subst hn
  have hne : l ≠ [] := fun e => by subst e; simp at hfit; omega
  obtain ⟨b', o', hbo, hc⟩ := hs.resolve_left hne
  cases hbo
  obtain ⟨bs, hbs⟩ : ∃ bs, bs = (l.drop addr).take width := ⟨_, rfl⟩
  have hlen : bs.length = width := by rw [hbs]; simp; omega
  have hget : ∀ k (h : k < width), l[addr + k]'(by omega) = bs[k]'(by omega) := by
    intro k h
    subst hbs
    simp
  rw [← hbs]
  have hbs := Lib.hid hbs
  rename_i h0; clear h0
  go_enter Try.func16, Try.ntmps16
  go_wp2
  go_loop [7, 8] (fun v i => ∃ k : Nat, k ≤ width ∧ i = .int .i64 ((k : Int) - 1) ∧ v = .int .u32 (leVal (bs.drop k))) (fun _ i => (intOf i + 1).toNat)
  case atStart => exact ⟨width, Nat.le_refl _, rfl, by rw [List.drop_eq_nil_of_le (by omega)]; rfl⟩
  case round =>
    obtain ⟨k, hk, rfl, rfl⟩ := hrel
    cases k with
    | zero =>
      go_wp2
      go_ret
      exact ⟨rfl, rfl⟩
    | succ k =>
      have hcell : w.cell? ⟨b, o + (addr + k), none⟩ = some (.int .u8 ((bs[k]'(by omega)).toNat : Int)) := by rw [hc (addr + k) (by omega), hget k (by omega)]
      have e1 : ((k + 1 : Nat) : Int) - 1 = k := by omega
      rw [e1]
      have hlt := leVal_lt4 (bs.drop (k + 1)) (by simp; omega)
      have hd := leVal_drop bs k (by omega)
      have hlt0 := leVal_lt4 (bs.drop k) (by simp; omega)
      obtain ⟨c, hcc⟩ : ∃ c : UInt8, c = bs[k]'(by omega) := ⟨_, rfl⟩
      rw [← hcc] at hcell hd
      have hc256 := c.toNat_lt
      have HD := Lib.hid hd
      clear hd hcc e1
      go_wp2
      refine ⟨⟨k, by omega, rfl, ?_⟩, by simp [intOf]⟩
      have h := HD.out
      have e : ((leVal (bs.drop (k + 1)) : Nat) : Int) * 256 % 4294967296 + c.toNat = (leVal (bs.drop k) : Nat) := by omega
      rw [e]

theorem byteN_zero (v : Nat) : ((byteN v 0).toNat : Int) = (v : Int) % 256 := by simp [byteN]
theorem div_pow_succ (v k : Nat) : v / 256 ^ (k + 1) = v / 256 ^ k / 256 := by rw [Nat.pow_succ, Nat.div_div_eq_div_mul]

set_option maxHeartbeats 1000000 in
theorem ref_write (b o n cap addr width v : Nat) (l : List UInt8) (w : World) (hs : Src w (some ⟨b, o, none⟩) l) (hn : n = l.length) (hl : l.length ≤ 2048) (hfit : addr + width ≤ l.length) (hw : width ≤ 4) (hw1 : 1 ≤ width) (hv : v < 4294967296) :
    Calls Try.prog 19 #[.slice (some ⟨b, o, none⟩) n cap, .int .u32 addr, .int .i64 width, .int .u32 v] w fun e w' => ∃ g c, e = .returned (.slice (some ⟨g, 0, none⟩) l.length c) ∧ w.heap.size ≤ g ∧ Row w' g (wrL l addr width v) c ∧ w.grownBy w' none := by
  subst hn
  have hne : l ≠ [] := fun e => by subst e; simp at hfit; omega
  have hs1 : Src (w.alloc (.cells #[] 5)) (some ⟨b, o, none⟩) l := hs.keptNone (World.grownBy_alloc _ _ _)
  have ho1 := OwnB.empty w w.heap.size (Nat.le_refl _)
  go_enter Try.func19, Try.ntmps19
  go_wp2_with (at_builtin; refine wpList_bapp rfl _ _ rfl w.heap.size _ [] l rfl ho1 _ _ _ rfl rfl (by simp) hs1 (by simp; omega) (by simp) ?_)
  intro v' w' h1 h2 h3
  obtain ⟨g, c, rfl, hg, hr⟩ := h1.row hne
  have hg2 : w.grownBy w' none := grown_new (World.grownBy_alloc _ _ _) h2 (Nat.le_refl _)
  clear h1 h2 h3 hs1 ho1
  go_wp2
  go_loopw [3, 10] (fun x i wr => ∃ k : Nat, k ≤ width ∧ i = .int .i64 k ∧ x = .int .u32 ((v / 256 ^ k : Nat) : Int) ∧ Row wr g (wrL l addr k v) c ∧ w.grownBy wr none) (fun _ i _ => width - (intOf i).toNat)
  case atStart => exact ⟨0, Nat.zero_le _, rfl, by simp, hr, hg2⟩
  case round =>
    obtain ⟨k, hk, rfl, rfl, hrow, hgr⟩ := hrel
    by_cases hlt : k < width
    · have hcell := hrow.cell (addr + k) (by rw [wrL_length]; omega)
      have hfz := hrow.frozen (addr + k)
      have hvk : v / 256 ^ k ≤ v := Nat.div_le_self _ _
      obtain ⟨x, hx⟩ : ∃ x, x = v / 256 ^ k := ⟨_, rfl⟩
      rw [← hx] at hvk ⊢
      have HX := Lib.hid hx
      clear hx
      go_wp2
      go_roundw
      case rel =>
        refine ⟨k + 1, by omega, by go_num, ?_, ?_, grown_new hgr (grown_setCell _ _ _ _) hg⟩
        · rw [div_pow_succ, ← HX.out]; go_num
        · have := hrow.set (addr + k) (byteN v k)
          have e : ((byteN v k).toNat : Int) = (x : Int) % 256 := by rw [HX.out]; simp [byteN]
          rw [e] at this
          exact this
      case measure => simp [intOf]; omega
    · obtain rfl : k = width := by omega
      go_wp2
      go_ret
      exact ⟨g, c, rfl, hg, hrow, hgr⟩
end Go.Proofs.Ytfldcclnfagmpaa
