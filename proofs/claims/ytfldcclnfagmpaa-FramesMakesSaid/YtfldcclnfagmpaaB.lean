import Derived.Test.YtfldcclnfagmpaaA
namespace Go.Proofs.Ytfldcclnfagmpaa
open Go.RowKit

theorem Try.size5 : (Try.prog.info? 5).map (·.size) = some 1 := by kernel_rfl
theorem setRow_at {w : World} {g : Nat} {cur cs : Array Value} {t : TypeId} (h : w.heap[g]? = some (.cells cur t (0, 0))) : (w.setRow g cs).heap[g]? = some (.cells cs t (0, 0)) := by
  simp [World.setRow, Array.getElem?_modify, h]
theorem grown_setRow (w : World) (g : Nat) (cs : Array Value) : w.grownBy (w.setRow g cs) (some g) :=
  ⟨rfl, rfl, rfl, by simp [World.setRow], fun k _ hk => setRow_other w g k cs (fun e => hk (by rw [e]))⟩

theorem splice_take {α : Type} (C L cs : List α) (k : Nat) (h : k + cs.length ≤ L.length) (hC : C.take L.length = L) : (C.take k ++ cs ++ C.drop (k + cs.length)).take L.length = L.take k ++ cs ++ L.drop (k + cs.length) := by
  obtain ⟨D, rfl⟩ : ∃ D, C = L ++ D := ⟨C.drop L.length, by conv => lhs; rw [← List.take_append_drop L.length C, hC]⟩
  rw [List.take_append_of_le_length (by omega : k ≤ L.length), List.drop_append_of_le_length h, ← List.append_assoc]
  have e : L.length = (L.take k ++ cs ++ L.drop (k + cs.length)).length := by simp; omega
  rw [List.take_append_of_le_length (by omega), List.take_of_length_le (by omega)]
/-- copy into a row, at 'at': the row's bytes there are the source's. -/
theorem copy_row {w : World} {g cap : Nat} {l0 l : List UInt8} {a : Addr} (at_ dLen dCap c : Nat) (hr : Row w g l0 cap) (hs : Src w (some a) l) (hfit : at_ + l.length ≤ l0.length) (hd : dLen = l.length) :
    ∃ w', (∀ ty : TypeId, (Builtin.copy_ #[22, 22] ty #[.slice (some ⟨g, at_, none⟩) dLen dCap, .slice (some a) l.length c]).run Try.prog w = .ok (.int .i64 l.length) w') ∧ Row w' g (l0.take at_ ++ l ++ l0.drop (at_ + l.length)) cap ∧ w.grownBy w' (some g) := by
  subst hd
  have hrow := hr
  obtain ⟨h1, h2, cur, h3, h4, h5⟩ := hr
  have hcells : ∀ j v, (bsV l)[j]? = some v → w.cell? (a.add j) = some v := by
    intro j v hj
    obtain ⟨hj', he⟩ := List.getElem?_eq_some_iff.1 hj
    have hjl : j < l.length := by simpa [bsV] using hj'
    rcases hs with hh | ⟨b, o, hb, hc⟩
    · subst hh; simp at hjl
    · cases hb
      rw [Addr.add_lit, hc j hjl, ← he]
      simp [bsV, bV]
  have hone : ∀ v ∈ bsV l, v.oneCell' = true := by
    intro u hu
    simp only [bsV, List.mem_map] at hu
    obtain ⟨c, _, rfl⟩ := hu
    rfl
  have hrun := fun ty => run_copy_row (P := Try.prog) w 22 22 ty 5 g at_ l.length dCap a l.length c cur 5 (bsV l) Try.underlying22 Try.size5 h3 (by simp [bsV]) hcells (by simp [bsV]; omega) hone
  refine ⟨_, fun ty => by rw [hrun ty, bsV_length]; rfl, ⟨by simp; omega, h2, _, setRow_at h3, by simp [bsV]; omega, ?_⟩, grown_setRow _ _ _⟩
  · have e2 : bsV (l0.take at_ ++ l ++ l0.drop (at_ + l.length)) = (bsV l0).take at_ ++ bsV l ++ (bsV l0).drop (at_ + l.length) := by simp [bsV, List.map_append, List.map_take, List.map_drop]
    have e3 := splice_take cur.toList (bsV l0) (bsV l) at_ (by simp [bsV]; omega) (by rw [bsV_length]; exact h5)
    rw [bsV_length, bsV_length] at e3
    rw [e2, ← e3, show (l0.take at_ ++ l ++ l0.drop (at_ + l.length)).length = l0.length by simp; omega]
theorem of_good (b o n cap : Nat) (l : List UInt8) (hn : n = l.length) (w : World) (hs : Src w (some ⟨b, o, none⟩) l) (h1 : 64 ≤ l.length) (h2 : l.length ≤ 2048) (h3 : l.length % 64 = 0) :
    Calls Try.prog 12 #[.slice (some ⟨b, o, none⟩) n cap] w fun e w' => ∃ B g, e = .returned (.tuple #[.pointer (some ⟨B, 0, none⟩), .int .i64 0]) ∧ w.heap.size ≤ B ∧ w.heap.size ≤ g ∧ Fr w' B g l ∧ w.grownBy w' none := by
  subst hn
  have q : (((l.length : Int) % 64) != 0) = false := by simp; omega
  go_enter Try.func12, Try.ntmps12
  go_wp2_with fail
  refine (new_good _ _ (by omega) (by omega)).mono ?_; rintro e w1 ⟨B, g, rfl, hB, hg, hF, hg1⟩
  have hlen : ((l.length : Int) / 64).toNat * 64 = l.length := by omega
  rw [hlen] at hF
  obtain ⟨capF, hb, hr⟩ := hF
  rw [List.length_replicate] at hb
  have hc1 := cell_of_one hb
  obtain ⟨w2, hcp, hr2, hg2⟩ := copy_row 0 l.length capF cap hr (hs.keptNone hg1) (by simp) rfl
  clear hlen
  go_wp2
  go_ret2
  have e : List.take 0 (List.replicate l.length (0 : UInt8)) ++ l ++ List.drop (0 + l.length) (List.replicate l.length 0) = l := by simp
  rw [e] at hr2
  have hne : B ≠ g := fun e => by
    obtain ⟨_, _, cur, h3, _⟩ := hr
    subst e; rw [hb] at h3; simp at h3
  exact ⟨B, g, rfl, hB, hg, ⟨capF, (hg2.block B (lt_of_block hb) (by simpa using hne)).trans hb, hr2⟩, grown_new hg1 hg2 hg⟩
end Go.Proofs.Ytfldcclnfagmpaa
