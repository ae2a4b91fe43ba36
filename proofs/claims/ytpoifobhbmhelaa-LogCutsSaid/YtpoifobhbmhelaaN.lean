/- Records that are the same: ref.SameRecord, log.Same's closure. -/
import Derived.Test.YtpoifobhbmhelaaM
import Derived.Lib.Index
import Derived.Laws.StructEq
set_option linter.unusedVariables false
set_option linter.unusedSimpArgs false
namespace Go.Proofs.Ytpoifobhbmhelaa
open Go.RowKit
theorem ext_bytes (l m : List UInt8) : ((⟨l.toArray⟩ : ByteArray) == ⟨m.toArray⟩) = decide (l = m) := by
  rw [beq_toListBytes, Go.Lib.toList_data, Go.Lib.toList_data]
  by_cases h : l = m <;> simp [h]
set_option maxHeartbeats 4000000 in
theorem sameRec0 (a1 k1 n1 : Int) (b1 : List UInt8) (x1 : Option Addr) (c1 : Nat) (a2 k2 n2 : Int) (b2 : List UInt8) (x2 : Option Addr) (c2 : Nat) (w : World) (hs : Go.Proofs.Ytpoifobhbmhelaa.Src w x1 b1) (ht : Go.Proofs.Ytpoifobhbmhelaa.Src w x2 b2) : Calls Try.prog 22 #[rV a1 k1 n1 x1 b1.length c1, rV a2 k2 n2 x2 b2.length c2] w fun e w' => e = .returned (.bool (decide (a1 = a2 ∧ k1 = k2 ∧ n1 = n2 ∧ b1 = b2))) ∧ w.grownBy w' none := by
  have HG := Lib.hid ((World.grownBy_alloc w (.cells #[.int .i64 a1, .int .i64 k1, .int .i64 n1, .slice x1 b1.length c1] 25) none).trans (World.grownBy_alloc _ (.cells #[.int .i64 a2, .int .i64 k2, .int .i64 n2, .slice x2 b2.length c2] 25) none))
  have q1 := conv_src (c := c1) (hs.keptNone HG.out)
  have q2 := conv_src (c := c2) (ht.keptNone HG.out)
  clear hs ht
  by_cases h1 : a1 = a2
  · have e1 : (a1 == a2) = true := by simpa using h1
    by_cases h2 : k1 = k2
    · have e2 : (k1 == k2) = true := by simpa using h2
      by_cases h3 : n1 = n2
      · have e3 : (n1 == n2) = true := by simpa using h3
        have HR := Lib.hid (show decide (a1 = a2 ∧ k1 = k2 ∧ n1 = n2 ∧ b1 = b2) = (b1 == b2) from by simp only [h1, h2, h3, true_and]; by_cases hb : b1 = b2 <;> simp [hb])
        have e4 := ext_bytes b1 b2
        rw [HR.out]
        clear HR h1 h2 h3
        go_enter Try.func22, Try.ntmps22
        go_wp2
        go_ret
        exact ⟨rfl, HG.out⟩
      · have e3 : (n1 == n2) = false := by simpa using h3
        have HR := Lib.hid (show decide (a1 = a2 ∧ k1 = k2 ∧ n1 = n2 ∧ b1 = b2) = false from by simp [h3])
        rw [HR.out]
        clear HR h1 h2 h3
        go_enter Try.func22, Try.ntmps22
        go_wp2
        go_ret
        exact ⟨rfl, HG.out⟩
    · have e2 : (k1 == k2) = false := by simpa using h2
      have HR := Lib.hid (show decide (a1 = a2 ∧ k1 = k2 ∧ n1 = n2 ∧ b1 = b2) = false from by simp [h2])
      rw [HR.out]
      clear HR h1 h2
      go_enter Try.func22, Try.ntmps22
      go_wp2
      go_ret
      exact ⟨rfl, HG.out⟩
  · have e1 : (a1 == a2) = false := by simpa using h1
    have HR := Lib.hid (show decide (a1 = a2 ∧ k1 = k2 ∧ n1 = n2 ∧ b1 = b2) = false from by simp [h1])
    rw [HR.out]
    clear HR h1
    go_enter Try.func22, Try.ntmps22
    go_wp2
    go_ret
    exact ⟨rfl, HG.out⟩
theorem sameRec_any (s t : Rv) (w : World) (hs : Go.Proofs.Ytpoifobhbmhelaa.Src w s.x s.b) (ht : Go.Proofs.Ytpoifobhbmhelaa.Src w t.x t.b) : Calls Try.prog 22 #[s.val, t.val] w fun e w' => e = .returned (.bool (decide (s.r = t.r))) ∧ w.grownBy w' none :=
  (sameRec0 _ _ _ _ _ _ _ _ _ _ _ _ w hs ht).mono (fun e w' h => ⟨by rw [h.1]; simp [Rv.r], h.2⟩)
set_option maxHeartbeats 4000000 in
theorem like0 (a1 k1 n1 : Int) (b1 : List UInt8) (x1 : Option Addr) (c1 : Nat) (a2 k2 n2 : Int) (b2 : List UInt8) (x2 : Option Addr) (c2 : Nat) (w : World) (hs : Go.Proofs.Ytpoifobhbmhelaa.Src w x1 b1) (ht : Go.Proofs.Ytpoifobhbmhelaa.Src w x2 b2) : Calls Try.prog 41 #[rV a1 k1 n1 x1 b1.length c1, rV a2 k2 n2 x2 b2.length c2] w fun e w' => e = .returned (.bool (decide (a1 = a2 ∧ k1 = k2 ∧ n1 = n2 ∧ b1 = b2))) ∧ w.grownBy w' none := by
  have HG := Lib.hid ((World.grownBy_alloc w (.cells #[.int .i64 a1, .int .i64 k1, .int .i64 n1, .slice x1 b1.length c1] 25) none).trans (World.grownBy_alloc _ (.cells #[.int .i64 a2, .int .i64 k2, .int .i64 n2, .slice x2 b2.length c2] 25) none))
  have C := equal_any x1 x2 b1.length b2.length c1 c2 b1 b2 _ rfl rfl (hs.keptNone HG.out) (ht.keptNone HG.out)
  clear hs ht
  by_cases h1 : a1 = a2
  · have e1 : (a1 == a2) = true := by simpa using h1
    by_cases h2 : k1 = k2
    · have e2 : (k1 == k2) = true := by simpa using h2
      by_cases h3 : n1 = n2
      · have e3 : (n1 == n2) = true := by simpa using h3
        have HR := Lib.hid (show decide (a1 = a2 ∧ k1 = k2 ∧ n1 = n2 ∧ b1 = b2) = decide (b1 = b2) from by simp [h1, h2, h3])
        have e4 := ext_bytes b1 b2
        rw [HR.out]
        clear HR h1 h2 h3
        go_enter Try.func41, Try.ntmps41
        go_wp2_with fail
        refine C.mono ?_; rintro e w' ⟨rfl, rfl⟩
        go_wp2
        go_ret
        exact ⟨rfl, HG.out⟩
      · have e3 : (n1 == n2) = false := by simpa using h3
        have HR := Lib.hid (show decide (a1 = a2 ∧ k1 = k2 ∧ n1 = n2 ∧ b1 = b2) = false from by simp [h3])
        rw [HR.out]
        clear HR h1 h2 h3 C
        go_enter Try.func41, Try.ntmps41
        go_wp2
        go_ret
        exact ⟨rfl, HG.out⟩
    · have e2 : (k1 == k2) = false := by simpa using h2
      have HR := Lib.hid (show decide (a1 = a2 ∧ k1 = k2 ∧ n1 = n2 ∧ b1 = b2) = false from by simp [h2])
      rw [HR.out]
      clear HR h1 h2 C
      go_enter Try.func41, Try.ntmps41
      go_wp2
      go_ret
      exact ⟨rfl, HG.out⟩
  · have e1 : (a1 == a2) = false := by simpa using h1
    have HR := Lib.hid (show decide (a1 = a2 ∧ k1 = k2 ∧ n1 = n2 ∧ b1 = b2) = false from by simp [h1])
    rw [HR.out]
    clear HR h1 C
    go_enter Try.func41, Try.ntmps41
    go_wp2
    go_ret
    exact ⟨rfl, HG.out⟩
theorem like_any (s t : Rv) (w : World) (hs : Go.Proofs.Ytpoifobhbmhelaa.Src w s.x s.b) (ht : Go.Proofs.Ytpoifobhbmhelaa.Src w t.x t.b) : Calls Try.prog 41 #[s.val, t.val] w fun e w' => e = .returned (.bool (decide (s.r = t.r))) ∧ w.grownBy w' none :=
  (like0 _ _ _ _ _ _ _ _ _ _ _ _ w hs ht).mono (fun e w' h => ⟨by rw [h.1]; simp [Rv.r], h.2⟩)
end Go.Proofs.Ytpoifobhbmhelaa
