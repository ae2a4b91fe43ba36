import Derived.Test.YtnglbneefkdfgaaJ
set_option linter.unusedVariables false
namespace Go.Proofs.Ytnglbneefkdfgaa
open Go.RowKit
theorem results_ttt {fn : Func} {t u v : Tmp} (h : fn.results = #[.tmp t, .tmp u, .tmp v]) (tmps : Array Value) (w : World) : (results fn tmps).run Try.prog w = .ok (.tuple #[tmps.getD t undef, tmps.getD u undef, tmps.getD v undef]) w := by
  simp [results, h]
theorem ref_next_none (M : Nat → Prop) (r : Rf) (g : Nh) (w : World) (h : RS M w r g) (hk : g.taken = g.came.length) : Calls Try.prog 34 #[r.val] w fun e w' => e = .returned (.tuple #[.slice none 0 0, .int .i64 0, .bool false]) ∧ w.grownBy w' none := by
  have hcn := h.cn
  have htk := h.tk
  obtain ⟨ca, cn, cc, tk, sa, sn, sc⟩ := r
  simp only at hcn htk
  subst hcn htk
  rw [hk]
  have HG := Lib.hid (World.grownBy_alloc w (.cells #[.slice ca g.came.length cc, .int .i64 (g.came.length : Nat), .slice sa sn sc] 40) none)
  clear h hk
  go_enter Try.func34, Try.ntmps34
  go_wp2
  refine bodyPost_ret (results_ttt rfl _ _) (by rfl) ?_
  exact ⟨rfl, HG.out⟩
end Go.Proofs.Ytnglbneefkdfgaa
