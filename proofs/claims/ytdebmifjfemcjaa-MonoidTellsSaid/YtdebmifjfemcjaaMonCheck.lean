/-
  Layer 13: Check and the reference's Right, at every reduction.
-/
import Derived.Test.YtdebmifjfemcjaaMonWalkD
import Derived.Test.YtdebmifjfemcjaaMonRefB
import Derived.Test.YtdebmifjfemcjaaMonRed
namespace Go.Proofs.Ytdebmifjfemcjaa
set_option linter.unusedVariables false
set_option linter.unusedSimpArgs false
open Go.RowKit Go.Dav

theorem Try_mCheck (r : Red) (w : World) (hl : I64 r.l) (hm : I64 r.m) :
    Calls Try.prog 9 #[.agg #[.int .i64 r.c, .int .i64 r.n, .int .i64 (hi r.s), .int .u64 (lo r.s), .int .i64 r.l, .int .i64 r.m]] w fun e w' =>
      e = .returned (.int .i64 (redE r.ok)) ∧ Below w.heap.size w w' := by
  unfold Red.ok redB
  by_cases h : r.n < 0 ∨ r.c < r.n ∨ 1073741824 < r.c
  · rw [if_pos h]; exact Try_Check_bad _ _ _ _ _ _ h
  rw [if_neg h]
  by_cases h0 : r.n = 0
  · rw [if_pos h0, h0]; exact Try_Check_0 _ _ _ _ _ (by omega) (by omega)
  rw [if_neg h0]
  by_cases h1 : r.n = 1
  · rw [if_pos h1, h1]; exact Try_Check_1 _ _ _ _ _ (by omega) (by omega) hl
  rw [if_neg h1]
  exact Try_Check_2 _ _ _ _ _ _ (by omega) (by omega) (by omega) hl hm

theorem Try_mRight (r : Red) (w : World) (hl : I64 r.l) (hm : I64 r.m) :
    Calls Try.prog 10 #[.agg #[.int .i64 r.c, .int .i64 r.n, .int .i64 (hi r.s), .int .u64 (lo r.s), .int .i64 r.l, .int .i64 r.m]] w fun e w' =>
      e = .returned (.bool r.ok) ∧ Below w.heap.size w w' := by
  unfold Red.ok redB
  by_cases h : r.n < 0 ∨ r.c < r.n ∨ 1073741824 < r.c
  · rw [if_pos h]; exact Try_Right_bad _ _ _ _ _ _ h
  rw [if_neg h]
  by_cases h0 : r.n = 0
  · rw [if_pos h0, h0]; exact Try_Right_0 _ _ _ _ _ (by omega) (by omega)
  rw [if_neg h0]
  by_cases h1 : r.n = 1
  · rw [if_pos h1, h1]; exact Try_Right_1 _ _ _ _ _ (by omega) (by omega) hl
  rw [if_neg h1]
  exact Try_Right_2 _ _ _ _ _ _ (by omega) (by omega) (by omega) hl hm

end Go.Proofs.Ytdebmifjfemcjaa
