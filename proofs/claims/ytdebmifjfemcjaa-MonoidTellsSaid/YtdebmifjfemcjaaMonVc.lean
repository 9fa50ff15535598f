/-
  Layer 13: what the program tells: count, end, stats, walked.
-/
import Derived.Test.YtdebmifjfemcjaaMonVb
import Derived.Deep.RegionWith
namespace Go.Proofs.Ytdebmifjfemcjaa
set_option linter.unusedVariables false
set_option linter.unusedSimpArgs false
open Go.RowKit Go.Dav
attribute [local go_sem] Gives ite_val ite_val_true

/-- What a number tells, or its lack. -/
def TryEndB (n x : Int) : Int × Int := if 0 < n then (3, x) else (1, 0)
theorem Try_count (c n s l m : Int) (w : World) :
    Calls Try.prog 46 #[.agg #[.int .i64 c, .int .i64 n, .int .i64 (hi s), .int .u64 (lo s), .int .i64 l, .int .i64 m]] w fun e w' =>
      e = .returned (.tuple #[.agg #[.int .i64 3, .int .i64 c, .string ⟨#[]⟩, .slice none 0 0, .slice none 0 0], .int .i64 0]) ∧ Below w.heap.size w w' := by
  go_enter Try.func46, Try.ntmps46
  go_wp2_with fail
  refine (Try_in _ _).mono ?_; rintro e w1 ⟨rfl, hb1⟩; obtain ⟨hc1, hf1, hs1⟩ := after hb1
  simp at hs1
  have lt_w1_0_0 : w.heap.size < w1.heap.size := by omega
  have lt_w1_0_1 : w.heap.size < w1.heap.size + 1 := by omega
  have lt_w1_1_0 : w.heap.size + 1 < w1.heap.size := by omega
  have lt_w1_1_1 : w.heap.size + 1 < w1.heap.size + 1 := by omega
  go_wp2_with fail
  refine bodyPost_ret (v := .tuple #[.agg #[.int .i64 3, .int .i64 c, .string ⟨#[]⟩, .slice none 0 0, .slice none 0 0], .int .i64 0]) (by simp [results, Try.results46, go_sem, *]) rfl ⟨rfl, ?_⟩
  exact (by repeat (first | (with_reducible exact Below.refl _ _) | (with_reducible exact Below.refl _ _) | (with_reducible refine Below.setCell ?_ (by first | omega | (simp; done) | (simp; omega)) _) | (with_reducible refine Below.alloc ?_ (by first | omega | (simp; done) | (simp; omega)) _) | (with_reducible refine Below.drew ?_) | (with_reducible refine below_drewN ?_ _) | (with_reducible refine Below.trans ?_ (hb1.mono (by first | omega | (simp; done) | (simp; omega))))))

theorem Try_end (c n s l m x : Int) (w : World) (hn : 0 ≤ n) :
    Calls Try.prog 49 #[.agg #[.int .i64 c, .int .i64 n, .int .i64 (hi s), .int .u64 (lo s), .int .i64 l, .int .i64 m], .int .i64 x] w fun e w' =>
      e = .returned (.tuple #[.agg #[.int .i64 (TryEndB n x).1, .int .i64 (TryEndB n x).2, .string ⟨#[]⟩, .slice none 0 0, .slice none 0 0], .int .i64 0]) ∧ Below w.heap.size w w' := by
  by_cases h0 : n = 0
  · have e : TryEndB n x = (1, 0) := by unfold TryEndB; rw [if_neg (by omega)]
    rw [e]
    have hz : (n == 0) = true := by simp [h0]
    clear e h0
    go_enter Try.func49, Try.ntmps49
    go_wp2_with fail
    refine bodyPost_ret (v := .tuple #[.agg #[.int .i64 1, .int .i64 0, .string ⟨#[]⟩, .slice none 0 0, .slice none 0 0], .int .i64 0]) (by simp [results, Try.results49, go_sem, *]) rfl ⟨rfl, ?_⟩
    exact (by repeat (first | (with_reducible exact Below.refl _ _) | (with_reducible exact Below.refl _ _) | (with_reducible refine Below.setCell ?_ (by first | omega | (simp; done) | (simp; omega)) _) | (with_reducible refine Below.alloc ?_ (by first | omega | (simp; done) | (simp; omega)) _) | (with_reducible refine Below.drew ?_) | (with_reducible refine below_drewN ?_ _)))
  · have e : TryEndB n x = (3, x) := by unfold TryEndB; rw [if_pos (by omega)]
    rw [e]
    have hz : (n == 0) = false := by simp [h0]
    clear e
    go_enter Try.func49, Try.ntmps49
    go_wp2_with fail
    refine (Try_in _ _).mono ?_; rintro e w1 ⟨rfl, hb1⟩; obtain ⟨hc1, hf1, hs1⟩ := after hb1
    simp at hs1
    have lt_w1_0_0 : w.heap.size < w1.heap.size := by omega
    have lt_w1_0_1 : w.heap.size < w1.heap.size + 1 := by omega
    have lt_w1_1_0 : w.heap.size + 1 < w1.heap.size := by omega
    have lt_w1_1_1 : w.heap.size + 1 < w1.heap.size + 1 := by omega
    go_wp2_with fail
    refine bodyPost_ret (v := .tuple #[.agg #[.int .i64 3, .int .i64 x, .string ⟨#[]⟩, .slice none 0 0, .slice none 0 0], .int .i64 0]) (by simp [results, Try.results49, go_sem, *]) rfl ⟨rfl, ?_⟩
    exact (by repeat (first | (with_reducible exact Below.refl _ _) | (with_reducible exact Below.refl _ _) | (with_reducible refine Below.setCell ?_ (by first | omega | (simp; done) | (simp; omega)) _) | (with_reducible refine Below.alloc ?_ (by first | omega | (simp; done) | (simp; omega)) _) | (with_reducible refine Below.drew ?_) | (with_reducible refine below_drewN ?_ _) | (with_reducible refine Below.trans ?_ (hb1.mono (by first | omega | (simp; done) | (simp; omega))))))

theorem Try_simple1 (c n s l m : Int) (w : World) (hn : 0 ≤ n) :
    Calls Try.prog 48 #[.agg #[.int .i64 c, .int .i64 n, .int .i64 (hi s), .int .u64 (lo s), .int .i64 l, .int .i64 m]] w fun e w' =>
      e = .returned (.tuple #[.agg #[.int .i64 (TryEndB n l).1, .int .i64 (TryEndB n l).2, .string ⟨#[]⟩, .slice none 0 0, .slice none 0 0], .int .i64 0]) ∧ Below w.heap.size w w' := by
  obtain ⟨q, hq⟩ : ∃ q, TryEndB n l = q := ⟨_, rfl⟩
  have HQ := Lib.hid hq
  rw [hq]
  clear hq
  go_enter Try.func48, Try.ntmps48
  go_wp2_with fail
  refine (Try_end _ _ _ _ _ _ _ hn).mono ?_; rintro e w1 ⟨rfl, hb1⟩; obtain ⟨hc1, hf1, hs1⟩ := after hb1
  rw [HQ.out]
  simp at hs1
  have lt_w1_0_0 : w.heap.size < w1.heap.size := by omega
  have lt_w1_0_1 : w.heap.size < w1.heap.size + 1 := by omega
  have lt_w1_1_0 : w.heap.size + 1 < w1.heap.size := by omega
  have lt_w1_1_1 : w.heap.size + 1 < w1.heap.size + 1 := by omega
  go_wp2_with fail
  refine bodyPost_ret (v := .tuple #[.agg #[.int .i64 q.1, .int .i64 q.2, .string ⟨#[]⟩, .slice none 0 0, .slice none 0 0], .int .i64 0]) (by simp [results, Try.results48, go_sem, *]) rfl ⟨rfl, ?_⟩
  exact (by repeat (first | (with_reducible exact Below.refl _ _) | (with_reducible exact Below.refl _ _) | (with_reducible refine Below.setCell ?_ (by first | omega | (simp; done) | (simp; omega)) _) | (with_reducible refine Below.alloc ?_ (by first | omega | (simp; done) | (simp; omega)) _) | (with_reducible refine Below.drew ?_) | (with_reducible refine below_drewN ?_ _) | (with_reducible refine Below.trans ?_ (hb1.mono (by first | omega | (simp; done) | (simp; omega))))))

theorem Try_simple2 (c n s l m : Int) (w : World) (hn : 0 ≤ n) :
    Calls Try.prog 50 #[.agg #[.int .i64 c, .int .i64 n, .int .i64 (hi s), .int .u64 (lo s), .int .i64 l, .int .i64 m]] w fun e w' =>
      e = .returned (.tuple #[.agg #[.int .i64 (TryEndB n m).1, .int .i64 (TryEndB n m).2, .string ⟨#[]⟩, .slice none 0 0, .slice none 0 0], .int .i64 0]) ∧ Below w.heap.size w w' := by
  obtain ⟨q, hq⟩ : ∃ q, TryEndB n m = q := ⟨_, rfl⟩
  have HQ := Lib.hid hq
  rw [hq]
  clear hq
  go_enter Try.func50, Try.ntmps50
  go_wp2_with fail
  refine (Try_end _ _ _ _ _ _ _ hn).mono ?_; rintro e w1 ⟨rfl, hb1⟩; obtain ⟨hc1, hf1, hs1⟩ := after hb1
  rw [HQ.out]
  simp at hs1
  have lt_w1_0_0 : w.heap.size < w1.heap.size := by omega
  have lt_w1_0_1 : w.heap.size < w1.heap.size + 1 := by omega
  have lt_w1_1_0 : w.heap.size + 1 < w1.heap.size := by omega
  have lt_w1_1_1 : w.heap.size + 1 < w1.heap.size + 1 := by omega
  go_wp2_with fail
  refine bodyPost_ret (v := .tuple #[.agg #[.int .i64 q.1, .int .i64 q.2, .string ⟨#[]⟩, .slice none 0 0, .slice none 0 0], .int .i64 0]) (by simp [results, Try.results50, go_sem, *]) rfl ⟨rfl, ?_⟩
  exact (by repeat (first | (with_reducible exact Below.refl _ _) | (with_reducible exact Below.refl _ _) | (with_reducible refine Below.setCell ?_ (by first | omega | (simp; done) | (simp; omega)) _) | (with_reducible refine Below.alloc ?_ (by first | omega | (simp; done) | (simp; omega)) _) | (with_reducible refine Below.drew ?_) | (with_reducible refine below_drewN ?_ _) | (with_reducible refine Below.trans ?_ (hb1.mono (by first | omega | (simp; done) | (simp; omega))))))
end Go.Proofs.Ytdebmifjfemcjaa
