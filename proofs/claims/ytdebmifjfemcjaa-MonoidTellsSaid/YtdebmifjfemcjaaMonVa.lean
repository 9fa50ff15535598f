/-
  Layer 13: the reference's in, Fits, Names, Tell, walked.
-/
import Derived.Test.YtdebmifjfemcjaaMonV
import Derived.Test.YtdebmifjfemcjaaMonRefC
import Derived.Test.YtdebmifjfemcjaaMonTell2
import Derived.Deep.DeepCutAuto
namespace Go.Dav
set_option linter.unusedVariables false
set_option linter.unusedSimpArgs false
open Go Go.RowKit
theorem I64.v {n : Int} (h : I64 n) : I64' n := h
theorem rfits_key (s : Int) : ((decide (hi s = 0) && decide (lo s < 9223372036854775808)) || (decide (hi s = -1) && decide (9223372036854775808 ≤ lo s))) = fitsB s := by
  unfold fitsB sg
  have h1 := lo_bd s
  have h2 := hi_bd s
  rw [Bool.eq_iff_iff]
  simp only [Bool.or_eq_true, Bool.and_eq_true, decide_eq_true_eq]
  omega
/-- A told value, or nothing. -/
def ToldTo (d : Nat) (x : ValN d) (err : Value) (e : Ending) (w' : World) : Prop := ∃ v, e = .returned (.tuple #[v, err]) ∧ ValAt w' d v x
end Go.Dav
namespace Go.Proofs.Ytdebmifjfemcjaa
set_option linter.unusedVariables false
set_option linter.unusedSimpArgs false
open Go.RowKit Go.Dav
attribute [local go_sem] Gives ite_val ite_val_true

theorem Try_rIn (n : Int) (w : World) :
    Calls Try.prog 37 #[.int .i64 n] w fun e w' => e = .returned (.agg #[.int .i64 3, .int .i64 n, .string ⟨#[]⟩, .slice none 0 0, .slice none 0 0]) ∧ Below w.heap.size w w' := by
  go_enter Try.func37, Try.ntmps37
  go_wp2
  refine bodyPost_ret (v := .agg #[.int .i64 3, .int .i64 n, .string ⟨#[]⟩, .slice none 0 0, .slice none 0 0]) (by simp [results, Try.results37, go_sem]) rfl ⟨rfl, ?_⟩
  exact (by repeat (first | (with_reducible exact Below.refl _ _) | (with_reducible exact Below.refl _ _) | (with_reducible refine Below.setCell ?_ (by first | omega | (simp; done) | (simp; omega)) _) | (with_reducible refine Below.alloc ?_ (by first | omega | (simp; done) | (simp; omega)) _) | (with_reducible refine Below.drew ?_) | (with_reducible refine below_drewN ?_ _)))

theorem Try_rFits (s : Int) (w : World) :
    Calls Try.prog 38 #[.agg #[.int .i64 (hi s), .int .u64 (lo s)]] w fun e w' => e = .returned (.bool (fitsB s)) ∧ Below w.heap.size w w' := by
  rw [← rfits_key]
  obtain ⟨x, hx⟩ : ∃ x, hi s = x := ⟨_, rfl⟩
  obtain ⟨y, hy⟩ : ∃ y, lo s = y := ⟨_, rfl⟩
  rw [hx, hy]
  clear hx hy
  obtain ⟨r, hr⟩ : ∃ r, ((decide (x = 0) && decide (y < 9223372036854775808)) || (decide (x = -1) && decide (9223372036854775808 ≤ y))) = r := ⟨_, rfl⟩
  rw [hr]
  have HR := Lib.hid hr
  clear hr
  go_enter Try.func38, Try.ntmps38
  go_wp2
  all_goals
    go_ret
    refine ⟨ret_bool ?_, (by repeat (first | (with_reducible exact Below.refl _ _) | (with_reducible exact Below.refl _ _) | (with_reducible refine Below.setCell ?_ (by first | omega | (simp; done) | (simp; omega)) _) | (with_reducible refine Below.alloc ?_ (by first | omega | (simp; done) | (simp; omega)) _) | (with_reducible refine Below.drew ?_) | (with_reducible refine below_drewN ?_ _)))⟩
    rw [← HR.out]
    simp [*]

/-- Where Tell keeps what it is about. -/
structure TryTellW (w : World) (r : Red) (x y : Int × Int) (W : World) : Prop where
  b3 : Blk W w.heap.size [.int .i64 r.c, .int .i64 r.n, .int .i64 (hi r.s), .int .u64 (lo r.s), .int .i64 r.l, .int .i64 r.m] 24
  b4 : Blk W (w.heap.size + 1) [.int .i64 0, .int .i64 0, .string ⟨#[]⟩, .slice none 0 0, .slice none 0 0] 51
  b6 : Blk W (w.heap.size + 1 + 1) [.int .i64 x.1, .int .i64 x.2, .string ⟨#[]⟩, .slice none 0 0, .slice none 0 0] 51
  b7 : Blk W (w.heap.size + 1 + 1 + 1) [.int .i64 y.1, .int .i64 y.2, .string ⟨#[]⟩, .slice none 0 0, .slice none 0 0] 51
  bel : Below w.heap.size w W
theorem TryTellW.ext {w : World} {r : Red} {x y : Int × Int} {W W' : World} (h : TryTellW w r x y W) (hb : Below W.heap.size W W') : TryTellW w r x y W' :=
  ⟨h.b3.ext hb, h.b4.ext hb, h.b6.ext hb, h.b7.ext hb, h.bel.trans (hb.mono h.bel.size)⟩
theorem TryTellW.set6 {w : World} {r : Red} {x y : Int × Int} {W : World} (h : TryTellW w r x y W) (x' : Int × Int) : TryTellW w r x' y (((((W.setCell ⟨w.heap.size + 1 + 1, 0, none⟩ (.int .i64 x'.1)).setCell ⟨w.heap.size + 1 + 1, 1, none⟩ (.int .i64 x'.2)).setCell ⟨w.heap.size + 1 + 1, 2, none⟩ (.string ⟨#[]⟩)).setCell ⟨w.heap.size + 1 + 1, 3, none⟩ (.slice none 0 0)).setCell ⟨w.heap.size + 1 + 1, 4, none⟩ (.slice none 0 0)) := by
  have o := Only.fiveV W (w.heap.size + 1 + 1) (.int .i64 x'.1) (.int .i64 x'.2) (.string ⟨#[]⟩) (.slice none 0 0) (.slice none 0 0)
  exact ⟨h.b3.only o (by omega), h.b4.only o (by omega), h.b6.fiveV _ _ _ _ _, h.b7.only o (by omega), below_only h.bel o h.bel.size (by omega)⟩
theorem TryTellW.set7 {w : World} {r : Red} {x y : Int × Int} {W : World} (h : TryTellW w r x y W) (x' : Int × Int) : TryTellW w r x x' (((((W.setCell ⟨w.heap.size + 1 + 1 + 1, 0, none⟩ (.int .i64 x'.1)).setCell ⟨w.heap.size + 1 + 1 + 1, 1, none⟩ (.int .i64 x'.2)).setCell ⟨w.heap.size + 1 + 1 + 1, 2, none⟩ (.string ⟨#[]⟩)).setCell ⟨w.heap.size + 1 + 1 + 1, 3, none⟩ (.slice none 0 0)).setCell ⟨w.heap.size + 1 + 1 + 1, 4, none⟩ (.slice none 0 0)) := by
  have o := Only.fiveV W (w.heap.size + 1 + 1 + 1) (.int .i64 x'.1) (.int .i64 x'.2) (.string ⟨#[]⟩) (.slice none 0 0) (.slice none 0 0)
  exact ⟨h.b3.only o (by omega), h.b4.only o (by omega), h.b6.only o (by omega), h.b7.fiveV _ _ _ _ _, below_only h.bel o h.bel.size (by omega)⟩

set_option maxRecDepth 8000 in
set_option maxHeartbeats 8000000 in
theorem Try_rTell4 (k : Nat) (r : Red) (w : World) (hk1 : 1 ≤ k) (hk5 : k ≤ 4) (hc : I64 r.c) (hni : I64 r.n) (hl : I64 r.l) (hm : I64 r.m) (hov : k = 2 → fitsB r.s = true) :
    Calls Try.prog 22 #[.int .i64 (k : Int), .agg #[.int .i64 r.c, .int .i64 r.n, .int .i64 (hi r.s), .int .u64 (lo r.s), .int .i64 r.l, .int .i64 r.m]] w fun e w' => ToldTo 2 (tellV k r) (.bool true) e w' ∧ Below w.heap.size w w' := by
  have HC := Lib.hid hc
  have HN := Lib.hid hni
  have HL := Lib.hid hl
  have HM := Lib.hid hm
  have HZ := Lib.hid (show I64 0 by unfold I64; omega)
  have HF := Lib.hid hov
  obtain ⟨W0, hW0⟩ : ∃ W0, (((w.alloc (.cells #[.int .i64 r.c, .int .i64 r.n, .int .i64 (hi r.s), .int .u64 (lo r.s), .int .i64 r.l, .int .i64 r.m] 24)).alloc (.cells #[.int .i64 0, .int .i64 0, .string ⟨#[]⟩, .slice none 0 0, .slice none 0 0] 51)).alloc (.cells #[.int .i64 1, .int .i64 0, .string ⟨#[]⟩, .slice none 0 0, .slice none 0 0] 51)).alloc (.cells #[.int .i64 1, .int .i64 0, .string ⟨#[]⟩, .slice none 0 0, .slice none 0 0] 51) = W0 := ⟨_, rfl⟩
  have HX0 := Lib.hid (show TryTellW w r (1, 0) (1, 0) W0 by
    rw [← hW0]
    exact ⟨(((Blk.new _ _ _).alloc _).alloc _).alloc _, ((Blk.new' _ _ _ (by simp)).alloc _).alloc _, (Blk.new' _ _ _ (by simp)).alloc _, Blk.new' _ _ _ (by simp), (by repeat (first | (with_reducible exact Below.refl _ _) | (with_reducible exact Below.refl _ _) | (with_reducible refine Below.setCell ?_ (by first | omega | (simp; done) | (simp; omega)) _) | (with_reducible refine Below.alloc ?_ (by first | omega | (simp; done) | (simp; omega)) _) | (with_reducible refine Below.drew ?_) | (with_reducible refine below_drewN ?_ _)))⟩)
  have HW0 := Lib.hid hW0
  clear hc hni hl hm hW0 hov
  rcases (by omega : k = 1 ∨ k = 2 ∨ k = 3 ∨ k = 4) with rfl | rfl | rfl | rfl
  · by_cases hn : 0 < r.n
    ·
      go_enter Try.func22, Try.ntmps22
      go_wp2_with fail
      rw [HW0.out]
      refine (Try_rIn r.l _).mono ?_; rintro e w1 ⟨rfl, hb1⟩
      have HX1 := Lib.hid (HX0.out.ext hb1)
      have q3 := HX1.out.b3.cells
      have l3 := HX1.out.b3.lt
      have q6 := HX1.out.b6.cells
      have m6 := HX1.out.b6.marks
      have l6 := HX1.out.b6.lt
      clear hb1 HX0 HW0
      go_wp2_with fail
      have hx2 := HX1.out.set6 (3, r.l)
      obtain ⟨V1, hV1⟩ : ∃ V1, (((((w1.setCell ⟨w.heap.size + 1 + 1, 0, none⟩ (.int .i64 3)).setCell ⟨w.heap.size + 1 + 1, 1, none⟩ (.int .i64 r.l)).setCell ⟨w.heap.size + 1 + 1, 2, none⟩ (.string ⟨#[]⟩)).setCell ⟨w.heap.size + 1 + 1, 3, none⟩ (.slice none 0 0)).setCell ⟨w.heap.size + 1 + 1, 4, none⟩ (.slice none 0 0)) = V1 := ⟨_, rfl⟩
      rw [show _ = V1 from hV1] at hx2 ⊢
      have HX2 := Lib.hid hx2
      clear hx2 hV1 HX1 q3 l3 q6 m6 l6
      refine (Try_rIn r.m _).mono ?_; rintro e w2 ⟨rfl, hb2⟩
      have HX3 := Lib.hid (HX2.out.ext hb2)
      have q7 := HX3.out.b7.cells
      have m7 := HX3.out.b7.marks
      have l7 := HX3.out.b7.lt
      clear hb2 HX2
      go_upto_region 6 with fail
      have hx4 := HX3.out.set7 (3, r.m)
      obtain ⟨V, hV⟩ : ∃ V1, (((((w2.setCell ⟨w.heap.size + 1 + 1 + 1, 0, none⟩ (.int .i64 3)).setCell ⟨w.heap.size + 1 + 1 + 1, 1, none⟩ (.int .i64 r.m)).setCell ⟨w.heap.size + 1 + 1 + 1, 2, none⟩ (.string ⟨#[]⟩)).setCell ⟨w.heap.size + 1 + 1 + 1, 3, none⟩ (.slice none 0 0)).setCell ⟨w.heap.size + 1 + 1 + 1, 4, none⟩ (.slice none 0 0)) = V1 := ⟨_, rfl⟩
      rw [show _ = V from hV] at hx4 ⊢
      have HX := Lib.hid hx4
      clear hx4 hV HX3 q7 m7 l7
      have HE := Lib.hid (show ∀ d x, endV d r.n x = leafV d 3 x from fun d x => if_pos hn)
      have q3 := HX.out.b3.cells
      have l3 := HX.out.b3.lt
      go_wp2_with fail
      refine (Try_rIn r.c V).mono ?_; rintro e w3 ⟨rfl, hb3⟩
      have HXF := Lib.hid (HX.out.ext hb3)
      clear hb3 HX q3 l3
      have q4 := HXF.out.b4.cells
      have m4 := HXF.out.b4.marks
      have l4 := HXF.out.b4.lt
      go_wp2
      have c4 := (HXF.out.b4.fiveV (.int .i64 3) (.int .i64 r.c) (.string ⟨#[]⟩) (.slice none 0 0) (.slice none 0 0)).cells
      refine bodyPost_ret (v := .tuple #[.agg #[.int .i64 3, .int .i64 r.c, .string ⟨#[]⟩, .slice none 0 0, .slice none 0 0], .bool true]) (by simp [results, Try.results22, go_sem, c4]) rfl ⟨⟨_, rfl, ?_⟩, ?_⟩
      · rw [show tellV 1 r = leafV 1 3 r.c from rfl]; exact leaf_at _ 1 (by unfold I64'; omega) HC.out.v
      · exact below_only HXF.out.bel (Only.fiveV _ _ _ _ _ _ _) HXF.out.bel.size (by omega)
    · have HE := Lib.hid (show ∀ d x, endV d r.n x = leafV d 1 0 from fun d x => if_neg hn)
      go_enter Try.func22, Try.ntmps22
      go_upto_region 6 with fail
      rw [show _ = W0 from HW0.out]
      obtain ⟨V, hV⟩ : ∃ V, W0 = V := ⟨_, rfl⟩
      rw [hV] at HX0 ⊢
      have HX := HX0
      clear hV HW0 HX0
      have q3 := HX.out.b3.cells
      have l3 := HX.out.b3.lt
      go_wp2_with fail
      refine (Try_rIn r.c V).mono ?_; rintro e w3 ⟨rfl, hb3⟩
      have HXF := Lib.hid (HX.out.ext hb3)
      clear hb3 HX q3 l3
      have q4 := HXF.out.b4.cells
      have m4 := HXF.out.b4.marks
      have l4 := HXF.out.b4.lt
      go_wp2
      have c4 := (HXF.out.b4.fiveV (.int .i64 3) (.int .i64 r.c) (.string ⟨#[]⟩) (.slice none 0 0) (.slice none 0 0)).cells
      refine bodyPost_ret (v := .tuple #[.agg #[.int .i64 3, .int .i64 r.c, .string ⟨#[]⟩, .slice none 0 0, .slice none 0 0], .bool true]) (by simp [results, Try.results22, go_sem, c4]) rfl ⟨⟨_, rfl, ?_⟩, ?_⟩
      · rw [show tellV 1 r = leafV 1 3 r.c from rfl]; exact leaf_at _ 1 (by unfold I64'; omega) HC.out.v
      · exact below_only HXF.out.bel (Only.fiveV _ _ _ _ _ _ _) HXF.out.bel.size (by omega)
  · by_cases hn : 0 < r.n
    ·
      go_enter Try.func22, Try.ntmps22
      go_wp2_with fail
      rw [HW0.out]
      refine (Try_rIn r.l _).mono ?_; rintro e w1 ⟨rfl, hb1⟩
      have HX1 := Lib.hid (HX0.out.ext hb1)
      have q3 := HX1.out.b3.cells
      have l3 := HX1.out.b3.lt
      have q6 := HX1.out.b6.cells
      have m6 := HX1.out.b6.marks
      have l6 := HX1.out.b6.lt
      clear hb1 HX0 HW0
      go_wp2_with fail
      have hx2 := HX1.out.set6 (3, r.l)
      obtain ⟨V1, hV1⟩ : ∃ V1, (((((w1.setCell ⟨w.heap.size + 1 + 1, 0, none⟩ (.int .i64 3)).setCell ⟨w.heap.size + 1 + 1, 1, none⟩ (.int .i64 r.l)).setCell ⟨w.heap.size + 1 + 1, 2, none⟩ (.string ⟨#[]⟩)).setCell ⟨w.heap.size + 1 + 1, 3, none⟩ (.slice none 0 0)).setCell ⟨w.heap.size + 1 + 1, 4, none⟩ (.slice none 0 0)) = V1 := ⟨_, rfl⟩
      rw [show _ = V1 from hV1] at hx2 ⊢
      have HX2 := Lib.hid hx2
      clear hx2 hV1 HX1 q3 l3 q6 m6 l6
      refine (Try_rIn r.m _).mono ?_; rintro e w2 ⟨rfl, hb2⟩
      have HX3 := Lib.hid (HX2.out.ext hb2)
      have q7 := HX3.out.b7.cells
      have m7 := HX3.out.b7.marks
      have l7 := HX3.out.b7.lt
      clear hb2 HX2
      go_upto_region 6 with fail
      have hx4 := HX3.out.set7 (3, r.m)
      obtain ⟨V, hV⟩ : ∃ V1, (((((w2.setCell ⟨w.heap.size + 1 + 1 + 1, 0, none⟩ (.int .i64 3)).setCell ⟨w.heap.size + 1 + 1 + 1, 1, none⟩ (.int .i64 r.m)).setCell ⟨w.heap.size + 1 + 1 + 1, 2, none⟩ (.string ⟨#[]⟩)).setCell ⟨w.heap.size + 1 + 1 + 1, 3, none⟩ (.slice none 0 0)).setCell ⟨w.heap.size + 1 + 1 + 1, 4, none⟩ (.slice none 0 0)) = V1 := ⟨_, rfl⟩
      rw [show _ = V from hV] at hx4 ⊢
      have HX := Lib.hid hx4
      clear hx4 hV HX3 q7 m7 l7
      have HE := Lib.hid (show ∀ d x, endV d r.n x = leafV d 3 x from fun d x => if_pos hn)
      have q3 := HX.out.b3.cells
      have l3 := HX.out.b3.lt
      go_wp2_with fail
      refine (Try_rWhole r.c r.n r.s r.l r.m V).mono ?_; rintro e w3 ⟨rfl, hb3⟩
      have HX3 := Lib.hid (HX.out.ext hb3)
      clear hb3 HX q3 l3
      go_wp2_with fail
      refine (Try_rFits r.s w3).mono ?_; rintro e w4 ⟨rfl, hb4⟩
      have HX4 := Lib.hid (HX3.out.ext hb4)
      rw [HF.out (by first | rfl | trivial)]
      have hsg := fits_sg (HF.out (by first | rfl | trivial))
      have HSG := Lib.hid (show I64 (sg r.s) by have h := HF.out (by first | rfl | trivial); unfold fitsB at h; rw [decide_eq_true_eq] at h; unfold I64; omega)
      have q3 := HX4.out.b3.cells
      have l3 := HX4.out.b3.lt
      clear hb4 HX3
      go_wp2_with fail
      refine (Try_rIn (sg r.s) w4).mono ?_; rintro e w5 ⟨rfl, hb5⟩
      have HXF := Lib.hid (HX4.out.ext hb5)
      clear hb5 HX4 q3 l3
      have q4 := HXF.out.b4.cells
      have m4 := HXF.out.b4.marks
      have l4 := HXF.out.b4.lt
      go_wp2
      have c4 := (HXF.out.b4.fiveV (.int .i64 3) (.int .i64 (sg r.s)) (.string ⟨#[]⟩) (.slice none 0 0) (.slice none 0 0)).cells
      refine bodyPost_ret (v := .tuple #[.agg #[.int .i64 3, .int .i64 (sg r.s), .string ⟨#[]⟩, .slice none 0 0, .slice none 0 0], .bool true]) (by simp [results, Try.results22, go_sem, c4]) rfl ⟨⟨_, rfl, ?_⟩, ?_⟩
      · rw [show tellV 2 r = leafV 1 3 (sg r.s) from rfl]; exact leaf_at _ 1 (by unfold I64'; omega) HSG.out.v
      · exact below_only HXF.out.bel (Only.fiveV _ _ _ _ _ _ _) HXF.out.bel.size (by omega)
    · have HE := Lib.hid (show ∀ d x, endV d r.n x = leafV d 1 0 from fun d x => if_neg hn)
      go_enter Try.func22, Try.ntmps22
      go_upto_region 6 with fail
      rw [show _ = W0 from HW0.out]
      obtain ⟨V, hV⟩ : ∃ V, W0 = V := ⟨_, rfl⟩
      rw [hV] at HX0 ⊢
      have HX := HX0
      clear hV HW0 HX0
      have q3 := HX.out.b3.cells
      have l3 := HX.out.b3.lt
      go_wp2_with fail
      refine (Try_rWhole r.c r.n r.s r.l r.m V).mono ?_; rintro e w3 ⟨rfl, hb3⟩
      have HX3 := Lib.hid (HX.out.ext hb3)
      clear hb3 HX q3 l3
      go_wp2_with fail
      refine (Try_rFits r.s w3).mono ?_; rintro e w4 ⟨rfl, hb4⟩
      have HX4 := Lib.hid (HX3.out.ext hb4)
      rw [HF.out (by first | rfl | trivial)]
      have hsg := fits_sg (HF.out (by first | rfl | trivial))
      have HSG := Lib.hid (show I64 (sg r.s) by have h := HF.out (by first | rfl | trivial); unfold fitsB at h; rw [decide_eq_true_eq] at h; unfold I64; omega)
      have q3 := HX4.out.b3.cells
      have l3 := HX4.out.b3.lt
      clear hb4 HX3
      go_wp2_with fail
      refine (Try_rIn (sg r.s) w4).mono ?_; rintro e w5 ⟨rfl, hb5⟩
      have HXF := Lib.hid (HX4.out.ext hb5)
      clear hb5 HX4 q3 l3
      have q4 := HXF.out.b4.cells
      have m4 := HXF.out.b4.marks
      have l4 := HXF.out.b4.lt
      go_wp2
      have c4 := (HXF.out.b4.fiveV (.int .i64 3) (.int .i64 (sg r.s)) (.string ⟨#[]⟩) (.slice none 0 0) (.slice none 0 0)).cells
      refine bodyPost_ret (v := .tuple #[.agg #[.int .i64 3, .int .i64 (sg r.s), .string ⟨#[]⟩, .slice none 0 0, .slice none 0 0], .bool true]) (by simp [results, Try.results22, go_sem, c4]) rfl ⟨⟨_, rfl, ?_⟩, ?_⟩
      · rw [show tellV 2 r = leafV 1 3 (sg r.s) from rfl]; exact leaf_at _ 1 (by unfold I64'; omega) HSG.out.v
      · exact below_only HXF.out.bel (Only.fiveV _ _ _ _ _ _ _) HXF.out.bel.size (by omega)
  · by_cases hn : 0 < r.n
    ·
      go_enter Try.func22, Try.ntmps22
      go_wp2_with fail
      rw [HW0.out]
      refine (Try_rIn r.l _).mono ?_; rintro e w1 ⟨rfl, hb1⟩
      have HX1 := Lib.hid (HX0.out.ext hb1)
      have q3 := HX1.out.b3.cells
      have l3 := HX1.out.b3.lt
      have q6 := HX1.out.b6.cells
      have m6 := HX1.out.b6.marks
      have l6 := HX1.out.b6.lt
      clear hb1 HX0 HW0
      go_wp2_with fail
      have hx2 := HX1.out.set6 (3, r.l)
      obtain ⟨V1, hV1⟩ : ∃ V1, (((((w1.setCell ⟨w.heap.size + 1 + 1, 0, none⟩ (.int .i64 3)).setCell ⟨w.heap.size + 1 + 1, 1, none⟩ (.int .i64 r.l)).setCell ⟨w.heap.size + 1 + 1, 2, none⟩ (.string ⟨#[]⟩)).setCell ⟨w.heap.size + 1 + 1, 3, none⟩ (.slice none 0 0)).setCell ⟨w.heap.size + 1 + 1, 4, none⟩ (.slice none 0 0)) = V1 := ⟨_, rfl⟩
      rw [show _ = V1 from hV1] at hx2 ⊢
      have HX2 := Lib.hid hx2
      clear hx2 hV1 HX1 q3 l3 q6 m6 l6
      refine (Try_rIn r.m _).mono ?_; rintro e w2 ⟨rfl, hb2⟩
      have HX3 := Lib.hid (HX2.out.ext hb2)
      have q7 := HX3.out.b7.cells
      have m7 := HX3.out.b7.marks
      have l7 := HX3.out.b7.lt
      clear hb2 HX2
      go_upto_region 6 with fail
      have hx4 := HX3.out.set7 (3, r.m)
      obtain ⟨V, hV⟩ : ∃ V1, (((((w2.setCell ⟨w.heap.size + 1 + 1 + 1, 0, none⟩ (.int .i64 3)).setCell ⟨w.heap.size + 1 + 1 + 1, 1, none⟩ (.int .i64 r.m)).setCell ⟨w.heap.size + 1 + 1 + 1, 2, none⟩ (.string ⟨#[]⟩)).setCell ⟨w.heap.size + 1 + 1 + 1, 3, none⟩ (.slice none 0 0)).setCell ⟨w.heap.size + 1 + 1 + 1, 4, none⟩ (.slice none 0 0)) = V1 := ⟨_, rfl⟩
      rw [show _ = V from hV] at hx4 ⊢
      have HX := Lib.hid hx4
      clear hx4 hV HX3 q7 m7 l7
      have HE := Lib.hid (show ∀ d x, endV d r.n x = leafV d 3 x from fun d x => if_pos hn)
      have HXF := HX
      have q6 := HX.out.b6.cells
      have l6 := HX.out.b6.lt
      clear HX
      have q4 := HXF.out.b4.cells
      have m4 := HXF.out.b4.marks
      have l4 := HXF.out.b4.lt
      go_wp2
      have c4 := (HXF.out.b4.fiveV (.int .i64 3) (.int .i64 r.l) (.string ⟨#[]⟩) (.slice none 0 0) (.slice none 0 0)).cells
      refine bodyPost_ret (v := .tuple #[.agg #[.int .i64 3, .int .i64 r.l, .string ⟨#[]⟩, .slice none 0 0, .slice none 0 0], .bool true]) (by simp [results, Try.results22, go_sem, c4]) rfl ⟨⟨_, rfl, ?_⟩, ?_⟩
      · rw [show tellV 3 r = leafV 1 3 r.l from HE.out 1 r.l]; exact leaf_at _ 1 (by unfold I64'; omega) HL.out.v
      · exact below_only HXF.out.bel (Only.fiveV _ _ _ _ _ _ _) HXF.out.bel.size (by omega)
    · have HE := Lib.hid (show ∀ d x, endV d r.n x = leafV d 1 0 from fun d x => if_neg hn)
      go_enter Try.func22, Try.ntmps22
      go_upto_region 6 with fail
      rw [show _ = W0 from HW0.out]
      obtain ⟨V, hV⟩ : ∃ V, W0 = V := ⟨_, rfl⟩
      rw [hV] at HX0 ⊢
      have HX := HX0
      clear hV HW0 HX0
      have HXF := HX
      have q6 := HX.out.b6.cells
      have l6 := HX.out.b6.lt
      clear HX
      have q4 := HXF.out.b4.cells
      have m4 := HXF.out.b4.marks
      have l4 := HXF.out.b4.lt
      go_wp2
      have c4 := (HXF.out.b4.fiveV (.int .i64 1) (.int .i64 0) (.string ⟨#[]⟩) (.slice none 0 0) (.slice none 0 0)).cells
      refine bodyPost_ret (v := .tuple #[.agg #[.int .i64 1, .int .i64 0, .string ⟨#[]⟩, .slice none 0 0, .slice none 0 0], .bool true]) (by simp [results, Try.results22, go_sem, c4]) rfl ⟨⟨_, rfl, ?_⟩, ?_⟩
      · rw [show tellV 3 r = leafV 1 1 0 from HE.out 1 r.l]; exact leaf_at _ 1 (by unfold I64'; omega) HZ.out.v
      · exact below_only HXF.out.bel (Only.fiveV _ _ _ _ _ _ _) HXF.out.bel.size (by omega)
  · by_cases hn : 0 < r.n
    ·
      go_enter Try.func22, Try.ntmps22
      go_wp2_with fail
      rw [HW0.out]
      refine (Try_rIn r.l _).mono ?_; rintro e w1 ⟨rfl, hb1⟩
      have HX1 := Lib.hid (HX0.out.ext hb1)
      have q3 := HX1.out.b3.cells
      have l3 := HX1.out.b3.lt
      have q6 := HX1.out.b6.cells
      have m6 := HX1.out.b6.marks
      have l6 := HX1.out.b6.lt
      clear hb1 HX0 HW0
      go_wp2_with fail
      have hx2 := HX1.out.set6 (3, r.l)
      obtain ⟨V1, hV1⟩ : ∃ V1, (((((w1.setCell ⟨w.heap.size + 1 + 1, 0, none⟩ (.int .i64 3)).setCell ⟨w.heap.size + 1 + 1, 1, none⟩ (.int .i64 r.l)).setCell ⟨w.heap.size + 1 + 1, 2, none⟩ (.string ⟨#[]⟩)).setCell ⟨w.heap.size + 1 + 1, 3, none⟩ (.slice none 0 0)).setCell ⟨w.heap.size + 1 + 1, 4, none⟩ (.slice none 0 0)) = V1 := ⟨_, rfl⟩
      rw [show _ = V1 from hV1] at hx2 ⊢
      have HX2 := Lib.hid hx2
      clear hx2 hV1 HX1 q3 l3 q6 m6 l6
      refine (Try_rIn r.m _).mono ?_; rintro e w2 ⟨rfl, hb2⟩
      have HX3 := Lib.hid (HX2.out.ext hb2)
      have q7 := HX3.out.b7.cells
      have m7 := HX3.out.b7.marks
      have l7 := HX3.out.b7.lt
      clear hb2 HX2
      go_upto_region 6 with fail
      have hx4 := HX3.out.set7 (3, r.m)
      obtain ⟨V, hV⟩ : ∃ V1, (((((w2.setCell ⟨w.heap.size + 1 + 1 + 1, 0, none⟩ (.int .i64 3)).setCell ⟨w.heap.size + 1 + 1 + 1, 1, none⟩ (.int .i64 r.m)).setCell ⟨w.heap.size + 1 + 1 + 1, 2, none⟩ (.string ⟨#[]⟩)).setCell ⟨w.heap.size + 1 + 1 + 1, 3, none⟩ (.slice none 0 0)).setCell ⟨w.heap.size + 1 + 1 + 1, 4, none⟩ (.slice none 0 0)) = V1 := ⟨_, rfl⟩
      rw [show _ = V from hV] at hx4 ⊢
      have HX := Lib.hid hx4
      clear hx4 hV HX3 q7 m7 l7
      have HE := Lib.hid (show ∀ d x, endV d r.n x = leafV d 3 x from fun d x => if_pos hn)
      have HXF := HX
      have q6 := HX.out.b7.cells
      have l6 := HX.out.b7.lt
      clear HX
      have q4 := HXF.out.b4.cells
      have m4 := HXF.out.b4.marks
      have l4 := HXF.out.b4.lt
      go_wp2
      have c4 := (HXF.out.b4.fiveV (.int .i64 3) (.int .i64 r.m) (.string ⟨#[]⟩) (.slice none 0 0) (.slice none 0 0)).cells
      refine bodyPost_ret (v := .tuple #[.agg #[.int .i64 3, .int .i64 r.m, .string ⟨#[]⟩, .slice none 0 0, .slice none 0 0], .bool true]) (by simp [results, Try.results22, go_sem, c4]) rfl ⟨⟨_, rfl, ?_⟩, ?_⟩
      · rw [show tellV 4 r = leafV 1 3 r.m from HE.out 1 r.m]; exact leaf_at _ 1 (by unfold I64'; omega) HM.out.v
      · exact below_only HXF.out.bel (Only.fiveV _ _ _ _ _ _ _) HXF.out.bel.size (by omega)
    · have HE := Lib.hid (show ∀ d x, endV d r.n x = leafV d 1 0 from fun d x => if_neg hn)
      go_enter Try.func22, Try.ntmps22
      go_upto_region 6 with fail
      rw [show _ = W0 from HW0.out]
      obtain ⟨V, hV⟩ : ∃ V, W0 = V := ⟨_, rfl⟩
      rw [hV] at HX0 ⊢
      have HX := HX0
      clear hV HW0 HX0
      have HXF := HX
      have q6 := HX.out.b7.cells
      have l6 := HX.out.b7.lt
      clear HX
      have q4 := HXF.out.b4.cells
      have m4 := HXF.out.b4.marks
      have l4 := HXF.out.b4.lt
      go_wp2
      have c4 := (HXF.out.b4.fiveV (.int .i64 1) (.int .i64 0) (.string ⟨#[]⟩) (.slice none 0 0) (.slice none 0 0)).cells
      refine bodyPost_ret (v := .tuple #[.agg #[.int .i64 1, .int .i64 0, .string ⟨#[]⟩, .slice none 0 0, .slice none 0 0], .bool true]) (by simp [results, Try.results22, go_sem, c4]) rfl ⟨⟨_, rfl, ?_⟩, ?_⟩
      · rw [show tellV 4 r = leafV 1 1 0 from HE.out 1 r.m]; exact leaf_at _ 1 (by unfold I64'; omega) HZ.out.v
      · exact below_only HXF.out.bel (Only.fiveV _ _ _ _ _ _ _) HXF.out.bel.size (by omega)
end Go.Proofs.Ytdebmifjfemcjaa
