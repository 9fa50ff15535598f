/-
  Layer 13: the reference's Tell where the sum is too great; Tell in one.
-/
import Derived.Test.YtdebmifjfemcjaaMonVf
namespace Go.Dav
set_option linter.unusedVariables false
set_option linter.unusedSimpArgs false
open Go Go.RowKit
/-- What Tell tells, and its error. -/
def toldX (k : Int) (r : Red) : ValN 2 := if r.ok = false ∨ k < 1 ∨ 5 < k ∨ overB k r = true then leafV 1 0 0 else tellV k.toNat r
def toldE (k : Int) (r : Red) : Int := if r.ok = false then 230 else if k < 1 ∨ 5 < k then 2 else if overB k r = true then 5 else 0
end Go.Dav
namespace Go.Proofs.Ytdebmifjfemcjaa
set_option linter.unusedVariables false
set_option linter.unusedSimpArgs false
open Go.RowKit Go.Dav
attribute [local go_sem] Gives ite_val ite_val_true

set_option maxRecDepth 8000 in
set_option maxHeartbeats 8000000 in
theorem Try_rTell_no (k : Nat) (r : Red) (w : World) (hk : k = 2 ∨ k = 5) (hc : I64 r.c) (hni : I64 r.n) (hl : I64 r.l) (hm : I64 r.m) (hov : fitsB r.s = false) :
    Calls Try.prog 22 #[.int .i64 (k : Int), .agg #[.int .i64 r.c, .int .i64 r.n, .int .i64 (hi r.s), .int .u64 (lo r.s), .int .i64 r.l, .int .i64 r.m]] w fun e w' => e = .returned (.tuple #[.agg #[.int .i64 0, .int .i64 0, .string ⟨#[]⟩, .slice none 0 0, .slice none 0 0], .bool false]) ∧ Below w.heap.size w w' := by
  have HC := Lib.hid hc
  have HN := Lib.hid hni
  have HL := Lib.hid hl
  have HM := Lib.hid hm
  have HZ := Lib.hid (show I64 0 by unfold I64; omega)
  have HF := Lib.hid hov
  obtain ⟨W0, hW0⟩ : ∃ W0, (((w.alloc (.cells #[.int .i64 r.c, .int .i64 r.n, .int .i64 (hi r.s), .int .u64 (lo r.s), .int .i64 r.l, .int .i64 r.m] 24)).alloc (.cells #[.int .i64 0, .int .i64 0, .string ⟨#[]⟩, .slice none 0 0, .slice none 0 0] 51)).alloc (.cells #[.int .i64 1, .int .i64 0, .string ⟨#[]⟩, .slice none 0 0, .slice none 0 0] 51)).alloc (.cells #[.int .i64 1, .int .i64 0, .string ⟨#[]⟩, .slice none 0 0, .slice none 0 0] 51) = W0 := ⟨_, rfl⟩
  have HX0 := Lib.hid (show TryTellW w r (1, 0) (1, 0) W0 by
    rw [← hW0]
    exact ⟨(((Blk.new _ _ _).alloc _).alloc _).alloc _, ((Blk.new' _ _ _ (by simp)).alloc _).alloc _, (Blk.new' _ _ _ (by simp)).alloc _, Blk.new' _ _ _ (by simp), (by repeat (first | (with_reducible exact Below.refl _ _) | (with_reducible exact Below.refl _ _) | (with_reducible refine Below.setCell ?_ (by first | omega | (simp; done) | (simp; omega)) _) | (with_reducible refine Below.alloc ?_ (by first | omega | (simp; done) | (simp; omega)) _) | (with_reducible refine Below.drew ?_) | (with_reducible refine below_drewN ?_ _)))⟩)
  have HW0 := Lib.hid hW0
  clear hc hni hl hm hW0 hov
  rcases hk with rfl | rfl
  · by_cases hn : 0 < r.n
    ·
      go_enter Try.func22, Try.ntmps22
      go_wp2_with fail
      rw [HW0.out]
      refine (Try_rIn r.l _).mono ?_; rintro e w1 ⟨rfl, hb1⟩
      have HX1 := Lib.hid (HX0.out.ext hb1)
      have q3 := HX1.out.b3.cells
      have l3 := HX1.out.b3.lt
      have q6 := HX1.out.b6.cells
      have m6 := HX1.out.b6.marks
      have l6 := HX1.out.b6.lt
      clear hb1 HX0 HW0
      go_wp2_with fail
      have hx2 := HX1.out.set6 (3, r.l)
      obtain ⟨V1, hV1⟩ : ∃ V1, (((((w1.setCell ⟨w.heap.size + 1 + 1, 0, none⟩ (.int .i64 3)).setCell ⟨w.heap.size + 1 + 1, 1, none⟩ (.int .i64 r.l)).setCell ⟨w.heap.size + 1 + 1, 2, none⟩ (.string ⟨#[]⟩)).setCell ⟨w.heap.size + 1 + 1, 3, none⟩ (.slice none 0 0)).setCell ⟨w.heap.size + 1 + 1, 4, none⟩ (.slice none 0 0)) = V1 := ⟨_, rfl⟩
      rw [show _ = V1 from hV1] at hx2 ⊢
      have HX2 := Lib.hid hx2
      clear hx2 hV1 HX1 q3 l3 q6 m6 l6
      refine (Try_rIn r.m _).mono ?_; rintro e w2 ⟨rfl, hb2⟩
      have HX3 := Lib.hid (HX2.out.ext hb2)
      have q7 := HX3.out.b7.cells
      have m7 := HX3.out.b7.marks
      have l7 := HX3.out.b7.lt
      clear hb2 HX2
      go_upto_region 6 with fail
      have hx4 := HX3.out.set7 (3, r.m)
      obtain ⟨V, hV⟩ : ∃ V1, (((((w2.setCell ⟨w.heap.size + 1 + 1 + 1, 0, none⟩ (.int .i64 3)).setCell ⟨w.heap.size + 1 + 1 + 1, 1, none⟩ (.int .i64 r.m)).setCell ⟨w.heap.size + 1 + 1 + 1, 2, none⟩ (.string ⟨#[]⟩)).setCell ⟨w.heap.size + 1 + 1 + 1, 3, none⟩ (.slice none 0 0)).setCell ⟨w.heap.size + 1 + 1 + 1, 4, none⟩ (.slice none 0 0)) = V1 := ⟨_, rfl⟩
      rw [show _ = V from hV] at hx4 ⊢
      have HX := Lib.hid hx4
      clear hx4 hV HX3 q7 m7 l7
      have q3 := HX.out.b3.cells
      have l3 := HX.out.b3.lt
      go_wp2_with fail
      refine (Try_rWhole r.c r.n r.s r.l r.m V).mono ?_; rintro e w3 ⟨rfl, hb3⟩
      have HX3 := Lib.hid (HX.out.ext hb3)
      clear hb3 HX q3 l3
      go_wp2_with fail
      refine (Try_rFits r.s w3).mono ?_; rintro e w4 ⟨rfl, hb4⟩
      have HXF := Lib.hid (HX3.out.ext hb4)
      rw [HF.out]
      clear hb4 HX3
      have q4 := HXF.out.b4.cells
      have m4 := HXF.out.b4.marks
      have l4 := HXF.out.b4.lt
      go_wp2
      have c4 := (HXF.out.b4.fiveV (.int .i64 0) (.int .i64 0) (.string ⟨#[]⟩) (.slice none 0 0) (.slice none 0 0)).cells
      refine bodyPost_ret (v := .tuple #[.agg #[.int .i64 0, .int .i64 0, .string ⟨#[]⟩, .slice none 0 0, .slice none 0 0], .bool false]) (by simp [results, Try.results22, go_sem, c4]) rfl ⟨rfl, ?_⟩
      exact below_only HXF.out.bel (Only.fiveV _ _ _ _ _ _ _) HXF.out.bel.size (by omega)
    ·
      go_enter Try.func22, Try.ntmps22
      go_upto_region 6 with fail
      rw [show _ = W0 from HW0.out]
      obtain ⟨V, hV⟩ : ∃ V, W0 = V := ⟨_, rfl⟩
      rw [hV] at HX0 ⊢
      have HX := HX0
      clear hV HW0 HX0
      have q3 := HX.out.b3.cells
      have l3 := HX.out.b3.lt
      go_wp2_with fail
      refine (Try_rWhole r.c r.n r.s r.l r.m V).mono ?_; rintro e w3 ⟨rfl, hb3⟩
      have HX3 := Lib.hid (HX.out.ext hb3)
      clear hb3 HX q3 l3
      go_wp2_with fail
      refine (Try_rFits r.s w3).mono ?_; rintro e w4 ⟨rfl, hb4⟩
      have HXF := Lib.hid (HX3.out.ext hb4)
      rw [HF.out]
      clear hb4 HX3
      have q4 := HXF.out.b4.cells
      have m4 := HXF.out.b4.marks
      have l4 := HXF.out.b4.lt
      go_wp2
      have c4 := (HXF.out.b4.fiveV (.int .i64 0) (.int .i64 0) (.string ⟨#[]⟩) (.slice none 0 0) (.slice none 0 0)).cells
      refine bodyPost_ret (v := .tuple #[.agg #[.int .i64 0, .int .i64 0, .string ⟨#[]⟩, .slice none 0 0, .slice none 0 0], .bool false]) (by simp [results, Try.results22, go_sem, c4]) rfl ⟨rfl, ?_⟩
      exact below_only HXF.out.bel (Only.fiveV _ _ _ _ _ _ _) HXF.out.bel.size (by omega)
  · by_cases hn : 0 < r.n
    ·
      go_enter Try.func22, Try.ntmps22
      go_wp2_with fail
      rw [HW0.out]
      refine (Try_rIn r.l _).mono ?_; rintro e w1 ⟨rfl, hb1⟩
      have HX1 := Lib.hid (HX0.out.ext hb1)
      have q3 := HX1.out.b3.cells
      have l3 := HX1.out.b3.lt
      have q6 := HX1.out.b6.cells
      have m6 := HX1.out.b6.marks
      have l6 := HX1.out.b6.lt
      clear hb1 HX0 HW0
      go_wp2_with fail
      have hx2 := HX1.out.set6 (3, r.l)
      obtain ⟨V1, hV1⟩ : ∃ V1, (((((w1.setCell ⟨w.heap.size + 1 + 1, 0, none⟩ (.int .i64 3)).setCell ⟨w.heap.size + 1 + 1, 1, none⟩ (.int .i64 r.l)).setCell ⟨w.heap.size + 1 + 1, 2, none⟩ (.string ⟨#[]⟩)).setCell ⟨w.heap.size + 1 + 1, 3, none⟩ (.slice none 0 0)).setCell ⟨w.heap.size + 1 + 1, 4, none⟩ (.slice none 0 0)) = V1 := ⟨_, rfl⟩
      rw [show _ = V1 from hV1] at hx2 ⊢
      have HX2 := Lib.hid hx2
      clear hx2 hV1 HX1 q3 l3 q6 m6 l6
      refine (Try_rIn r.m _).mono ?_; rintro e w2 ⟨rfl, hb2⟩
      have HX3 := Lib.hid (HX2.out.ext hb2)
      have q7 := HX3.out.b7.cells
      have m7 := HX3.out.b7.marks
      have l7 := HX3.out.b7.lt
      clear hb2 HX2
      go_upto_region 6 with fail
      have hx4 := HX3.out.set7 (3, r.m)
      obtain ⟨V, hV⟩ : ∃ V1, (((((w2.setCell ⟨w.heap.size + 1 + 1 + 1, 0, none⟩ (.int .i64 3)).setCell ⟨w.heap.size + 1 + 1 + 1, 1, none⟩ (.int .i64 r.m)).setCell ⟨w.heap.size + 1 + 1 + 1, 2, none⟩ (.string ⟨#[]⟩)).setCell ⟨w.heap.size + 1 + 1 + 1, 3, none⟩ (.slice none 0 0)).setCell ⟨w.heap.size + 1 + 1 + 1, 4, none⟩ (.slice none 0 0)) = V1 := ⟨_, rfl⟩
      rw [show _ = V from hV] at hx4 ⊢
      have HX := Lib.hid hx4
      clear hx4 hV HX3 q7 m7 l7
      have q3 := HX.out.b3.cells
      have l3 := HX.out.b3.lt
      go_wp2_with fail
      refine (Try_rWhole r.c r.n r.s r.l r.m V).mono ?_; rintro e w3 ⟨rfl, hb3⟩
      have HX3 := Lib.hid (HX.out.ext hb3)
      clear hb3 HX q3 l3
      go_wp2_with fail
      refine (Try_rFits r.s w3).mono ?_; rintro e w4 ⟨rfl, hb4⟩
      have HXF := Lib.hid (HX3.out.ext hb4)
      rw [HF.out]
      clear hb4 HX3
      have q4 := HXF.out.b4.cells
      have m4 := HXF.out.b4.marks
      have l4 := HXF.out.b4.lt
      go_wp2
      have c4 := (HXF.out.b4.fiveV (.int .i64 0) (.int .i64 0) (.string ⟨#[]⟩) (.slice none 0 0) (.slice none 0 0)).cells
      refine bodyPost_ret (v := .tuple #[.agg #[.int .i64 0, .int .i64 0, .string ⟨#[]⟩, .slice none 0 0, .slice none 0 0], .bool false]) (by simp [results, Try.results22, go_sem, c4]) rfl ⟨rfl, ?_⟩
      exact below_only HXF.out.bel (Only.fiveV _ _ _ _ _ _ _) HXF.out.bel.size (by omega)
    ·
      go_enter Try.func22, Try.ntmps22
      go_upto_region 6 with fail
      rw [show _ = W0 from HW0.out]
      obtain ⟨V, hV⟩ : ∃ V, W0 = V := ⟨_, rfl⟩
      rw [hV] at HX0 ⊢
      have HX := HX0
      clear hV HW0 HX0
      have q3 := HX.out.b3.cells
      have l3 := HX.out.b3.lt
      go_wp2_with fail
      refine (Try_rWhole r.c r.n r.s r.l r.m V).mono ?_; rintro e w3 ⟨rfl, hb3⟩
      have HX3 := Lib.hid (HX.out.ext hb3)
      clear hb3 HX q3 l3
      go_wp2_with fail
      refine (Try_rFits r.s w3).mono ?_; rintro e w4 ⟨rfl, hb4⟩
      have HXF := Lib.hid (HX3.out.ext hb4)
      rw [HF.out]
      clear hb4 HX3
      have q4 := HXF.out.b4.cells
      have m4 := HXF.out.b4.marks
      have l4 := HXF.out.b4.lt
      go_wp2
      have c4 := (HXF.out.b4.fiveV (.int .i64 0) (.int .i64 0) (.string ⟨#[]⟩) (.slice none 0 0) (.slice none 0 0)).cells
      refine bodyPost_ret (v := .tuple #[.agg #[.int .i64 0, .int .i64 0, .string ⟨#[]⟩, .slice none 0 0, .slice none 0 0], .bool false]) (by simp [results, Try.results22, go_sem, c4]) rfl ⟨rfl, ?_⟩
      exact below_only HXF.out.bel (Only.fiveV _ _ _ _ _ _ _) HXF.out.bel.size (by omega)

theorem Try_TellAll (k : Int) (r : Red) (w : World) (hf : r.fits) :
    Calls Try.prog 17 #[.int .i64 k, .agg #[.int .i64 r.c, .int .i64 r.n, .int .i64 (hi r.s), .int .u64 (lo r.s), .int .i64 r.l, .int .i64 r.m]] w fun e w' => ToldTo 2 (toldX k r) (.int .i64 (toldE k r)) e w' ∧ Below w.heap.size w w' := by
  obtain ⟨hc, hn, hl, hm⟩ := hf
  have hz : ∀ W, ValAt W 2 (.agg #[.int .i64 0, .int .i64 0, .string ⟨#[]⟩, .slice none 0 0, .slice none 0 0]) (leafV 1 0 0) := fun W => leaf_at W 1 (by unfold I64'; omega) (by unfold I64'; omega)
  cases hok : r.ok with
  | false =>
    have hx : toldX k r = leafV 1 0 0 := by unfold toldX; rw [if_pos (.inl hok)]
    have he : toldE k r = 230 := by unfold toldE; rw [if_pos hok]
    rw [hx, he]
    refine (Try_Tell_no k r w hl hm (.inl hok)).mono ?_; rintro e w' ⟨rfl, hb⟩
    rw [if_pos hok]
    exact ⟨⟨_, rfl, hz _⟩, hb⟩
  | true =>
    by_cases hk : k < 1 ∨ 5 < k
    · have hx : toldX k r = leafV 1 0 0 := by unfold toldX; rw [if_pos (.inr (by rcases hk with h | h; exact .inl h; exact .inr (.inl h)))]
      have he : toldE k r = 2 := by unfold toldE; rw [if_neg (by rw [hok]; decide), if_pos hk]
      rw [hx, he]
      refine (Try_Tell_no k r w hl hm (.inr hk)).mono ?_; rintro e w' ⟨rfl, hb⟩
      rw [if_neg (by rw [hok]; decide)]
      exact ⟨⟨_, rfl, hz _⟩, hb⟩
    · have hn0 := (Red.ok_spec hok).1
      have hk1 : 1 ≤ k ∧ k ≤ 5 := by omega
      cases ho : overB k r with
      | true =>
        have hx : toldX k r = leafV 1 0 0 := by unfold toldX; rw [if_pos (.inr (.inr (.inr ho)))]
        have he : toldE k r = 5 := by unfold toldE; rw [if_neg (by rw [hok]; decide), if_neg hk, if_pos ho]
        rw [hx, he]
        unfold overB at ho
        simp only [Bool.and_eq_true, Bool.or_eq_true, decide_eq_true_eq, Bool.not_eq_true'] at ho
        rcases ho.1 with rfl | rfl
        · refine (Try_Tell_sum_no r w hok hl hm ho.2).mono ?_; rintro e w' ⟨rfl, hb⟩
          exact ⟨⟨_, rfl, hz _⟩, hb⟩
        · refine (Try_Tell5n r w hok hc hn hl hm hn0 ho.2).mono ?_; rintro e w' ⟨rfl, hb⟩
          exact ⟨⟨_, rfl, hz _⟩, hb⟩
      | false =>
        have hx : toldX k r = tellV k.toNat r := by unfold toldX; rw [if_neg (fun h => by rcases h with h | h | h | h; (rw [hok] at h; cases h); exact hk (.inl h); exact hk (.inr h); (rw [ho] at h; cases h))]
        have he : toldE k r = 0 := by unfold toldE; rw [if_neg (by rw [hok]; decide), if_neg hk, if_neg (by rw [ho]; decide)]
        rw [hx, he]
        have hfit : (k = 2 ∨ k = 5) → fitsB r.s = true := fun h => by
          unfold overB at ho
          cases hfb : fitsB r.s with
          | true => rfl
          | false => rw [hfb] at ho; simp at ho; omega
        have hend : ∀ x, endV 1 r.n x = leafV 1 (TryEndB r.n x).1 (TryEndB r.n x).2 := fun x => by unfold endV TryEndB; split <;> rfl
        have hI : ∀ x, I64 x → I64' (TryEndB r.n x).1 ∧ I64' (TryEndB r.n x).2 := fun x h => by unfold TryEndB; unfold I64 at h; unfold I64'; split <;> (dsimp only; omega)
        rcases (by omega : k = 1 ∨ k = 2 ∨ k = 3 ∨ k = 4 ∨ k = 5) with rfl | rfl | rfl | rfl | rfl
        · refine (Try_Tell1 r w hok hl hm hn0).mono ?_; rintro e w' ⟨rfl, hb⟩
          exact ⟨⟨_, rfl, leaf_at _ 1 (by unfold I64'; omega) hc.v⟩, hb⟩
        · have hf := hfit (.inl rfl)
          refine (Try_Tell_sum_yes r w hok hl hm hf).mono ?_; rintro e w' ⟨rfl, hb⟩
          exact ⟨⟨_, rfl, leaf_at _ 1 (by unfold I64'; omega) (by unfold fitsB at hf; rw [decide_eq_true_eq] at hf; unfold I64'; omega)⟩, hb⟩
        · refine (Try_Tell3 r w hok hl hm hn0).mono ?_; rintro e w' ⟨rfl, hb⟩
          refine ⟨⟨_, rfl, ?_⟩, hb⟩
          rw [show tellV (3 : Int).toNat r = endV 1 r.n r.l from rfl, hend]
          exact leaf_at _ 1 (hI _ hl).1 (hI _ hl).2
        · refine (Try_Tell4 r w hok hl hm hn0).mono ?_; rintro e w' ⟨rfl, hb⟩
          refine ⟨⟨_, rfl, ?_⟩, hb⟩
          rw [show tellV (4 : Int).toNat r = endV 1 r.n r.m from rfl, hend]
          exact leaf_at _ 1 (hI _ hm).1 (hI _ hm).2
        · exact (Try_Tell5y r w hok hc hn hl hm hn0 (hfit (.inr rfl))).mono fun e w' h => h
end Go.Proofs.Ytdebmifjfemcjaa
