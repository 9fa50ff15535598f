/-
  Layer 13: the reference's Tell of all, walked.
-/
import Derived.Test.YtdebmifjfemcjaaMonVa
namespace Go.Proofs.Ytdebmifjfemcjaa
set_option linter.unusedVariables false
set_option linter.unusedSimpArgs false
open Go.RowKit Go.Dav
attribute [local go_sem] Gives ite_val ite_val_true

/-- What stands at the end. -/
theorem Try_statsEnd (w W5 : World) (g : Nat) (r : Red) (x y : Int × Int) (h : TryTellW w r x y W5) (hx : endV 0 r.n r.l = leafV 0 x.1 x.2) (hy : endV 0 r.n r.m = leafV 0 y.1 y.2) (h1 : I64' r.c) (h2 : I64' r.n) (h3 : I64' (sg r.s)) (hx1 : I64' x.1) (hx2 : I64' x.2) (hy1 : I64' y.1) (hy2 : I64' y.2)
    (hg : Blk W5 g (five 3 r.c ++ (five y.1 y.2 ++ (five x.1 x.2 ++ (five 3 r.n ++ five 3 (sg r.s))))) 51) (hgs : w.heap.size + 1 + 1 + 1 < g) (V : World)
    (hV : (((((W5.setCell ⟨w.heap.size + 1, 0, none⟩ (.int .i64 6)).setCell ⟨w.heap.size + 1, 1, none⟩ (.int .i64 0)).setCell ⟨w.heap.size + 1, 2, none⟩ (.string ⟨#[]⟩)).setCell ⟨w.heap.size + 1, 3, none⟩ (.slice (some ⟨g, 0, none⟩) 5 5)).setCell ⟨w.heap.size + 1, 4, none⟩ (.slice (some ⟨W5.heap.size, 0, none⟩) 5 5)).alloc (.cells #[.string ⟨#[99, 111, 117, 110, 116]⟩, .string ⟨#[109, 97, 120]⟩, .string ⟨#[109, 105, 110]⟩, .string ⟨#[110, 117, 109, 98, 101, 114, 115]⟩, .string ⟨#[115, 117, 109]⟩] 9) = V) :
    ValAt V 2 (.agg #[.int .i64 6, .int .i64 0, .string ⟨#[]⟩, .slice (some ⟨g, 0, none⟩) 5 5, .slice (some ⟨W5.heap.size, 0, none⟩) 5 5]) (statsV r) ∧ Below w.heap.size w V ∧ (∀ i, V.cell? ⟨w.heap.size + 1, i, none⟩ = [Value.int .i64 6, .int .i64 0, .string ⟨#[]⟩, .slice (some ⟨g, 0, none⟩) 5 5, .slice (some ⟨W5.heap.size, 0, none⟩) 5 5][i]?) := by
  have o := Only.fiveV W5 (w.heap.size + 1) (.int .i64 6) (.int .i64 0) (.string ⟨#[]⟩) (.slice (some ⟨g, 0, none⟩) 5 5) (.slice (some ⟨W5.heap.size, 0, none⟩) 5 5)
  have b4 := h.b4.fiveV (.int .i64 6) (.int .i64 0) (.string ⟨#[]⟩) (.slice (some ⟨g, 0, none⟩) 5 5) (.slice (some ⟨W5.heap.size, 0, none⟩) 5 5)
  obtain ⟨U, hU⟩ : ∃ U, (((((W5.setCell ⟨w.heap.size + 1, 0, none⟩ (.int .i64 6)).setCell ⟨w.heap.size + 1, 1, none⟩ (.int .i64 0)).setCell ⟨w.heap.size + 1, 2, none⟩ (.string ⟨#[]⟩)).setCell ⟨w.heap.size + 1, 3, none⟩ (.slice (some ⟨g, 0, none⟩) 5 5)).setCell ⟨w.heap.size + 1, 4, none⟩ (.slice (some ⟨W5.heap.size, 0, none⟩) 5 5)) = U := ⟨_, rfl⟩
  have hsz : U.heap.size = W5.heap.size := by rw [← hU]; simp
  rw [hU] at o b4 hV
  have hg2 := (hg.only o (by omega)).alloc (.cells #[.string ⟨#[99, 111, 117, 110, 116]⟩, .string ⟨#[109, 97, 120]⟩, .string ⟨#[109, 105, 110]⟩, .string ⟨#[110, 117, 109, 98, 101, 114, 115]⟩, .string ⟨#[115, 117, 109]⟩] 9)
  have b5 := b4.alloc (.cells #[.string ⟨#[99, 111, 117, 110, 116]⟩, .string ⟨#[109, 97, 120]⟩, .string ⟨#[109, 105, 110]⟩, .string ⟨#[110, 117, 109, 98, 101, 114, 115]⟩, .string ⟨#[115, 117, 109]⟩] 9)
  have hk := Blk.new' U [.string ⟨#[99, 111, 117, 110, 116]⟩, .string ⟨#[109, 97, 120]⟩, .string ⟨#[109, 105, 110]⟩, .string ⟨#[110, 117, 109, 98, 101, 114, 115]⟩, .string ⟨#[115, 117, 109]⟩] 9 hsz
  have hbel := (below_only h.bel o h.bel.size (by omega)).alloc (by have := h.bel.size; omega) (.cells #[.string ⟨#[99, 111, 117, 110, 116]⟩, .string ⟨#[109, 97, 120]⟩, .string ⟨#[109, 105, 110]⟩, .string ⟨#[110, 117, 109, 98, 101, 114, 115]⟩, .string ⟨#[115, 117, 109]⟩] 9)
  rw [show U.alloc (.cells #[.string ⟨#[99, 111, 117, 110, 116]⟩, .string ⟨#[109, 97, 120]⟩, .string ⟨#[109, 105, 110]⟩, .string ⟨#[110, 117, 109, 98, 101, 114, 115]⟩, .string ⟨#[115, 117, 109]⟩] 9) = V from hV] at hg2 b5 hk hbel
  exact ⟨stats_at (t := 0) hx hy h1 h2 h3 hx1 hx2 hy1 hy2 (fun i v hv => hg2.cell i hv) hg2.lt ⟨Nat.le_refl _, by unfold maxLen; omega⟩ hk ⟨Nat.le_refl _, by unfold maxLen; omega⟩, hbel, b5.cells⟩

set_option maxRecDepth 8000 in
set_option maxHeartbeats 8000000 in
theorem Try_rTell5 (r : Red) (w : World) (hc : I64 r.c) (hni : I64 r.n) (hl : I64 r.l) (hm : I64 r.m) (hov : fitsB r.s = true) :
    Calls Try.prog 22 #[.int .i64 5, .agg #[.int .i64 r.c, .int .i64 r.n, .int .i64 (hi r.s), .int .u64 (lo r.s), .int .i64 r.l, .int .i64 r.m]] w fun e w' => ToldTo 2 (tellV 5 r) (.bool true) e w' ∧ Below w.heap.size w w' := by
  have HC := Lib.hid hc
  have HN := Lib.hid hni
  have HL := Lib.hid hl
  have HM := Lib.hid hm
  have HZ := Lib.hid (show I64 0 by unfold I64; omega)
  have HF := Lib.hid hov
  obtain ⟨W0, hW0⟩ : ∃ W0, (((w.alloc (.cells #[.int .i64 r.c, .int .i64 r.n, .int .i64 (hi r.s), .int .u64 (lo r.s), .int .i64 r.l, .int .i64 r.m] 24)).alloc (.cells #[.int .i64 0, .int .i64 0, .string ⟨#[]⟩, .slice none 0 0, .slice none 0 0] 51)).alloc (.cells #[.int .i64 1, .int .i64 0, .string ⟨#[]⟩, .slice none 0 0, .slice none 0 0] 51)).alloc (.cells #[.int .i64 1, .int .i64 0, .string ⟨#[]⟩, .slice none 0 0, .slice none 0 0] 51) = W0 := ⟨_, rfl⟩
  have HX0 := Lib.hid (show TryTellW w r (1, 0) (1, 0) W0 by
    rw [← hW0]
    exact ⟨(((Blk.new _ _ _).alloc _).alloc _).alloc _, ((Blk.new' _ _ _ (by simp)).alloc _).alloc _, (Blk.new' _ _ _ (by simp)).alloc _, Blk.new' _ _ _ (by simp), (by repeat (first | (with_reducible exact Below.refl _ _) | (with_reducible exact Below.refl _ _) | (with_reducible refine Below.setCell ?_ (by first | omega | (simp; done) | (simp; omega)) _) | (with_reducible refine Below.alloc ?_ (by first | omega | (simp; done) | (simp; omega)) _) | (with_reducible refine Below.drew ?_) | (with_reducible refine below_drewN ?_ _)))⟩)
  have HW0 := Lib.hid hW0
  clear hc hni hl hm hW0 hov
  by_cases hn : 0 < r.n
  ·
    go_enter Try.func22, Try.ntmps22
    go_wp2_with fail
    rw [HW0.out]
    refine (Try_rIn r.l _).mono ?_; rintro e w1 ⟨rfl, hb1⟩
    have HX1 := Lib.hid (HX0.out.ext hb1)
    have q3 := HX1.out.b3.cells
    have l3 := HX1.out.b3.lt
    have q6 := HX1.out.b6.cells
    have m6 := HX1.out.b6.marks
    have l6 := HX1.out.b6.lt
    clear hb1 HX0 HW0
    go_wp2_with fail
    have hx2 := HX1.out.set6 (3, r.l)
    obtain ⟨V1, hV1⟩ : ∃ V1, (((((w1.setCell ⟨w.heap.size + 1 + 1, 0, none⟩ (.int .i64 3)).setCell ⟨w.heap.size + 1 + 1, 1, none⟩ (.int .i64 r.l)).setCell ⟨w.heap.size + 1 + 1, 2, none⟩ (.string ⟨#[]⟩)).setCell ⟨w.heap.size + 1 + 1, 3, none⟩ (.slice none 0 0)).setCell ⟨w.heap.size + 1 + 1, 4, none⟩ (.slice none 0 0)) = V1 := ⟨_, rfl⟩
    rw [show _ = V1 from hV1] at hx2 ⊢
    have HX2 := Lib.hid hx2
    clear hx2 hV1 HX1 q3 l3 q6 m6 l6
    refine (Try_rIn r.m _).mono ?_; rintro e w2 ⟨rfl, hb2⟩
    have HX3 := Lib.hid (HX2.out.ext hb2)
    have q7 := HX3.out.b7.cells
    have m7 := HX3.out.b7.marks
    have l7 := HX3.out.b7.lt
    clear hb2 HX2
    go_upto_region 6 with fail
    have hx4 := HX3.out.set7 (3, r.m)
    obtain ⟨V, hV⟩ : ∃ V1, (((((w2.setCell ⟨w.heap.size + 1 + 1 + 1, 0, none⟩ (.int .i64 3)).setCell ⟨w.heap.size + 1 + 1 + 1, 1, none⟩ (.int .i64 r.m)).setCell ⟨w.heap.size + 1 + 1 + 1, 2, none⟩ (.string ⟨#[]⟩)).setCell ⟨w.heap.size + 1 + 1 + 1, 3, none⟩ (.slice none 0 0)).setCell ⟨w.heap.size + 1 + 1 + 1, 4, none⟩ (.slice none 0 0)) = V1 := ⟨_, rfl⟩
    rw [show _ = V from hV] at hx4 ⊢
    have HX := Lib.hid hx4
    clear hx4 hV HX3 q7 m7 l7
    have HE := Lib.hid (show ∀ d x, endV d r.n x = leafV d 3 x from fun d x => if_pos hn)
    have q3 := HX.out.b3.cells
    have l3 := HX.out.b3.lt
    go_wp2_with fail
    refine (Try_rWhole r.c r.n r.s r.l r.m V).mono ?_; rintro e w3 ⟨rfl, hb3⟩
    have HX3 := Lib.hid (HX.out.ext hb3)
    clear hb3 HX q3 l3
    go_wp2_with fail
    refine (Try_rFits r.s w3).mono ?_; rintro e w4 ⟨rfl, hb4⟩
    have HX4 := Lib.hid (HX3.out.ext hb4)
    have HX4L := Lib.hid HX4.out.b7.lt
    rw [HF.out]
    have hsg := fits_sg HF.out
    have hsw : IntKind.i64.wrap (lo r.s) = sg r.s := by have h := HF.out; unfold fitsB at h; rw [decide_eq_true_eq] at h; exact sg_lo h.1 h.2
    have HSG := Lib.hid (show I64 (sg r.s) by have h := HF.out; unfold fitsB at h; rw [decide_eq_true_eq] at h; unfold I64; omega)
    have q3 := HX4.out.b3.cells
    have l3 := HX4.out.b3.lt
    have q6 := HX4.out.b6.cells
    have l6 := HX4.out.b6.lt
    have q7 := HX4.out.b7.cells
    have l7 := HX4.out.b7.lt
    clear hb4 HX3
    go_wp2_with fail
    refine' wp_region_seq [.inl _, .inl _, .inl _, .inl _, .inl _, .inl _, .inl _, .inl _, .inl _, .inl _, .inl _, .inl _, .inr (SlNew w4.heap.size 5 (five 3 r.c ++ (five 3 r.m ++ (five 3 r.l ++ (five 3 r.n ++ five 3 (sg r.s))))) 51)] (by kernel_rfl) (by kernel_rfl) ?main1
    case main1 =>
      refine wpParts_det (by rfl) (fun W hE hN => ?_) ?_
      · go_simp; refine ⟨Below.refl _ _, ?_⟩; rfl
      simp only [Act.put, List.setIfInBounds_toArray, List.set_cons_zero, List.set_cons_succ]
      refine wpParts_det (by rfl) (fun W hE hN => ?_) ?_
      · have hc := fun b o h => hE.cell (p := ⟨b, o, none⟩) h
        go_simp; refine ⟨Below.refl _ _, ?_⟩; rfl
      simp only [Act.put, List.setIfInBounds_toArray, List.set_cons_zero, List.set_cons_succ]
      refine wpParts_det (by rfl) (fun W hE hN => ?_) ?_
      · go_simp; refine ⟨Below.refl _ _, ?_⟩; refine (Try_rIn _ _).mono ?_; rintro e w' ⟨rfl, hb⟩; refine ⟨?_, hb⟩; rfl
      simp only [Act.put, List.setIfInBounds_toArray, List.set_cons_zero, List.set_cons_succ]
      refine wpParts_det (by rfl) (fun W hE hN => ?_) ?_
      · have hc := fun b o h => hE.cell (p := ⟨b, o, none⟩) h
        go_simp; refine ⟨Below.refl _ _, ?_⟩; rfl
      simp only [Act.put, List.setIfInBounds_toArray, List.set_cons_zero, List.set_cons_succ]
      refine wpParts_det (by rfl) (fun W hE hN => ?_) ?_
      · have hc := fun b o h => hE.cell (p := ⟨b, o, none⟩) h
        go_simp; refine ⟨Below.refl _ _, ?_⟩; rfl
      simp only [Act.put, List.setIfInBounds_toArray, List.set_cons_zero, List.set_cons_succ]
      refine wpParts_det (by rfl) (fun W hE hN => ?_) ?_
      · go_simp; refine ⟨Below.refl _ _, ?_⟩; rfl
      simp only [Act.put, List.setIfInBounds_toArray, List.set_cons_zero, List.set_cons_succ]
      refine wpParts_det (by rfl) (fun W hE hN => ?_) ?_
      · have hc := fun b o h => hE.cell (p := ⟨b, o, none⟩) h
        go_simp; refine ⟨Below.refl _ _, ?_⟩; rfl
      simp only [Act.put, List.setIfInBounds_toArray, List.set_cons_zero, List.set_cons_succ]
      refine wpParts_det (by rfl) (fun W hE hN => ?_) ?_
      · go_simp; refine ⟨Below.refl _ _, ?_⟩; refine (Try_rIn _ _).mono ?_; rintro e w' ⟨rfl, hb⟩; refine ⟨?_, hb⟩; rfl
      simp only [Act.put, List.setIfInBounds_toArray, List.set_cons_zero, List.set_cons_succ]
      refine wpParts_det (by rfl) (fun W hE hN => ?_) ?_
      · go_simp; refine ⟨Below.refl _ _, ?_⟩; rfl
      simp only [Act.put, List.setIfInBounds_toArray, List.set_cons_zero, List.set_cons_succ]
      refine wpParts_det (by rfl) (fun W hE hN => ?_) ?_
      · have hc := fun b o h => hE.cell (p := ⟨b, o, none⟩) h
        go_simp; refine ⟨Below.refl _ _, ?_⟩; rfl
      simp only [Act.put, List.setIfInBounds_toArray, List.set_cons_zero, List.set_cons_succ]
      refine wpParts_det (by rfl) (fun W hE hN => ?_) ?_
      · go_simp; refine ⟨Below.refl _ _, ?_⟩; rfl
      simp only [Act.put, List.setIfInBounds_toArray, List.set_cons_zero, List.set_cons_succ]
      refine wpParts_det (by rfl) (fun W hE hN => ?_) ?_
      · go_simp; refine ⟨Below.refl _ _, ?_⟩; refine (Try_rIn _ _).mono ?_; rintro e w' ⟨rfl, hb⟩; refine ⟨?_, hb⟩; rfl
      simp only [Act.put, List.setIfInBounds_toArray, List.set_cons_zero, List.set_cons_succ]
      refine wpParts_any rfl (SlNew.later) (by rfl) (fun W hE hN => ?_) (fun u12 => ?_)
      · go_simp; exact ⟨(by repeat (first | (with_reducible exact Below.refl _ _) | (with_reducible exact Below.refl _ _) | (with_reducible refine Below.setCell ?_ (by first | omega | (simp; done) | (simp; omega)) _) | (with_reducible refine Below.alloc ?_ (by first | omega | (simp; done) | (simp; omega)) _) | (with_reducible refine Below.drew ?_) | (with_reducible refine below_drewN ?_ _))), _, rfl, hE.size, Blk.new _ _ _⟩
      simp only [Act.put, List.setIfInBounds_toArray, List.set_cons_zero, List.set_cons_succ]
      refine wpParts_end fun W5 hE5 hG5 => ?_
      have hcW5 := fun b o h => hE5.cell (p := ⟨b, o, none⟩) h
      have hfW5 := fun b o h => hE5.frozen (p := ⟨b, o, none⟩) h
      obtain ⟨⟨g, rfl, hg, hgb⟩, _⟩ := hG5
      have HG := Lib.hid hgb
      have HXF := Lib.hid (HX4.out.ext hE5)
      clear hgb hE5 hcW5 hfW5 q3 l3 q6 l6 q7 l7 HX4
      have q4 := HXF.out.b4.cells
      have m4 := HXF.out.b4.marks
      have l4 := HXF.out.b4.lt
      go_wp2
      obtain ⟨V9, hV9⟩ : ∃ V9, (((((W5.setCell ⟨w.heap.size + 1, 0, none⟩ (.int .i64 6)).setCell ⟨w.heap.size + 1, 1, none⟩ (.int .i64 0)).setCell ⟨w.heap.size + 1, 2, none⟩ (.string ⟨#[]⟩)).setCell ⟨w.heap.size + 1, 3, none⟩ (.slice (some ⟨g, 0, none⟩) 5 5)).setCell ⟨w.heap.size + 1, 4, none⟩ (.slice (some ⟨W5.heap.size, 0, none⟩) 5 5)).alloc (.cells #[.string ⟨#[99, 111, 117, 110, 116]⟩, .string ⟨#[109, 97, 120]⟩, .string ⟨#[109, 105, 110]⟩, .string ⟨#[110, 117, 109, 98, 101, 114, 115]⟩, .string ⟨#[115, 117, 109]⟩] 9) = V9 := ⟨_, rfl⟩
      obtain ⟨hval, hbel, c4⟩ := Try_statsEnd w W5 g r (3, r.l) (3, r.m) HXF.out (HE.out 0 r.l) (HE.out 0 r.m) HC.out.v HN.out.v HSG.out.v (by unfold I64'; omega) HL.out.v (by unfold I64'; omega) HM.out.v HG.out (by have := HX4L.out; omega) V9 hV9
      have HVAL := Lib.hid hval
      have HBEL := Lib.hid hbel
      rw [show _ = V9 from hV9]
      clear hval hbel hV9 q4 m4 l4
      refine bodyPost_ret (v := .tuple #[.agg #[.int .i64 6, .int .i64 0, .string ⟨#[]⟩, .slice (some ⟨g, 0, none⟩) 5 5, .slice (some ⟨W5.heap.size, 0, none⟩) 5 5], .bool true]) (by simp [results, Try.results22, go_sem, c4]) rfl ⟨⟨_, rfl, HVAL.out⟩, HBEL.out⟩
  · have HE := Lib.hid (show ∀ d x, endV d r.n x = leafV d 1 0 from fun d x => if_neg hn)
    go_enter Try.func22, Try.ntmps22
    go_upto_region 6 with fail
    rw [show _ = W0 from HW0.out]
    obtain ⟨V, hV⟩ : ∃ V, W0 = V := ⟨_, rfl⟩
    rw [hV] at HX0 ⊢
    have HX := HX0
    clear hV HW0 HX0
    have q3 := HX.out.b3.cells
    have l3 := HX.out.b3.lt
    go_wp2_with fail
    refine (Try_rWhole r.c r.n r.s r.l r.m V).mono ?_; rintro e w3 ⟨rfl, hb3⟩
    have HX3 := Lib.hid (HX.out.ext hb3)
    clear hb3 HX q3 l3
    go_wp2_with fail
    refine (Try_rFits r.s w3).mono ?_; rintro e w4 ⟨rfl, hb4⟩
    have HX4 := Lib.hid (HX3.out.ext hb4)
    have HX4L := Lib.hid HX4.out.b7.lt
    rw [HF.out]
    have hsg := fits_sg HF.out
    have hsw : IntKind.i64.wrap (lo r.s) = sg r.s := by have h := HF.out; unfold fitsB at h; rw [decide_eq_true_eq] at h; exact sg_lo h.1 h.2
    have HSG := Lib.hid (show I64 (sg r.s) by have h := HF.out; unfold fitsB at h; rw [decide_eq_true_eq] at h; unfold I64; omega)
    have q3 := HX4.out.b3.cells
    have l3 := HX4.out.b3.lt
    have q6 := HX4.out.b6.cells
    have l6 := HX4.out.b6.lt
    have q7 := HX4.out.b7.cells
    have l7 := HX4.out.b7.lt
    clear hb4 HX3
    go_wp2_with fail
    refine' wp_region_seq [.inl _, .inl _, .inl _, .inl _, .inl _, .inl _, .inl _, .inl _, .inl _, .inl _, .inl _, .inl _, .inr (SlNew w4.heap.size 5 (five 3 r.c ++ (five 1 0 ++ (five 1 0 ++ (five 3 r.n ++ five 3 (sg r.s))))) 51)] (by kernel_rfl) (by kernel_rfl) ?main2
    case main2 =>
      refine wpParts_det (by rfl) (fun W hE hN => ?_) ?_
      · go_simp; refine ⟨Below.refl _ _, ?_⟩; rfl
      simp only [Act.put, List.setIfInBounds_toArray, List.set_cons_zero, List.set_cons_succ]
      refine wpParts_det (by rfl) (fun W hE hN => ?_) ?_
      · have hc := fun b o h => hE.cell (p := ⟨b, o, none⟩) h
        go_simp; refine ⟨Below.refl _ _, ?_⟩; rfl
      simp only [Act.put, List.setIfInBounds_toArray, List.set_cons_zero, List.set_cons_succ]
      refine wpParts_det (by rfl) (fun W hE hN => ?_) ?_
      · go_simp; refine ⟨Below.refl _ _, ?_⟩; refine (Try_rIn _ _).mono ?_; rintro e w' ⟨rfl, hb⟩; refine ⟨?_, hb⟩; rfl
      simp only [Act.put, List.setIfInBounds_toArray, List.set_cons_zero, List.set_cons_succ]
      refine wpParts_det (by rfl) (fun W hE hN => ?_) ?_
      · have hc := fun b o h => hE.cell (p := ⟨b, o, none⟩) h
        go_simp; refine ⟨Below.refl _ _, ?_⟩; rfl
      simp only [Act.put, List.setIfInBounds_toArray, List.set_cons_zero, List.set_cons_succ]
      refine wpParts_det (by rfl) (fun W hE hN => ?_) ?_
      · have hc := fun b o h => hE.cell (p := ⟨b, o, none⟩) h
        go_simp; refine ⟨Below.refl _ _, ?_⟩; rfl
      simp only [Act.put, List.setIfInBounds_toArray, List.set_cons_zero, List.set_cons_succ]
      refine wpParts_det (by rfl) (fun W hE hN => ?_) ?_
      · go_simp; refine ⟨Below.refl _ _, ?_⟩; rfl
      simp only [Act.put, List.setIfInBounds_toArray, List.set_cons_zero, List.set_cons_succ]
      refine wpParts_det (by rfl) (fun W hE hN => ?_) ?_
      · have hc := fun b o h => hE.cell (p := ⟨b, o, none⟩) h
        go_simp; refine ⟨Below.refl _ _, ?_⟩; rfl
      simp only [Act.put, List.setIfInBounds_toArray, List.set_cons_zero, List.set_cons_succ]
      refine wpParts_det (by rfl) (fun W hE hN => ?_) ?_
      · go_simp; refine ⟨Below.refl _ _, ?_⟩; refine (Try_rIn _ _).mono ?_; rintro e w' ⟨rfl, hb⟩; refine ⟨?_, hb⟩; rfl
      simp only [Act.put, List.setIfInBounds_toArray, List.set_cons_zero, List.set_cons_succ]
      refine wpParts_det (by rfl) (fun W hE hN => ?_) ?_
      · go_simp; refine ⟨Below.refl _ _, ?_⟩; rfl
      simp only [Act.put, List.setIfInBounds_toArray, List.set_cons_zero, List.set_cons_succ]
      refine wpParts_det (by rfl) (fun W hE hN => ?_) ?_
      · have hc := fun b o h => hE.cell (p := ⟨b, o, none⟩) h
        go_simp; refine ⟨Below.refl _ _, ?_⟩; rfl
      simp only [Act.put, List.setIfInBounds_toArray, List.set_cons_zero, List.set_cons_succ]
      refine wpParts_det (by rfl) (fun W hE hN => ?_) ?_
      · go_simp; refine ⟨Below.refl _ _, ?_⟩; rfl
      simp only [Act.put, List.setIfInBounds_toArray, List.set_cons_zero, List.set_cons_succ]
      refine wpParts_det (by rfl) (fun W hE hN => ?_) ?_
      · go_simp; refine ⟨Below.refl _ _, ?_⟩; refine (Try_rIn _ _).mono ?_; rintro e w' ⟨rfl, hb⟩; refine ⟨?_, hb⟩; rfl
      simp only [Act.put, List.setIfInBounds_toArray, List.set_cons_zero, List.set_cons_succ]
      refine wpParts_any rfl (SlNew.later) (by rfl) (fun W hE hN => ?_) (fun u12 => ?_)
      · go_simp; exact ⟨(by repeat (first | (with_reducible exact Below.refl _ _) | (with_reducible exact Below.refl _ _) | (with_reducible refine Below.setCell ?_ (by first | omega | (simp; done) | (simp; omega)) _) | (with_reducible refine Below.alloc ?_ (by first | omega | (simp; done) | (simp; omega)) _) | (with_reducible refine Below.drew ?_) | (with_reducible refine below_drewN ?_ _))), _, rfl, hE.size, Blk.new _ _ _⟩
      simp only [Act.put, List.setIfInBounds_toArray, List.set_cons_zero, List.set_cons_succ]
      refine wpParts_end fun W5 hE5 hG5 => ?_
      have hcW5 := fun b o h => hE5.cell (p := ⟨b, o, none⟩) h
      have hfW5 := fun b o h => hE5.frozen (p := ⟨b, o, none⟩) h
      obtain ⟨⟨g, rfl, hg, hgb⟩, _⟩ := hG5
      have HG := Lib.hid hgb
      have HXF := Lib.hid (HX4.out.ext hE5)
      clear hgb hE5 hcW5 hfW5 q3 l3 q6 l6 q7 l7 HX4
      have q4 := HXF.out.b4.cells
      have m4 := HXF.out.b4.marks
      have l4 := HXF.out.b4.lt
      go_wp2
      obtain ⟨V9, hV9⟩ : ∃ V9, (((((W5.setCell ⟨w.heap.size + 1, 0, none⟩ (.int .i64 6)).setCell ⟨w.heap.size + 1, 1, none⟩ (.int .i64 0)).setCell ⟨w.heap.size + 1, 2, none⟩ (.string ⟨#[]⟩)).setCell ⟨w.heap.size + 1, 3, none⟩ (.slice (some ⟨g, 0, none⟩) 5 5)).setCell ⟨w.heap.size + 1, 4, none⟩ (.slice (some ⟨W5.heap.size, 0, none⟩) 5 5)).alloc (.cells #[.string ⟨#[99, 111, 117, 110, 116]⟩, .string ⟨#[109, 97, 120]⟩, .string ⟨#[109, 105, 110]⟩, .string ⟨#[110, 117, 109, 98, 101, 114, 115]⟩, .string ⟨#[115, 117, 109]⟩] 9) = V9 := ⟨_, rfl⟩
      obtain ⟨hval, hbel, c4⟩ := Try_statsEnd w W5 g r (1, 0) (1, 0) HXF.out (HE.out 0 r.l) (HE.out 0 r.m) HC.out.v HN.out.v HSG.out.v (by unfold I64'; omega) HZ.out.v (by unfold I64'; omega) HZ.out.v HG.out (by have := HX4L.out; omega) V9 hV9
      have HVAL := Lib.hid hval
      have HBEL := Lib.hid hbel
      rw [show _ = V9 from hV9]
      clear hval hbel hV9 q4 m4 l4
      refine bodyPost_ret (v := .tuple #[.agg #[.int .i64 6, .int .i64 0, .string ⟨#[]⟩, .slice (some ⟨g, 0, none⟩) 5 5, .slice (some ⟨W5.heap.size, 0, none⟩) 5 5], .bool true]) (by simp [results, Try.results22, go_sem, c4]) rfl ⟨⟨_, rfl, HVAL.out⟩, HBEL.out⟩
end Go.Proofs.Ytdebmifjfemcjaa
