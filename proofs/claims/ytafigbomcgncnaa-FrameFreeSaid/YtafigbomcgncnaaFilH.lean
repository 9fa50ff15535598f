/-
  Layer 10: operation, walked: what is asked, and what is then done.
-/
import Derived.Test.YtafigbomcgncnaaFilG
import Derived.LoopN
namespace Go.Proofs.Ytafigbomcgncnaa
set_option linter.unusedVariables false
set_option linter.unusedSimpArgs false
open Go.RowKit Go.Dav
attribute [local go_sem] Gives ite_val ite_val_true

/-- What an operation does, given as a function value: the file behind a pointer is turned by g. -/
def TryDoes (w : World) (S : Nat → Prop) (kdo : Nat) (cap : Array Value) (g : FileD → FileD) : Prop :=
  ∀ (W : World) (p : Nat) (fa la : Option Addr) (fl fc ll lc : Nat) (F : FileD), Below w.heap.size w W → w.heap.size ≤ p → Blk W p [.slice fa fl fc, .slice la ll lc, .int .i64 F.fuse, .int .i64 F.fault, .bool F.off] 69 → FileS w S fa fl fc la ll lc F → F.right = true →
    Calls Try.prog kdo (#[.pointer (some ⟨p, 0, none⟩)] ++ cap) W fun e W' => e = .returned (.tuple #[]) ∧ ∃ ga gl gc ma ml mc, Blk W' p [.slice ga gl gc, .slice ma ml mc, .int .i64 (g F).fuse, .int .i64 (g F).fault, .bool (g F).off] 69 ∧
      FileS W' (Or S W) ga gl gc ma ml mc (g F) ∧ Only p W W'

theorem Try_idx0 (x0 x1 x2 x3 : Value) (w : World) : (Instr.index 85 (.agg #[x0, x1, x2, x3]) (.int .i64 0)).run Try.prog w = .ok x0 w := by kernel_rfl
theorem Try_idx1 (x0 x1 x2 x3 : Value) (w : World) : (Instr.index 85 (.agg #[x0, x1, x2, x3]) (.int .i64 1)).run Try.prog w = .ok x1 w := by kernel_rfl
theorem Try_idx2 (x0 x1 x2 x3 : Value) (w : World) : (Instr.index 85 (.agg #[x0, x1, x2, x3]) (.int .i64 2)).run Try.prog w = .ok x2 w := by kernel_rfl
theorem Try_idx3 (x0 x1 x2 x3 : Value) (w : World) : (Instr.index 85 (.agg #[x0, x1, x2, x3]) (.int .i64 3)).run Try.prog w = .ok x3 w := by kernel_rfl

set_option maxRecDepth 8000 in
set_option maxHeartbeats 8000000 in
theorem Try_operation_no (F : FileD) (fa la : Option Addr) (fl fc ll lc kdo : Nat) (more : Int) (cap : Array Value) (w : World) (S : Nat → Prop) (hF : FileS w S fa fl fc la ll lc F) (hr : F.right = false) :
    Calls Try.prog 39 #[.agg #[.slice fa fl fc, .slice la ll lc, .int .i64 F.fuse, .int .i64 F.fault, .bool F.off], .int .i64 more, .func (.func kdo) #[] cap] w (GivesFile w S F 200) := by
  have herr : F.err = 200 := by unfold FileD.err; rw [if_neg (by rw [hr]; decide)]
  have hW : Below w.heap.size w (((w.alloc (.cells [.slice fa fl fc, .slice la ll lc, .int .i64 F.fuse, .int .i64 F.fault, .bool F.off].toArray 25)).alloc (.cells #[.int .i64 more] 3)).alloc (.cells #[.slice none 0 0, .slice none 0 0, .int .i64 0, .int .i64 0, .bool false] 25)) := (by repeat (first | (with_reducible exact Below.refl _ _) | (with_reducible exact Below.refl _ _) | (with_reducible refine Below.setCell ?_ (by first | omega | (simp; done) | (simp; omega)) _) | (with_reducible refine Below.alloc ?_ (by first | omega | (simp; done) | (simp; omega)) _) | (with_reducible refine Below.drew ?_) | (with_reducible refine below_drewN ?_ _)))
  have HFF := Lib.hid (hF.at_.ext hW)
  have HF := Lib.hid hF
  clear hF hW
  go_enter Try.func39, Try.ntmps39
  go_wp2_with fail
  go_step3
  go_wp2_with fail
  refine (Try_Check F fa la fl fc ll lc _ HFF.out).mono ?_; rintro e w1 ⟨rfl, hb1⟩
  obtain ⟨hc1, hf1, hs1⟩ := after hb1
  simp only [World.size_alloc] at hs1
  have lt_w1_0_0 : w.heap.size < w1.heap.size := by omega
  have lt_w1_0_1 : w.heap.size < w1.heap.size + 1 := by omega
  have lt_w1_0_2 : w.heap.size < w1.heap.size + 1 + 1 := by omega
  rw [herr]
  have hr1 := (Blk.new' ((w.alloc (.cells [.slice fa fl fc, .slice la ll lc, .int .i64 F.fuse, .int .i64 F.fault, .bool F.off].toArray 25)).alloc (.cells #[.int .i64 more] 3)) [_, _, _, _, _] 25 (p := w.heap.size + 1 + 1) (by simp)).ext hb1
  have m1 := hr1.marks
  have q1 := hr1.cells
  have hr2 := ((((hr1.set 0 (.slice fa fl fc)).set 1 (.slice la ll lc)).set 2 (.int .i64 F.fuse)).set 3 (.int .i64 F.fault)).set 4 (.bool F.off)
  have c2 := hr2.cells
  simp only [List.set_cons_zero, List.set_cons_succ] at c2
  go_wp2
  rw [Exit.noGoto_ret]
  have hbel : Below w.heap.size w w1 := (by repeat (first | (with_reducible exact Below.refl _ _) | (with_reducible exact Below.refl _ _) | (with_reducible refine Below.setCell ?_ (by first | omega | (simp; done) | (simp; omega)) _) | (with_reducible refine Below.alloc ?_ (by first | omega | (simp; done) | (simp; omega)) _) | (with_reducible refine Below.drew ?_) | (with_reducible refine below_drewN ?_ _) | (with_reducible refine Below.trans ?_ (hb1.mono (by first | omega | (simp; done) | (simp; omega))))))
  refine bodyPost_ret (v := .tuple #[.agg #[.slice fa fl fc, .slice la ll lc, .int .i64 F.fuse, .int .i64 F.fault, .bool F.off], .int .i64 200]) (by simp [results, Try.results39, go_sem, c2]) rfl ⟨fa, fl, fc, la, ll, lc, rfl, (HF.out.mono fun b h => Or.inl h).ext ?_, ?_⟩
  · exact (by repeat (first | (with_reducible exact Below.refl _ _) | (with_reducible exact Below.refl _ _) | (with_reducible refine Below.setCell ?_ (by first | omega | (simp; done) | (simp; omega)) _) | (with_reducible refine Below.alloc ?_ (by first | omega | (simp; done) | (simp; omega)) _) | (with_reducible refine Below.drew ?_) | (with_reducible refine below_drewN ?_ _) | (with_reducible refine Below.trans ?_ (hbel.mono (by first | omega | (simp; done) | (simp; omega))))))
  · exact (by repeat (first | (with_reducible exact Below.refl _ _) | (with_reducible exact Below.refl _ _) | (with_reducible refine Below.setCell ?_ (by first | omega | (simp; done) | (simp; omega)) _) | (with_reducible refine Below.alloc ?_ (by first | omega | (simp; done) | (simp; omega)) _) | (with_reducible refine Below.drew ?_) | (with_reducible refine below_drewN ?_ _) | (with_reducible refine Below.trans ?_ (hbel.mono (by first | omega | (simp; done) | (simp; omega))))))

set_option maxRecDepth 8000 in
set_option maxHeartbeats 8000000 in
theorem Try_operation_yes (F : FileD) (fa la : Option Addr) (fl fc ll lc kdo : Nat) (more : Int) (cap : Array Value) (g : FileD → FileD) (w : World) (S : Nat → Prop) (hF : FileS w S fa fl fc la ll lc F) (hr : F.right = true) (hS : ∀ b, S b → b < w.heap.size) (hdo : TryDoes w S kdo cap g) (hen : ∀ args W, (callFunc kdo args).run Try.prog W = .ok (Next.enter kdo args) W) :
    Calls Try.prog 39 #[.agg #[.slice fa fl fc, .slice la ll lc, .int .i64 F.fuse, .int .i64 F.fault, .bool F.off], .int .i64 more, .func (.func kdo) #[] cap] w (GivesFile w S (F.op more g).1 (F.op more g).2) := by
  have herr : F.err = 0 := by unfold FileD.err; rw [if_pos hr]
  have hW : Below w.heap.size w (((w.alloc (.cells [.slice fa fl fc, .slice la ll lc, .int .i64 F.fuse, .int .i64 F.fault, .bool F.off].toArray 25)).alloc (.cells #[.int .i64 more] 3)).alloc (.cells #[.slice none 0 0, .slice none 0 0, .int .i64 0, .int .i64 0, .bool false] 25)) := (by repeat (first | (with_reducible exact Below.refl _ _) | (with_reducible exact Below.refl _ _) | (with_reducible refine Below.setCell ?_ (by first | omega | (simp; done) | (simp; omega)) _) | (with_reducible refine Below.alloc ?_ (by first | omega | (simp; done) | (simp; omega)) _) | (with_reducible refine Below.drew ?_) | (with_reducible refine below_drewN ?_ _)))
  have HFF := Lib.hid (hF.at_.ext hW)
  have HF := Lib.hid hF
  have HDO := Lib.hid hdo
  clear hF hW hdo
  have HSS := Lib.hid hS; clear hS
  go_enter Try.func39, Try.ntmps39
  go_wp2_with fail
  go_step3
  go_wp2_with fail
  refine (Try_Check F fa la fl fc ll lc _ HFF.out).mono ?_; rintro e w1 ⟨rfl, hb1⟩
  obtain ⟨hc1, hf1, hs1⟩ := after hb1
  simp only [World.size_alloc] at hs1
  have lt_w1_0_0 : w.heap.size < w1.heap.size := by omega
  have lt_w1_0_1 : w.heap.size < w1.heap.size + 1 := by omega
  have lt_w1_0_2 : w.heap.size < w1.heap.size + 1 + 1 := by omega
  rw [herr]
  have j0 := @Try_idx0
  have j1 := @Try_idx1
  have j2 := @Try_idx2
  have j3 := @Try_idx3
  have hp := Blk.new w1 [.slice fa fl fc, .slice la ll lc, .int .i64 F.fuse, .int .i64 F.fault, .bool F.off] 69
  go_wp2_with fail
  go_step3
  go_wp2_with fail
  refine wp_loop_rounds 5 ?_
  rw [rounds_succ]
  go_wp2_with fail
  have B1 := ((Blk.new' ((w.alloc (.cells [.slice fa fl fc, .slice la ll lc, .int .i64 F.fuse, .int .i64 F.fault, .bool F.off].toArray 25)).alloc (.cells #[.int .i64 more] 3)) [_, _, _, _, _] 25 (p := w.heap.size + 1 + 1) (by simp)).ext hb1).alloc (.cells [.slice fa fl fc, .slice la ll lc, .int .i64 F.fuse, .int .i64 F.fault, .bool F.off].toArray 69)
  have B2 := (((Blk.new' (w.alloc (.cells [.slice fa fl fc, .slice la ll lc, .int .i64 F.fuse, .int .i64 F.fault, .bool F.off].toArray 25)) [_] 3 (p := w.heap.size + 1) (by simp)).alloc (.cells #[.slice none 0 0, .slice none 0 0, .int .i64 0, .int .i64 0, .bool false] 25)).ext hb1).alloc (.cells [.slice fa fl fc, .slice la ll lc, .int .i64 F.fuse, .int .i64 F.fault, .bool F.off].toArray 69)
  have B3 := ((((Blk.new w [_, _, _, _, _] 25).alloc (.cells #[.int .i64 more] 3)).alloc (.cells #[.slice none 0 0, .slice none 0 0, .int .i64 0, .int .i64 0, .bool false] 25)).ext hb1).alloc (.cells [.slice fa fl fc, .slice la ll lc, .int .i64 F.fuse, .int .i64 F.fault, .bool F.off].toArray 69)
  have bel : Below w.heap.size w (w1.alloc (.cells [.slice fa fl fc, .slice la ll lc, .int .i64 F.fuse, .int .i64 F.fault, .bool F.off].toArray 69)) := (by repeat (first | (with_reducible exact Below.refl _ _) | (with_reducible exact Below.refl _ _) | (with_reducible refine Below.setCell ?_ (by first | omega | (simp; done) | (simp; omega)) _) | (with_reducible refine Below.alloc ?_ (by first | omega | (simp; done) | (simp; omega)) _) | (with_reducible refine Below.drew ?_) | (with_reducible refine below_drewN ?_ _) | (with_reducible refine Below.trans ?_ (hb1.mono (by first | omega | (simp; done) | (simp; omega))))))
  have hsz : (w1.alloc (.cells [.slice fa fl fc, .slice la ll lc, .int .i64 F.fuse, .int .i64 F.fault, .bool F.off].toArray 69)).heap.size = w1.heap.size + 1 := by simp
  obtain ⟨W, hW⟩ : ∃ W, W = w1.alloc (.cells [.slice fa fl fc, .slice la ll lc, .int .i64 F.fuse, .int .i64 F.fault, .bool F.off].toArray 69) := ⟨_, rfl⟩
  obtain ⟨G, hG⟩ : ∃ G, G = w1.heap.size := ⟨_, rfl⟩
  rw [← hW] at B1 B2 B3 bel hp hsz ⊢
  rw [← hG] at hp hsz hs1 ⊢
  clear hW hG hc1 hf1 hb1 lt_w1_0_0 lt_w1_0_1 lt_w1_0_2
  refine (Try_off G _ _ _ _ _ _ hp).mono ?_; rintro e wX ⟨rfl, rfl⟩
  by_cases hoff : F.off = true
  · have HV := Lib.hid (show F.op more g = (F, 10) by unfold FileD.op FileD.asked; rw [if_pos hr, if_pos hoff]; rfl)
    rw [if_pos hoff]
    have cG := (hp).cells
    have hr2 := ((((B1.set 0 (.slice fa fl fc)).set 1 (.slice la ll lc)).set 2 (.int .i64 (F.fuse))).set 3 (.int .i64 (F.fault))).set 4 (.bool (true))
    have c2 := hr2.cells
    have m2 := B1.marks
    have q2 := B1.cells
    have lG := (hp).lt
    have lB := B1.lt
    have nGB : G ≠ w.heap.size + 1 + 1 := by omega
    simp only [List.set_cons_zero, List.set_cons_succ] at c2
    go_wp2
    rw [Exit.noGoto_ret]
    rw [HV.out]
    refine bodyPost_ret (v := .tuple #[.agg #[.slice fa fl fc, .slice la ll lc, .int .i64 (F.fuse), .int .i64 (F.fault), .bool (true)], .int .i64 10]) (by simp [results, Try.results39, go_sem, c2]) rfl ⟨fa, fl, fc, la, ll, lc, by first | rfl | simp [*], ((HF.out).mono fun b h => Or.inl h).ext ?_, ?_⟩
    · exact (by repeat (first | (with_reducible exact Below.refl _ _) | (with_reducible exact Below.refl _ _) | (with_reducible refine Below.setCell ?_ (by first | omega | (simp; done) | (simp; omega)) _) | (with_reducible refine Below.alloc ?_ (by first | omega | (simp; done) | (simp; omega)) _) | (with_reducible refine Below.drew ?_) | (with_reducible refine below_drewN ?_ _) | (with_reducible refine Below.trans ?_ (bel.mono (by first | omega | (simp; done) | (simp; omega))))))
    · exact (by repeat (first | (with_reducible exact Below.refl _ _) | (with_reducible exact Below.refl _ _) | (with_reducible refine Below.setCell ?_ (by first | omega | (simp; done) | (simp; omega)) _) | (with_reducible refine Below.alloc ?_ (by first | omega | (simp; done) | (simp; omega)) _) | (with_reducible refine Below.drew ?_) | (with_reducible refine below_drewN ?_ _) | (with_reducible refine Below.trans ?_ (bel.mono (by first | omega | (simp; done) | (simp; omega))))))
  · rw [if_neg hoff]
    have hoff2 : F.off = false := by simpa using hoff
    go_wp2_with fail
    rw [rounds_succ]
    go_wp2_with fail
    refine (Try_room F fa la fl fc ll lc (w.heap.size + 1) w.heap.size more _ hr B2 B3 (HF.out.at_.ext bel)).mono ?_; rintro e w2 ⟨rfl, hb2⟩
    have B1 := B1.ext hb2
    have hp := hp.ext hb2
    have s2 := hb2.size
    have bel : Below w.heap.size w w2 := (by repeat (first | (with_reducible exact Below.refl _ _) | (with_reducible exact Below.refl _ _) | (with_reducible refine Below.setCell ?_ (by first | omega | (simp; done) | (simp; omega)) _) | (with_reducible refine Below.alloc ?_ (by first | omega | (simp; done) | (simp; omega)) _) | (with_reducible refine Below.drew ?_) | (with_reducible refine below_drewN ?_ _) | (with_reducible refine Below.trans ?_ (hb2.mono (by first | omega | (simp; done) | (simp; omega)))) | (with_reducible refine Below.trans ?_ (bel.mono (by first | omega | (simp; done) | (simp; omega))))))
    clear B2 B3
    by_cases hroom : 524288 - (F.many : Int) < more
    · have HV := Lib.hid (show F.op more g = (F, 8) by unfold FileD.op FileD.asked; rw [if_pos hr, if_neg hoff, if_pos hroom]; rfl)
      rw [if_pos hroom]
      have cG := (hp).cells
      have hr2 := ((((B1.set 0 (.slice fa fl fc)).set 1 (.slice la ll lc)).set 2 (.int .i64 (F.fuse))).set 3 (.int .i64 (F.fault))).set 4 (.bool (false))
      have c2 := hr2.cells
      have m2 := B1.marks
      have q2 := B1.cells
      have lG := (hp).lt
      have lB := B1.lt
      have nGB : G ≠ w.heap.size + 1 + 1 := by omega
      simp only [List.set_cons_zero, List.set_cons_succ] at c2
      go_wp2
      rw [Exit.noGoto_ret]
      rw [HV.out]
      refine bodyPost_ret (v := .tuple #[.agg #[.slice fa fl fc, .slice la ll lc, .int .i64 (F.fuse), .int .i64 (F.fault), .bool (false)], .int .i64 8]) (by simp [results, Try.results39, go_sem, c2]) rfl ⟨fa, fl, fc, la, ll, lc, by first | rfl | simp [*], ((HF.out).mono fun b h => Or.inl h).ext ?_, ?_⟩
      · exact (by repeat (first | (with_reducible exact Below.refl _ _) | (with_reducible exact Below.refl _ _) | (with_reducible refine Below.setCell ?_ (by first | omega | (simp; done) | (simp; omega)) _) | (with_reducible refine Below.alloc ?_ (by first | omega | (simp; done) | (simp; omega)) _) | (with_reducible refine Below.drew ?_) | (with_reducible refine below_drewN ?_ _) | (with_reducible refine Below.trans ?_ (bel.mono (by first | omega | (simp; done) | (simp; omega))))))
      · exact (by repeat (first | (with_reducible exact Below.refl _ _) | (with_reducible exact Below.refl _ _) | (with_reducible refine Below.setCell ?_ (by first | omega | (simp; done) | (simp; omega)) _) | (with_reducible refine Below.alloc ?_ (by first | omega | (simp; done) | (simp; omega)) _) | (with_reducible refine Below.drew ?_) | (with_reducible refine below_drewN ?_ _) | (with_reducible refine Below.trans ?_ (bel.mono (by first | omega | (simp; done) | (simp; omega))))))
    · rw [if_neg hroom]
      have HRM := Lib.hid hroom; clear hroom
      have hrs := FileD.right_spec.1 hr
      go_wp2_with fail
      rw [rounds_succ]
      go_wp2_with fail
      refine (Try_refused G _ _ _ _ _ _ hp hrs.2.2.1 HF.out.fault.2).mono ?_; rintro e w3 ⟨rfl, hp3, ho3⟩
      have hB3 : Below w.heap.size w w3 := below_only bel ho3 (by omega) (by omega)
      have B1 := B1.only ho3 (by omega)
      have s3 := ho3.size
      clear hp bel
      by_cases hfa : F.fault = 0
      · have HV := Lib.hid (show F.op more g = ({ F with fault := -1 }, 9) by unfold FileD.op FileD.asked; rw [if_pos hr, if_neg hoff, if_neg (Int.not_lt.2 HRM.out), if_pos hfa]; rfl)
        rw [if_pos hfa] at hp3 ⊢
        have hR : FileS w S fa fl fc la ll lc { F with fault := -1 } := ⟨HF.out.firm, HF.out.loose, HF.out.fuse, by unfold I64'; simp⟩
        have cG := (hp3).cells
        have hr2 := ((((B1.set 0 (.slice fa fl fc)).set 1 (.slice la ll lc)).set 2 (.int .i64 (F.fuse))).set 3 (.int .i64 (-1))).set 4 (.bool (false))
        have c2 := hr2.cells
        have m2 := B1.marks
        have q2 := B1.cells
        have lG := (hp3).lt
        have lB := B1.lt
        have nGB : G ≠ w.heap.size + 1 + 1 := by omega
        simp only [List.set_cons_zero, List.set_cons_succ] at c2
        go_wp2
        rw [Exit.noGoto_ret]
        rw [HV.out]
        refine bodyPost_ret (v := .tuple #[.agg #[.slice fa fl fc, .slice la ll lc, .int .i64 (F.fuse), .int .i64 (-1), .bool (false)], .int .i64 9]) (by simp [results, Try.results39, go_sem, c2]) rfl ⟨fa, fl, fc, la, ll, lc, by first | rfl | simp [*], ((hR).mono fun b h => Or.inl h).ext ?_, ?_⟩
        · exact (by repeat (first | (with_reducible exact Below.refl _ _) | (with_reducible exact Below.refl _ _) | (with_reducible refine Below.setCell ?_ (by first | omega | (simp; done) | (simp; omega)) _) | (with_reducible refine Below.alloc ?_ (by first | omega | (simp; done) | (simp; omega)) _) | (with_reducible refine Below.drew ?_) | (with_reducible refine below_drewN ?_ _) | (with_reducible refine Below.trans ?_ (hB3.mono (by first | omega | (simp; done) | (simp; omega))))))
        · exact (by repeat (first | (with_reducible exact Below.refl _ _) | (with_reducible exact Below.refl _ _) | (with_reducible refine Below.setCell ?_ (by first | omega | (simp; done) | (simp; omega)) _) | (with_reducible refine Below.alloc ?_ (by first | omega | (simp; done) | (simp; omega)) _) | (with_reducible refine Below.drew ?_) | (with_reducible refine below_drewN ?_ _) | (with_reducible refine Below.trans ?_ (hB3.mono (by first | omega | (simp; done) | (simp; omega))))))
      · rw [if_neg hfa] at hp3 ⊢
        have hfl : I64' (if 0 < F.fault then F.fault - 1 else F.fault) := by have := HF.out.fault; unfold I64' at *; split <;> omega
        have hfm : -1 ≤ (if 0 < F.fault then F.fault - 1 else F.fault) := by have := hrs.2.2.1; split <;> omega
        obtain ⟨fault, hfe⟩ : ∃ fault, fault = (if 0 < F.fault then F.fault - 1 else F.fault) := ⟨_, rfl⟩
        rw [← hfe] at hp3 hfl hfm
        have HFE := Lib.hid hfe; clear hfe
        go_wp2_with fail
        rw [rounds_succ]
        go_wp2_with fail
        refine (Try_burns G _ _ _ _ _ _ hp3 hrs.2.1 HF.out.fuse.2).mono ?_; rintro e w4 ⟨rfl, hp4, ho4⟩
        have hB4 : Below w.heap.size w w4 := below_only hB3 ho4 (by omega) (by omega)
        have B1 := B1.only ho4 (by omega)
        have s4 := ho4.size
        clear hp3 hB3
        by_cases hfu : F.fuse = 0
        · have HV := Lib.hid (show F.op more g = ({ F with fault := fault, fuse := -1, off := true }, 10) by unfold FileD.op FileD.asked; rw [if_pos hr, if_neg hoff, if_neg (Int.not_lt.2 HRM.out), if_neg hfa, if_pos hfu, ← HFE.out]; rfl)
          have hp5 : Blk w4 G [.slice fa fl fc, .slice la ll lc, .int .i64 (-1), .int .i64 fault, .bool true] 69 := by simpa [hfu] using hp4
          clear hp4
          rw [if_pos hfu]
          have hR : FileS w S fa fl fc la ll lc { F with fault := fault, fuse := -1, off := true } := ⟨HF.out.firm, HF.out.loose, by unfold I64'; simp, hfl⟩
          have cG := (hp5).cells
          have hr2 := ((((B1.set 0 (.slice fa fl fc)).set 1 (.slice la ll lc)).set 2 (.int .i64 (-1))).set 3 (.int .i64 (fault))).set 4 (.bool (true))
          have c2 := hr2.cells
          have m2 := B1.marks
          have q2 := B1.cells
          have lG := (hp5).lt
          have lB := B1.lt
          have nGB : G ≠ w.heap.size + 1 + 1 := by omega
          simp only [List.set_cons_zero, List.set_cons_succ] at c2
          go_wp2
          rw [Exit.noGoto_ret]
          rw [HV.out]
          refine bodyPost_ret (v := .tuple #[.agg #[.slice fa fl fc, .slice la ll lc, .int .i64 (-1), .int .i64 (fault), .bool (true)], .int .i64 10]) (by simp [results, Try.results39, go_sem, c2]) rfl ⟨fa, fl, fc, la, ll, lc, by first | rfl | simp [*], ((hR).mono fun b h => Or.inl h).ext ?_, ?_⟩
          · exact (by repeat (first | (with_reducible exact Below.refl _ _) | (with_reducible exact Below.refl _ _) | (with_reducible refine Below.setCell ?_ (by first | omega | (simp; done) | (simp; omega)) _) | (with_reducible refine Below.alloc ?_ (by first | omega | (simp; done) | (simp; omega)) _) | (with_reducible refine Below.drew ?_) | (with_reducible refine below_drewN ?_ _) | (with_reducible refine Below.trans ?_ (hB4.mono (by first | omega | (simp; done) | (simp; omega))))))
          · exact (by repeat (first | (with_reducible exact Below.refl _ _) | (with_reducible exact Below.refl _ _) | (with_reducible refine Below.setCell ?_ (by first | omega | (simp; done) | (simp; omega)) _) | (with_reducible refine Below.alloc ?_ (by first | omega | (simp; done) | (simp; omega)) _) | (with_reducible refine Below.drew ?_) | (with_reducible refine below_drewN ?_ _) | (with_reducible refine Below.trans ?_ (hB4.mono (by first | omega | (simp; done) | (simp; omega))))))
        · obtain ⟨fuse, hue⟩ : ∃ fuse, fuse = (if 0 < F.fuse then F.fuse - 1 else F.fuse) := ⟨_, rfl⟩
          have hul : I64' fuse := by have := HF.out.fuse; unfold I64' at *; rw [hue]; split <;> omega
          have hum : -1 ≤ fuse := by have := hrs.2.1; rw [hue]; split <;> omega
          have hp5 : Blk w4 G [.slice fa fl fc, .slice la ll lc, .int .i64 fuse, .int .i64 fault, .bool false] 69 := by
            have e1 : (if 0 < F.fuse then F.fuse - 1 else -1) = fuse := by rw [hue]; have := hrs.2.1; split <;> omega
            rw [e1] at hp4
            simpa [hfu, hoff2] using hp4
          have HUE := Lib.hid hue; clear hue hp4
          rw [if_neg hfu]
          have HV := Lib.hid (show F.op more g = (g { F with fault := fault, fuse := fuse, off := false }, 0) by
            unfold FileD.op FileD.asked
            rw [if_pos hr, if_neg hoff, if_neg (Int.not_lt.2 HRM.out), if_neg hfa, if_neg hfu, ← HFE.out, ← HUE.out, if_pos rfl, hoff2])
          have hR : FileS w S fa fl fc la ll lc { F with fault := fault, fuse := fuse, off := false } := ⟨HF.out.firm, HF.out.loose, hul, hfl⟩
          have hright : ({ F with fault := fault, fuse := fuse, off := false } : FileD).right = true := FileD.right_spec.2 ⟨hrs.1, hum, hfm, fun h => (by cases h), hrs.2.2.2.2⟩
          have HD := HDO.out w4 G fa la fl fc ll lc { F with fault := fault, fuse := fuse, off := false } hB4 (by omega) hp5 hR hright
          have HDD := Lib.hid HD; clear HD
          go_wp2_with fail
          rw [rounds_succ]
          go_wp2_with fail
          refine HDD.out.mono ?_; rintro e w5 ⟨rfl, ga, gl, gc, ma, ml, mc, hp6, hR6, ho6⟩
          have hB5 : Below w.heap.size w w5 := below_only hB4 ho6 (by omega) (by omega)
          have B1 := B1.only ho6 (by omega)
          have s5 := ho6.size
          have HR6 := Lib.hid hR6
          clear hR6
          obtain ⟨F6, hF6⟩ : ∃ F6, F6 = g { F with fault := fault, fuse := fuse, off := false } := ⟨_, rfl⟩
          rw [← hF6] at HV HR6 hp6
          clear hF6 hp5 hR
          have cG := hp6.cells
          have hr2 := ((((B1.set 0 (.slice ga gl gc)).set 1 (.slice ma ml mc)).set 2 (.int .i64 F6.fuse)).set 3 (.int .i64 F6.fault)).set 4 (.bool F6.off)
          have c2 := hr2.cells
          have m2 := B1.marks
          have q2 := B1.cells
          have lG := hp6.lt
          have lB := B1.lt
          have nGB : G ≠ w.heap.size + 1 + 1 := by omega
          simp only [List.set_cons_zero, List.set_cons_succ] at c2
          go_wp2
          rw [Exit.noGoto_ret]
          rw [HV.out]
          refine bodyPost_ret (v := .tuple #[.agg #[.slice ga gl gc, .slice ma ml mc, .int .i64 F6.fuse, .int .i64 F6.fault, .bool F6.off], .int .i64 0]) (by simp [results, Try.results39, go_sem, c2]) rfl ⟨ga, gl, gc, ma, ml, mc, rfl, ?_, ?_⟩
          · refine (HR6.out.same (Only.size (p := w.heap.size + 1 + 1) (by repeat (first | (with_reducible exact Only.refl _ _) | (with_reducible refine Only.set ?_ _ _) | (with_reducible refine Only.alloc ?_ _) | (with_reducible refine Only.drew ?_)))) (fun b h hlt => Only.block (p := w.heap.size + 1 + 1) (by repeat (first | (with_reducible exact Only.refl _ _) | (with_reducible refine Only.set ?_ _ _) | (with_reducible refine Only.alloc ?_ _) | (with_reducible refine Only.drew ?_))) b hlt ?_)).mono (T := Or S w) (fun b h => ?_)
            · rcases h with h | h
              · have := HSS.out b h; omega
              · omega
            · rcases h with h | h
              · exact .inl h
              · exact .inr (by omega)
          · exact (by repeat (first | (with_reducible exact Below.refl _ _) | (with_reducible exact Below.refl _ _) | (with_reducible refine Below.setCell ?_ (by first | omega | (simp; done) | (simp; omega)) _) | (with_reducible refine Below.alloc ?_ (by first | omega | (simp; done) | (simp; omega)) _) | (with_reducible refine Below.drew ?_) | (with_reducible refine below_drewN ?_ _) | (with_reducible refine Below.trans ?_ (hB5.mono (by first | omega | (simp; done) | (simp; omega))))))
theorem Try_operation (F : FileD) (fa la : Option Addr) (fl fc ll lc kdo : Nat) (more : Int) (cap : Array Value) (g : FileD → FileD) (w : World) (S : Nat → Prop) (hF : FileS w S fa fl fc la ll lc F) (hS : ∀ b, S b → b < w.heap.size) (hdo : TryDoes w S kdo cap g) (hen : ∀ args W, (callFunc kdo args).run Try.prog W = .ok (Next.enter kdo args) W) :
    Calls Try.prog 39 #[.agg #[.slice fa fl fc, .slice la ll lc, .int .i64 F.fuse, .int .i64 F.fault, .bool F.off], .int .i64 more, .func (.func kdo) #[] cap] w (GivesFile w S (F.op more g).1 (F.op more g).2) := by
  cases hr : F.right with
  | true => exact Try_operation_yes F fa la fl fc ll lc kdo more cap g w S hF hr hS hdo hen
  | false =>
    have e : F.op more g = (F, 200) := by unfold FileD.op; rw [if_neg (by rw [hr]; decide)]
    rw [e]
    exact Try_operation_no F fa la fl fc ll lc kdo more cap w S hF hr
end Go.Proofs.Ytafigbomcgncnaa
