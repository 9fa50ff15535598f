/-
  Layer 1: what a first byte says, walked.
  Layer 1: the code point that begins a row, walked: the program's.
  Layer 1: the code point that begins a row, walked: the program's, where there are bytes enough.
  Layer 1: the code point that begins a row, for every row; the way through a text: Check, walked.
-/
import Derived.Test.YtmcmknndhppljaaDoorVbB
import Derived.Laws.BitsLemmas
import Derived.Test.YtmcmknndhppljaaDoorVbA
namespace Go.Dav
set_option linter.unusedVariables false
set_option linter.unusedSimpArgs false
open Go Go.RowKit
def formBits (n : Nat) : Nat := if n = 1 then 7 else if n = 2 then 5 else if n = 3 then 4 else if n = 4 then 3 else 0
def formMark (n : Nat) : Nat := if n = 2 then 192 else if n = 3 then 224 else if n = 4 then 240 else 0
end Go.Dav
namespace Go.Proofs.YtmcmknndhppljaaDoor
set_option linter.unusedVariables false
set_option linter.unusedSimpArgs false
open Go.RowKit Go.Dav
attribute [local go_sem] Gives ite_val ite_val_true

theorem Tryd_form0 (w : World) : (Instr.index 148 (.agg #[.int .i64 0, .int .i64 0, .int .i64 7, .int .i64 0, .int .i64 5, .int .i64 192, .int .i64 4, .int .i64 224, .int .i64 3, .int .i64 240]) (.int .i64 0)).run Tryd.prog w = .ok (.agg #[.int .i64 0, .int .i64 0]) w := by kernel_rfl
theorem Tryd_form1 (w : World) : (Instr.index 148 (.agg #[.int .i64 0, .int .i64 0, .int .i64 7, .int .i64 0, .int .i64 5, .int .i64 192, .int .i64 4, .int .i64 224, .int .i64 3, .int .i64 240]) (.int .i64 1)).run Tryd.prog w = .ok (.agg #[.int .i64 7, .int .i64 0]) w := by kernel_rfl
theorem Tryd_form2 (w : World) : (Instr.index 148 (.agg #[.int .i64 0, .int .i64 0, .int .i64 7, .int .i64 0, .int .i64 5, .int .i64 192, .int .i64 4, .int .i64 224, .int .i64 3, .int .i64 240]) (.int .i64 2)).run Tryd.prog w = .ok (.agg #[.int .i64 5, .int .i64 192]) w := by kernel_rfl
theorem Tryd_form3 (w : World) : (Instr.index 148 (.agg #[.int .i64 0, .int .i64 0, .int .i64 7, .int .i64 0, .int .i64 5, .int .i64 192, .int .i64 4, .int .i64 224, .int .i64 3, .int .i64 240]) (.int .i64 3)).run Tryd.prog w = .ok (.agg #[.int .i64 4, .int .i64 224]) w := by kernel_rfl
theorem Tryd_form4 (w : World) : (Instr.index 148 (.agg #[.int .i64 0, .int .i64 0, .int .i64 7, .int .i64 0, .int .i64 5, .int .i64 192, .int .i64 4, .int .i64 224, .int .i64 3, .int .i64 240]) (.int .i64 4)).run Tryd.prog w = .ok (.agg #[.int .i64 3, .int .i64 240]) w := by kernel_rfl

theorem Tryd_sizedRes (tmps : Array Value) (W0 : World) (p : Nat) (x y a b z : Value) (h : Blk W0 p [x, y] 143) (h2 : tmps.getD 2 undef = .pointer (some ⟨p, 0, none⟩)) (h3 : tmps.getD 3 undef = z) :
    (results Tryd.f109 tmps).run Tryd.prog ((W0.setCell ⟨p, 0, none⟩ a).setCell ⟨p, 1, none⟩ b) = .ok (.tuple #[.agg #[a, b], z]) ((W0.setCell ⟨p, 0, none⟩ a).setCell ⟨p, 1, none⟩ b) := by
  have c3 := ((h.set 0 a).set 1 b).cells
  simp only [List.set_cons_zero, List.set_cons_succ] at c3
  have h2' : tmps[2]?.getD undef = .pointer (some ⟨p, 0, none⟩) := by simpa using h2
  have h3' : tmps[3]?.getD undef = z := by simpa using h3
  simp [results, Tryd.results109, go_sem, c3, h2', h3']

set_option maxRecDepth 8000 in
set_option maxHeartbeats 4000000 in
theorem Tryd_sized (x : UInt8) (w : World) (hN : GlobAt w 0 [.int .i64 0, .int .i64 0] 143) :
    Calls Tryd.prog 109 #[.int .u8 (x.toNat : Int)] w fun e w' => e = .returned (.tuple #[.agg #[.int .i64 (formBits (formOf x) : Int), .int .i64 (formMark (formOf x) : Int)], .int .i64 (formOf x : Int)]) ∧ Below w.heap.size w w' := by
  have HN := Lib.hid hN
  have c0 := hN.cells
  have l0 := hN.lt
  have n0 : w.heap.size ≠ 0 := by omega
  have n1 : ¬ (0 = w.heap.size) := by omega
  have hx := x.toNat_lt
  have hf := formOf_le x
  by_cases h1 : x.toNat < 128
  · have e : formOf x = 1 := (form1 x).2 h1
    rw [e]
    have s0 : (x.toNat : Int) / 128 = 0 := by omega
    clear hf
    go_enter Tryd.func109, Tryd.ntmps109
    go_wp2_with fail
    go_step3
    go_wp2_with fail
    go_step3
    go_wp2_with fail
    obtain ⟨V, hV⟩ : ∃ V, (w.alloc (Obj.cells #[Value.int IntKind.i64 0, Value.int IntKind.i64 0] 143)).alloc (Obj.cells #[Value.int IntKind.i64 0, Value.int IntKind.i64 0] 143) = V := ⟨_, rfl⟩
    have hbV : Below w.heap.size w V := by rw [← hV]; exact (by repeat (first | (with_reducible exact Below.refl _ _) | (with_reducible exact Below.refl _ _) | (with_reducible refine Below.setCell ?_ (by first | omega | (simp; done) | (simp; omega)) _) | (with_reducible refine Below.alloc ?_ (by first | omega | (simp; done) | (simp; omega)) _) | (with_reducible refine Below.drew ?_) | (with_reducible refine below_drewN ?_ _)))
    have b2 : Blk V w.heap.size [.int .i64 0, .int .i64 0] 143 := by rw [← hV]; exact (Blk.new _ _ _).alloc _
    have b4 : Blk V (w.heap.size + 1) [.int .i64 0, .int .i64 0] 143 := by rw [← hV]; exact Blk.new' (w.alloc _) _ _ (by simp)
    rw [hV]
    clear hV
    refine (Tryd_forms V).mono ?_; rintro e w1 ⟨rfl, hb1⟩
    have hN1 := HN.out.ext (hbV.trans (hb1.mono hbV.size))
    have b2 := b2.ext hb1
    have b4 := b4.ext hb1
    have HBEL := Lib.hid (hbV.trans (hb1.mono hbV.size))
    obtain ⟨p2, hp2⟩ : ∃ p, w.heap.size = p := ⟨_, rfl⟩
    rw [hp2] at b2 b4 ⊢
    have HP2 := Lib.hid hp2
    have qn := hN1.cells
    have ln := hN1.lt
    have q2 := b2.cells
    have l2 := b2.lt
    have q4 := b4.cells
    have l4 := b4.lt
    have m2 := b2.marks
    have m4 := b4.marks
    have n2 : p2 ≠ 0 := by omega
    have k0 : p2 ≠ w1.heap.size := by omega
    have k1 : p2 ≠ w1.heap.size + 1 := by omega
    have k2 : p2 ≠ w1.heap.size + 1 + 1 := by omega
    have k3 : p2 ≠ w1.heap.size + 1 + 1 + 1 := by omega
    have k4 : p2 ≠ w1.heap.size + 1 + 1 + 1 + 1 := by omega
    have u0 : p2 + 1 ≠ w1.heap.size := by omega
    have lt_w1_0_0 : p2 < w1.heap.size := by omega
    have lt_w1_0_1 : p2 < w1.heap.size + 1 := by omega
    have lt_w1_0_2 : p2 < w1.heap.size + 1 + 1 := by omega
    have lt_w1_0_3 : p2 < w1.heap.size + 1 + 1 + 1 := by omega
    have lt_w1_0_4 : p2 < w1.heap.size + 1 + 1 + 1 + 1 := by omega
    have lt_w1_0_5 : p2 < w1.heap.size + 1 + 1 + 1 + 1 + 1 := by omega
    have lt_w1_0_6 : p2 < w1.heap.size + 1 + 1 + 1 + 1 + 1 + 1 := by omega
    have HN1 := Lib.hid hN1
    have HB2 := Lib.hid b2
    have HB4 := Lib.hid b4
    clear hbV hb1 hN1 b2 b4 hp2 hN c0 l0 n0 n1 HN
    have j0 := @Tryd_form0
    have j1 := @Tryd_form1
    have j2 := @Tryd_form2
    have j3 := @Tryd_form3
    have j4 := @Tryd_form4
    go_wp2_with fail
    refine wp_loop_rounds 6 ?_
    rw [rounds_succ]
    go_wp2_with fail
    go_quiet (fail)
    go_wp2_with fail
    rw [rounds_succ]
    go_wp2_with fail
    go_quiet (fail)
    go_wp2_with fail
    rw [Exit.noGoto_ret]
    refine bodyPost_ret (Tryd_sizedRes _ _ p2 (.int .i64 0) (.int .i64 0) _ _ (.int .i64 1) ?_ rfl rfl) rfl ⟨by first | rfl | (simp [formBits, formMark]), ?_⟩
    · exact ((((HB2.out.alloc (Obj.cells #[Value.int .i64 0, Value.int .i64 0] 143)).alloc (Obj.cells #[Value.int .i64 7, Value.int .i64 0] 143)).other (q := p2 + 1) (by omega) 0 (.int .i64 7)).other (q := p2 + 1) (by omega) 1 (.int .i64 0))
    rw [← HP2.out] at *
    have hb := HBEL.out
    exact (by repeat (first | (with_reducible exact Below.refl _ _) | (with_reducible exact Below.refl _ _) | (with_reducible refine Below.setCell ?_ (by first | omega | (simp; done) | (simp; omega)) _) | (with_reducible refine Below.alloc ?_ (by first | omega | (simp; done) | (simp; omega)) _) | (with_reducible refine Below.drew ?_) | (with_reducible refine below_drewN ?_ _) | (with_reducible refine Below.trans ?_ (hb.mono (by first | omega | (simp; done) | (simp; omega))))))
  by_cases h2 : 192 ≤ x.toNat ∧ x.toNat < 224
  · have e : formOf x = 2 := (form2 x).2 h2
    rw [e]
    have s0 : (x.toNat : Int) / 128 = 1 := by omega
    have s1 : (x.toNat : Int) / 32 = 6 := by omega
    clear hf
    go_enter Tryd.func109, Tryd.ntmps109
    go_wp2_with fail
    go_step3
    go_wp2_with fail
    go_step3
    go_wp2_with fail
    obtain ⟨V, hV⟩ : ∃ V, (w.alloc (Obj.cells #[Value.int IntKind.i64 0, Value.int IntKind.i64 0] 143)).alloc (Obj.cells #[Value.int IntKind.i64 0, Value.int IntKind.i64 0] 143) = V := ⟨_, rfl⟩
    have hbV : Below w.heap.size w V := by rw [← hV]; exact (by repeat (first | (with_reducible exact Below.refl _ _) | (with_reducible exact Below.refl _ _) | (with_reducible refine Below.setCell ?_ (by first | omega | (simp; done) | (simp; omega)) _) | (with_reducible refine Below.alloc ?_ (by first | omega | (simp; done) | (simp; omega)) _) | (with_reducible refine Below.drew ?_) | (with_reducible refine below_drewN ?_ _)))
    have b2 : Blk V w.heap.size [.int .i64 0, .int .i64 0] 143 := by rw [← hV]; exact (Blk.new _ _ _).alloc _
    have b4 : Blk V (w.heap.size + 1) [.int .i64 0, .int .i64 0] 143 := by rw [← hV]; exact Blk.new' (w.alloc _) _ _ (by simp)
    rw [hV]
    clear hV
    refine (Tryd_forms V).mono ?_; rintro e w1 ⟨rfl, hb1⟩
    have hN1 := HN.out.ext (hbV.trans (hb1.mono hbV.size))
    have b2 := b2.ext hb1
    have b4 := b4.ext hb1
    have HBEL := Lib.hid (hbV.trans (hb1.mono hbV.size))
    obtain ⟨p2, hp2⟩ : ∃ p, w.heap.size = p := ⟨_, rfl⟩
    rw [hp2] at b2 b4 ⊢
    have HP2 := Lib.hid hp2
    have qn := hN1.cells
    have ln := hN1.lt
    have q2 := b2.cells
    have l2 := b2.lt
    have q4 := b4.cells
    have l4 := b4.lt
    have m2 := b2.marks
    have m4 := b4.marks
    have n2 : p2 ≠ 0 := by omega
    have k0 : p2 ≠ w1.heap.size := by omega
    have k1 : p2 ≠ w1.heap.size + 1 := by omega
    have k2 : p2 ≠ w1.heap.size + 1 + 1 := by omega
    have k3 : p2 ≠ w1.heap.size + 1 + 1 + 1 := by omega
    have k4 : p2 ≠ w1.heap.size + 1 + 1 + 1 + 1 := by omega
    have u0 : p2 + 1 ≠ w1.heap.size := by omega
    have lt_w1_0_0 : p2 < w1.heap.size := by omega
    have lt_w1_0_1 : p2 < w1.heap.size + 1 := by omega
    have lt_w1_0_2 : p2 < w1.heap.size + 1 + 1 := by omega
    have lt_w1_0_3 : p2 < w1.heap.size + 1 + 1 + 1 := by omega
    have lt_w1_0_4 : p2 < w1.heap.size + 1 + 1 + 1 + 1 := by omega
    have lt_w1_0_5 : p2 < w1.heap.size + 1 + 1 + 1 + 1 + 1 := by omega
    have lt_w1_0_6 : p2 < w1.heap.size + 1 + 1 + 1 + 1 + 1 + 1 := by omega
    have HN1 := Lib.hid hN1
    have HB2 := Lib.hid b2
    have HB4 := Lib.hid b4
    clear hbV hb1 hN1 b2 b4 hp2 hN c0 l0 n0 n1 HN
    have j0 := @Tryd_form0
    have j1 := @Tryd_form1
    have j2 := @Tryd_form2
    have j3 := @Tryd_form3
    have j4 := @Tryd_form4
    go_wp2_with fail
    refine wp_loop_rounds 6 ?_
    rw [rounds_succ]
    go_wp2_with fail
    go_quiet (fail)
    go_wp2_with fail
    rw [rounds_succ]
    go_wp2_with fail
    go_quiet (fail)
    go_wp2_with fail
    rw [rounds_succ]
    go_wp2_with fail
    go_quiet (fail)
    go_wp2_with fail
    rw [Exit.noGoto_ret]
    refine bodyPost_ret (Tryd_sizedRes _ _ p2 (.int .i64 0) (.int .i64 0) _ _ (.int .i64 2) ?_ rfl rfl) rfl ⟨by first | rfl | (simp [formBits, formMark]), ?_⟩
    · exact (((((HB2.out.alloc (Obj.cells #[Value.int .i64 0, Value.int .i64 0] 143)).alloc (Obj.cells #[Value.int .i64 7, Value.int .i64 0] 143)).alloc (Obj.cells #[Value.int .i64 5, Value.int .i64 192] 143)).other (q := p2 + 1) (by omega) 0 (.int .i64 5)).other (q := p2 + 1) (by omega) 1 (.int .i64 192))
    rw [← HP2.out] at *
    have hb := HBEL.out
    exact (by repeat (first | (with_reducible exact Below.refl _ _) | (with_reducible exact Below.refl _ _) | (with_reducible refine Below.setCell ?_ (by first | omega | (simp; done) | (simp; omega)) _) | (with_reducible refine Below.alloc ?_ (by first | omega | (simp; done) | (simp; omega)) _) | (with_reducible refine Below.drew ?_) | (with_reducible refine below_drewN ?_ _) | (with_reducible refine Below.trans ?_ (hb.mono (by first | omega | (simp; done) | (simp; omega))))))
  by_cases h3 : 224 ≤ x.toNat ∧ x.toNat < 240
  · have e : formOf x = 3 := (form3 x).2 h3
    rw [e]
    have s0 : (x.toNat : Int) / 128 = 1 := by omega
    have s1 : (x.toNat : Int) / 32 = 7 := by omega
    have s2 : (x.toNat : Int) / 16 = 14 := by omega
    clear hf
    go_enter Tryd.func109, Tryd.ntmps109
    go_wp2_with fail
    go_step3
    go_wp2_with fail
    go_step3
    go_wp2_with fail
    obtain ⟨V, hV⟩ : ∃ V, (w.alloc (Obj.cells #[Value.int IntKind.i64 0, Value.int IntKind.i64 0] 143)).alloc (Obj.cells #[Value.int IntKind.i64 0, Value.int IntKind.i64 0] 143) = V := ⟨_, rfl⟩
    have hbV : Below w.heap.size w V := by rw [← hV]; exact (by repeat (first | (with_reducible exact Below.refl _ _) | (with_reducible exact Below.refl _ _) | (with_reducible refine Below.setCell ?_ (by first | omega | (simp; done) | (simp; omega)) _) | (with_reducible refine Below.alloc ?_ (by first | omega | (simp; done) | (simp; omega)) _) | (with_reducible refine Below.drew ?_) | (with_reducible refine below_drewN ?_ _)))
    have b2 : Blk V w.heap.size [.int .i64 0, .int .i64 0] 143 := by rw [← hV]; exact (Blk.new _ _ _).alloc _
    have b4 : Blk V (w.heap.size + 1) [.int .i64 0, .int .i64 0] 143 := by rw [← hV]; exact Blk.new' (w.alloc _) _ _ (by simp)
    rw [hV]
    clear hV
    refine (Tryd_forms V).mono ?_; rintro e w1 ⟨rfl, hb1⟩
    have hN1 := HN.out.ext (hbV.trans (hb1.mono hbV.size))
    have b2 := b2.ext hb1
    have b4 := b4.ext hb1
    have HBEL := Lib.hid (hbV.trans (hb1.mono hbV.size))
    obtain ⟨p2, hp2⟩ : ∃ p, w.heap.size = p := ⟨_, rfl⟩
    rw [hp2] at b2 b4 ⊢
    have HP2 := Lib.hid hp2
    have qn := hN1.cells
    have ln := hN1.lt
    have q2 := b2.cells
    have l2 := b2.lt
    have q4 := b4.cells
    have l4 := b4.lt
    have m2 := b2.marks
    have m4 := b4.marks
    have n2 : p2 ≠ 0 := by omega
    have k0 : p2 ≠ w1.heap.size := by omega
    have k1 : p2 ≠ w1.heap.size + 1 := by omega
    have k2 : p2 ≠ w1.heap.size + 1 + 1 := by omega
    have k3 : p2 ≠ w1.heap.size + 1 + 1 + 1 := by omega
    have k4 : p2 ≠ w1.heap.size + 1 + 1 + 1 + 1 := by omega
    have u0 : p2 + 1 ≠ w1.heap.size := by omega
    have lt_w1_0_0 : p2 < w1.heap.size := by omega
    have lt_w1_0_1 : p2 < w1.heap.size + 1 := by omega
    have lt_w1_0_2 : p2 < w1.heap.size + 1 + 1 := by omega
    have lt_w1_0_3 : p2 < w1.heap.size + 1 + 1 + 1 := by omega
    have lt_w1_0_4 : p2 < w1.heap.size + 1 + 1 + 1 + 1 := by omega
    have lt_w1_0_5 : p2 < w1.heap.size + 1 + 1 + 1 + 1 + 1 := by omega
    have lt_w1_0_6 : p2 < w1.heap.size + 1 + 1 + 1 + 1 + 1 + 1 := by omega
    have HN1 := Lib.hid hN1
    have HB2 := Lib.hid b2
    have HB4 := Lib.hid b4
    clear hbV hb1 hN1 b2 b4 hp2 hN c0 l0 n0 n1 HN
    have j0 := @Tryd_form0
    have j1 := @Tryd_form1
    have j2 := @Tryd_form2
    have j3 := @Tryd_form3
    have j4 := @Tryd_form4
    go_wp2_with fail
    refine wp_loop_rounds 6 ?_
    rw [rounds_succ]
    go_wp2_with fail
    go_quiet (fail)
    go_wp2_with fail
    rw [rounds_succ]
    go_wp2_with fail
    go_quiet (fail)
    go_wp2_with fail
    rw [rounds_succ]
    go_wp2_with fail
    go_quiet (fail)
    go_wp2_with fail
    rw [rounds_succ]
    go_wp2_with fail
    go_quiet (fail)
    go_wp2_with fail
    rw [Exit.noGoto_ret]
    refine bodyPost_ret (Tryd_sizedRes _ _ p2 (.int .i64 0) (.int .i64 0) _ _ (.int .i64 3) ?_ rfl rfl) rfl ⟨by first | rfl | (simp [formBits, formMark]), ?_⟩
    · exact ((((((HB2.out.alloc (Obj.cells #[Value.int .i64 0, Value.int .i64 0] 143)).alloc (Obj.cells #[Value.int .i64 7, Value.int .i64 0] 143)).alloc (Obj.cells #[Value.int .i64 5, Value.int .i64 192] 143)).alloc (Obj.cells #[Value.int .i64 4, Value.int .i64 224] 143)).other (q := p2 + 1) (by omega) 0 (.int .i64 4)).other (q := p2 + 1) (by omega) 1 (.int .i64 224))
    rw [← HP2.out] at *
    have hb := HBEL.out
    exact (by repeat (first | (with_reducible exact Below.refl _ _) | (with_reducible exact Below.refl _ _) | (with_reducible refine Below.setCell ?_ (by first | omega | (simp; done) | (simp; omega)) _) | (with_reducible refine Below.alloc ?_ (by first | omega | (simp; done) | (simp; omega)) _) | (with_reducible refine Below.drew ?_) | (with_reducible refine below_drewN ?_ _) | (with_reducible refine Below.trans ?_ (hb.mono (by first | omega | (simp; done) | (simp; omega))))))
  by_cases h4 : 240 ≤ x.toNat ∧ x.toNat < 248
  · have e : formOf x = 4 := (form4 x).2 h4
    rw [e]
    have s0 : (x.toNat : Int) / 128 = 1 := by omega
    have s1 : (x.toNat : Int) / 32 = 7 := by omega
    have s2 : (x.toNat : Int) / 16 = 15 := by omega
    have s3 : (x.toNat : Int) / 8 = 30 := by omega
    clear hf
    go_enter Tryd.func109, Tryd.ntmps109
    go_wp2_with fail
    go_step3
    go_wp2_with fail
    go_step3
    go_wp2_with fail
    obtain ⟨V, hV⟩ : ∃ V, (w.alloc (Obj.cells #[Value.int IntKind.i64 0, Value.int IntKind.i64 0] 143)).alloc (Obj.cells #[Value.int IntKind.i64 0, Value.int IntKind.i64 0] 143) = V := ⟨_, rfl⟩
    have hbV : Below w.heap.size w V := by rw [← hV]; exact (by repeat (first | (with_reducible exact Below.refl _ _) | (with_reducible exact Below.refl _ _) | (with_reducible refine Below.setCell ?_ (by first | omega | (simp; done) | (simp; omega)) _) | (with_reducible refine Below.alloc ?_ (by first | omega | (simp; done) | (simp; omega)) _) | (with_reducible refine Below.drew ?_) | (with_reducible refine below_drewN ?_ _)))
    have b2 : Blk V w.heap.size [.int .i64 0, .int .i64 0] 143 := by rw [← hV]; exact (Blk.new _ _ _).alloc _
    have b4 : Blk V (w.heap.size + 1) [.int .i64 0, .int .i64 0] 143 := by rw [← hV]; exact Blk.new' (w.alloc _) _ _ (by simp)
    rw [hV]
    clear hV
    refine (Tryd_forms V).mono ?_; rintro e w1 ⟨rfl, hb1⟩
    have hN1 := HN.out.ext (hbV.trans (hb1.mono hbV.size))
    have b2 := b2.ext hb1
    have b4 := b4.ext hb1
    have HBEL := Lib.hid (hbV.trans (hb1.mono hbV.size))
    obtain ⟨p2, hp2⟩ : ∃ p, w.heap.size = p := ⟨_, rfl⟩
    rw [hp2] at b2 b4 ⊢
    have HP2 := Lib.hid hp2
    have qn := hN1.cells
    have ln := hN1.lt
    have q2 := b2.cells
    have l2 := b2.lt
    have q4 := b4.cells
    have l4 := b4.lt
    have m2 := b2.marks
    have m4 := b4.marks
    have n2 : p2 ≠ 0 := by omega
    have k0 : p2 ≠ w1.heap.size := by omega
    have k1 : p2 ≠ w1.heap.size + 1 := by omega
    have k2 : p2 ≠ w1.heap.size + 1 + 1 := by omega
    have k3 : p2 ≠ w1.heap.size + 1 + 1 + 1 := by omega
    have k4 : p2 ≠ w1.heap.size + 1 + 1 + 1 + 1 := by omega
    have u0 : p2 + 1 ≠ w1.heap.size := by omega
    have lt_w1_0_0 : p2 < w1.heap.size := by omega
    have lt_w1_0_1 : p2 < w1.heap.size + 1 := by omega
    have lt_w1_0_2 : p2 < w1.heap.size + 1 + 1 := by omega
    have lt_w1_0_3 : p2 < w1.heap.size + 1 + 1 + 1 := by omega
    have lt_w1_0_4 : p2 < w1.heap.size + 1 + 1 + 1 + 1 := by omega
    have lt_w1_0_5 : p2 < w1.heap.size + 1 + 1 + 1 + 1 + 1 := by omega
    have lt_w1_0_6 : p2 < w1.heap.size + 1 + 1 + 1 + 1 + 1 + 1 := by omega
    have HN1 := Lib.hid hN1
    have HB2 := Lib.hid b2
    have HB4 := Lib.hid b4
    clear hbV hb1 hN1 b2 b4 hp2 hN c0 l0 n0 n1 HN
    have j0 := @Tryd_form0
    have j1 := @Tryd_form1
    have j2 := @Tryd_form2
    have j3 := @Tryd_form3
    have j4 := @Tryd_form4
    go_wp2_with fail
    refine wp_loop_rounds 6 ?_
    rw [rounds_succ]
    go_wp2_with fail
    go_quiet (fail)
    go_wp2_with fail
    rw [rounds_succ]
    go_wp2_with fail
    go_quiet (fail)
    go_wp2_with fail
    rw [rounds_succ]
    go_wp2_with fail
    go_quiet (fail)
    go_wp2_with fail
    rw [rounds_succ]
    go_wp2_with fail
    go_quiet (fail)
    go_wp2_with fail
    rw [rounds_succ]
    go_wp2_with fail
    go_quiet (fail)
    go_wp2_with fail
    rw [Exit.noGoto_ret]
    refine bodyPost_ret (Tryd_sizedRes _ _ p2 (.int .i64 0) (.int .i64 0) _ _ (.int .i64 4) ?_ rfl rfl) rfl ⟨by first | rfl | (simp [formBits, formMark]), ?_⟩
    · exact (((((((HB2.out.alloc (Obj.cells #[Value.int .i64 0, Value.int .i64 0] 143)).alloc (Obj.cells #[Value.int .i64 7, Value.int .i64 0] 143)).alloc (Obj.cells #[Value.int .i64 5, Value.int .i64 192] 143)).alloc (Obj.cells #[Value.int .i64 4, Value.int .i64 224] 143)).alloc (Obj.cells #[Value.int .i64 3, Value.int .i64 240] 143)).other (q := p2 + 1) (by omega) 0 (.int .i64 3)).other (q := p2 + 1) (by omega) 1 (.int .i64 240))
    rw [← HP2.out] at *
    have hb := HBEL.out
    exact (by repeat (first | (with_reducible exact Below.refl _ _) | (with_reducible exact Below.refl _ _) | (with_reducible refine Below.setCell ?_ (by first | omega | (simp; done) | (simp; omega)) _) | (with_reducible refine Below.alloc ?_ (by first | omega | (simp; done) | (simp; omega)) _) | (with_reducible refine Below.drew ?_) | (with_reducible refine below_drewN ?_ _) | (with_reducible refine Below.trans ?_ (hb.mono (by first | omega | (simp; done) | (simp; omega))))))
  have e : formOf x = 0 := by unfold formOf; rw [if_neg h1, if_neg h2, if_neg h3, if_neg h4]
  rw [e]
  have s0 : (x.toNat : Int) / 128 = 1 := by omega
  have s1 : ¬ (x.toNat : Int) / 32 = 6 := by omega
  have s2 : ¬ (x.toNat : Int) / 16 = 14 := by omega
  have s3 : ¬ (x.toNat : Int) / 8 = 30 := by omega
  clear hf h1 h2 h3 h4
  go_enter Tryd.func109, Tryd.ntmps109
  go_wp2_with fail
  go_step3
  go_wp2_with fail
  go_step3
  go_wp2_with fail
  obtain ⟨V, hV⟩ : ∃ V, (w.alloc (Obj.cells #[Value.int IntKind.i64 0, Value.int IntKind.i64 0] 143)).alloc (Obj.cells #[Value.int IntKind.i64 0, Value.int IntKind.i64 0] 143) = V := ⟨_, rfl⟩
  have hbV : Below w.heap.size w V := by rw [← hV]; exact (by repeat (first | (with_reducible exact Below.refl _ _) | (with_reducible exact Below.refl _ _) | (with_reducible refine Below.setCell ?_ (by first | omega | (simp; done) | (simp; omega)) _) | (with_reducible refine Below.alloc ?_ (by first | omega | (simp; done) | (simp; omega)) _) | (with_reducible refine Below.drew ?_) | (with_reducible refine below_drewN ?_ _)))
  have b2 : Blk V w.heap.size [.int .i64 0, .int .i64 0] 143 := by rw [← hV]; exact (Blk.new _ _ _).alloc _
  have b4 : Blk V (w.heap.size + 1) [.int .i64 0, .int .i64 0] 143 := by rw [← hV]; exact Blk.new' (w.alloc _) _ _ (by simp)
  rw [hV]
  clear hV
  refine (Tryd_forms V).mono ?_; rintro e w1 ⟨rfl, hb1⟩
  have hN1 := HN.out.ext (hbV.trans (hb1.mono hbV.size))
  have b2 := b2.ext hb1
  have b4 := b4.ext hb1
  have HBEL := Lib.hid (hbV.trans (hb1.mono hbV.size))
  obtain ⟨p2, hp2⟩ : ∃ p, w.heap.size = p := ⟨_, rfl⟩
  rw [hp2] at b2 b4 ⊢
  have HP2 := Lib.hid hp2
  have qn := hN1.cells
  have ln := hN1.lt
  have q2 := b2.cells
  have l2 := b2.lt
  have q4 := b4.cells
  have l4 := b4.lt
  have m2 := b2.marks
  have m4 := b4.marks
  have n2 : p2 ≠ 0 := by omega
  have k0 : p2 ≠ w1.heap.size := by omega
  have k1 : p2 ≠ w1.heap.size + 1 := by omega
  have k2 : p2 ≠ w1.heap.size + 1 + 1 := by omega
  have k3 : p2 ≠ w1.heap.size + 1 + 1 + 1 := by omega
  have k4 : p2 ≠ w1.heap.size + 1 + 1 + 1 + 1 := by omega
  have u0 : p2 + 1 ≠ w1.heap.size := by omega
  have lt_w1_0_0 : p2 < w1.heap.size := by omega
  have lt_w1_0_1 : p2 < w1.heap.size + 1 := by omega
  have lt_w1_0_2 : p2 < w1.heap.size + 1 + 1 := by omega
  have lt_w1_0_3 : p2 < w1.heap.size + 1 + 1 + 1 := by omega
  have lt_w1_0_4 : p2 < w1.heap.size + 1 + 1 + 1 + 1 := by omega
  have lt_w1_0_5 : p2 < w1.heap.size + 1 + 1 + 1 + 1 + 1 := by omega
  have lt_w1_0_6 : p2 < w1.heap.size + 1 + 1 + 1 + 1 + 1 + 1 := by omega
  have HN1 := Lib.hid hN1
  have HB2 := Lib.hid b2
  have HB4 := Lib.hid b4
  clear hbV hb1 hN1 b2 b4 hp2 hN c0 l0 n0 n1 HN
  have j0 := @Tryd_form0
  have j1 := @Tryd_form1
  have j2 := @Tryd_form2
  have j3 := @Tryd_form3
  have j4 := @Tryd_form4
  go_wp2_with fail
  refine wp_loop_rounds 6 ?_
  rw [rounds_succ]
  go_wp2_with fail
  go_quiet (fail)
  go_wp2_with fail
  rw [rounds_succ]
  go_wp2_with fail
  go_quiet (fail)
  go_wp2_with fail
  rw [rounds_succ]
  go_wp2_with fail
  go_quiet (fail)
  go_wp2_with fail
  rw [rounds_succ]
  go_wp2_with fail
  go_quiet (fail)
  go_wp2_with fail
  rw [rounds_succ]
  go_wp2_with fail
  go_quiet (fail)
  go_wp2_with fail
  rw [rounds_succ]
  go_wp2_with fail
  rw [Exit.noGoto_ret]
  refine bodyPost_ret (Tryd_sizedRes _ _ p2 (.int .i64 0) (.int .i64 0) _ _ (.int .i64 0) ?_ rfl rfl) rfl ⟨by first | rfl | (simp [formBits, formMark]), ?_⟩
  · exact (((((HB2.out.alloc (Obj.cells #[Value.int .i64 0, Value.int .i64 0] 143)).alloc (Obj.cells #[Value.int .i64 7, Value.int .i64 0] 143)).alloc (Obj.cells #[Value.int .i64 5, Value.int .i64 192] 143)).alloc (Obj.cells #[Value.int .i64 4, Value.int .i64 224] 143)).alloc (Obj.cells #[Value.int .i64 3, Value.int .i64 240] 143))
  rw [← HP2.out] at *
  have hb := HBEL.out
  exact (by repeat (first | (with_reducible exact Below.refl _ _) | (with_reducible exact Below.refl _ _) | (with_reducible refine Below.setCell ?_ (by first | omega | (simp; done) | (simp; omega)) _) | (with_reducible refine Below.alloc ?_ (by first | omega | (simp; done) | (simp; omega)) _) | (with_reducible refine Below.drew ?_) | (with_reducible refine below_drewN ?_ _) | (with_reducible refine Below.trans ?_ (hb.mono (by first | omega | (simp; done) | (simp; omega))))))
end Go.Proofs.YtmcmknndhppljaaDoor

namespace Go.Dav
set_option linter.unusedVariables false
set_option linter.unusedSimpArgs false
open Go Go.RowKit
theorem nextN_no {b : List UInt8} {x : UInt8} (hx : b[0]? = some x) (h : formOf x = 0 ∨ b.length < formOf x) : nextN b = (0, 0) := by
  have e : b.headD 0 = x := by cases b with
    | nil => cases hx
    | cons y ys => cases hx; rfl
  unfold nextN
  rw [e]
  exact if_pos h
end Go.Dav
namespace Go.Proofs.YtmcmknndhppljaaDoor
set_option linter.unusedVariables false
set_option linter.unusedSimpArgs false
open Go.RowKit Go.Dav
attribute [local go_sem] Gives ite_val ite_val_true

set_option maxRecDepth 8000 in
set_option maxHeartbeats 4000000 in
theorem Tryd_next_no (ba : Option Addr) (bl bc : Nat) (b : List UInt8) (x : UInt8) (w : World) (hb : BytesAt w ba bl bc b) (hx : b[0]? = some x) (hN : GlobAt w 0 [.int .i64 0, .int .i64 0] 143) (hno : formOf x = 0) :
    Calls Tryd.prog 98 #[.slice ba bl bc] w fun e w' => e = .returned (.tuple #[.int .i64 0, .int .i64 0]) ∧ Below w.heap.size w w' := by
  have hbl := hb.hlen
  have hbf := hb.hfew
  have hl := (List.getElem?_eq_some_iff.1 hx).1
  obtain ⟨bb, bo, rfl, hbb, hc⟩ := hb.hat 0 x hx
  rw [Nat.add_zero] at hc
  have HC := Lib.hid (Tryd_sized x w hN)
  have g1 : (0 : Int) < (bl : Int) := by omega
  have HN := Lib.hid hN
  have HNO := Lib.hid hno
  clear hb hx hN hno
  go_enter Tryd.func98, Tryd.ntmps98
  go_wp2_with fail
  refine HC.out.mono ?_; rintro e w1 ⟨rfl, hb1⟩
  rw [HNO.out]
  have hN1 := HN.out.ext hb1
  have qn := hN1.cells
  have ln := hN1.lt
  have HB1 := Lib.hid hb1
  clear hb1 hN1 HC
  go_wp2
  go_ret2
  exact ⟨rfl, by have h := HB1.out; have hs := h.size; exact (by repeat (first | (with_reducible exact Below.refl _ _) | (with_reducible exact Below.refl _ _) | (with_reducible refine Below.setCell ?_ (by first | omega | (simp; done) | (simp; omega)) _) | (with_reducible refine Below.alloc ?_ (by first | omega | (simp; done) | (simp; omega)) _) | (with_reducible refine Below.drew ?_) | (with_reducible refine below_drewN ?_ _) | (with_reducible refine Below.trans ?_ (h.mono (by first | omega | (simp; done) | (simp; omega))))))⟩

set_option maxRecDepth 8000 in
set_option maxHeartbeats 4000000 in
theorem Tryd_next_short (ba : Option Addr) (bl bc : Nat) (b : List UInt8) (x : UInt8) (w : World) (hb : BytesAt w ba bl bc b) (hx : b[0]? = some x) (hN : GlobAt w 0 [.int .i64 0, .int .i64 0] 143) (hno : bl < formOf x) :
    Calls Tryd.prog 98 #[.slice ba bl bc] w fun e w' => e = .returned (.tuple #[.int .i64 0, .int .i64 0]) ∧ Below w.heap.size w w' := by
  have hbl := hb.hlen
  have hbf := hb.hfew
  have hl := (List.getElem?_eq_some_iff.1 hx).1
  obtain ⟨bb, bo, rfl, hbb, hc⟩ := hb.hat 0 x hx
  rw [Nat.add_zero] at hc
  have h4 := formOf_le x
  have HC := Lib.hid (Tryd_sized x w hN)
  have g1 : (0 : Int) < (bl : Int) := by omega
  have HN := Lib.hid hN
  clear hb hx hN
  obtain ⟨k, hk⟩ : ∃ k, formOf x = k := ⟨_, rfl⟩
  rw [hk] at HC hno h4
  clear hk
  rcases (by omega : k = 1 ∨ k = 2 ∨ k = 3 ∨ k = 4) with rfl | rfl | rfl | rfl
  · omega
  ·
    have g2 : (bl : Int) < 2 := by omega
    have HC2 := Lib.hid (show Calls Tryd.prog 109 #[.int .u8 (x.toNat : Int)] w fun e w' => e = .returned (.tuple #[.agg #[.int .i64 5, .int .i64 192], .int .i64 2]) ∧ Below w.heap.size w w' from HC.out)
    clear hno h4 HC
    go_enter Tryd.func98, Tryd.ntmps98
    go_wp2_with fail
    refine HC2.out.mono ?_; rintro e w1 ⟨rfl, hb1⟩
    have hN1 := HN.out.ext hb1
    have qn := hN1.cells
    have ln := hN1.lt
    have HB1 := Lib.hid hb1
    clear hb1 hN1 HC2
    go_wp2
    go_ret2
    exact ⟨rfl, by have h := HB1.out; have hs := h.size; exact (by repeat (first | (with_reducible exact Below.refl _ _) | (with_reducible exact Below.refl _ _) | (with_reducible refine Below.setCell ?_ (by first | omega | (simp; done) | (simp; omega)) _) | (with_reducible refine Below.alloc ?_ (by first | omega | (simp; done) | (simp; omega)) _) | (with_reducible refine Below.drew ?_) | (with_reducible refine below_drewN ?_ _) | (with_reducible refine Below.trans ?_ (h.mono (by first | omega | (simp; done) | (simp; omega))))))⟩
  ·
    have g2 : (bl : Int) < 3 := by omega
    have HC2 := Lib.hid (show Calls Tryd.prog 109 #[.int .u8 (x.toNat : Int)] w fun e w' => e = .returned (.tuple #[.agg #[.int .i64 4, .int .i64 224], .int .i64 3]) ∧ Below w.heap.size w w' from HC.out)
    clear hno h4 HC
    go_enter Tryd.func98, Tryd.ntmps98
    go_wp2_with fail
    refine HC2.out.mono ?_; rintro e w1 ⟨rfl, hb1⟩
    have hN1 := HN.out.ext hb1
    have qn := hN1.cells
    have ln := hN1.lt
    have HB1 := Lib.hid hb1
    clear hb1 hN1 HC2
    go_wp2
    go_ret2
    exact ⟨rfl, by have h := HB1.out; have hs := h.size; exact (by repeat (first | (with_reducible exact Below.refl _ _) | (with_reducible exact Below.refl _ _) | (with_reducible refine Below.setCell ?_ (by first | omega | (simp; done) | (simp; omega)) _) | (with_reducible refine Below.alloc ?_ (by first | omega | (simp; done) | (simp; omega)) _) | (with_reducible refine Below.drew ?_) | (with_reducible refine below_drewN ?_ _) | (with_reducible refine Below.trans ?_ (h.mono (by first | omega | (simp; done) | (simp; omega))))))⟩
  ·
    have g2 : (bl : Int) < 4 := by omega
    have HC2 := Lib.hid (show Calls Tryd.prog 109 #[.int .u8 (x.toNat : Int)] w fun e w' => e = .returned (.tuple #[.agg #[.int .i64 3, .int .i64 240], .int .i64 4]) ∧ Below w.heap.size w w' from HC.out)
    clear hno h4 HC
    go_enter Tryd.func98, Tryd.ntmps98
    go_wp2_with fail
    refine HC2.out.mono ?_; rintro e w1 ⟨rfl, hb1⟩
    have hN1 := HN.out.ext hb1
    have qn := hN1.cells
    have ln := hN1.lt
    have HB1 := Lib.hid hb1
    clear hb1 hN1 HC2
    go_wp2
    go_ret2
    exact ⟨rfl, by have h := HB1.out; have hs := h.size; exact (by repeat (first | (with_reducible exact Below.refl _ _) | (with_reducible exact Below.refl _ _) | (with_reducible refine Below.setCell ?_ (by first | omega | (simp; done) | (simp; omega)) _) | (with_reducible refine Below.alloc ?_ (by first | omega | (simp; done) | (simp; omega)) _) | (with_reducible refine Below.drew ?_) | (with_reducible refine below_drewN ?_ _) | (with_reducible refine Below.trans ?_ (h.mono (by first | omega | (simp; done) | (simp; omega))))))⟩
end Go.Proofs.YtmcmknndhppljaaDoor

namespace Go.Dav
set_option linter.unusedVariables false
set_option linter.unusedSimpArgs false
open Go Go.RowKit
theorem and_mask (a j : Nat) (ha : a < 2 ^ 62) (hj : j ≤ 62) : bits .and .i64 (a : Int) ((2 ^ j - 1 : Nat) : Int) = ((a % 2 ^ j : Nat) : Int) := by
  have hlt : 2 ^ j - 1 < 2 ^ 62 := by
    have := Nat.pow_le_pow_right (show 0 < 2 by decide) hj
    have := Nat.two_pow_pos j
    omega
  have h := (bits_nat .i64 62 (by decide) (fun n h0 h1 => IntWalk.i64_in _ (by omega)) a (2 ^ j - 1) ha hlt).1
  rw [h, Nat.and_two_pow_sub_one_eq_mod]
theorem and_mask8 (a : Nat) (ha : a < 256) : bits .and .u8 (a : Int) 63 = (a : Int) % 64 := by
  have h := (bits_nat .u8 8 (by decide) (fun n h0 h1 => by rw [IntKind.wrap_u8]; omega) a 63 ha (by decide)).1
  rw [show a &&& 63 = a % 64 from Nat.and_two_pow_sub_one_eq_mod a 6] at h
  rw [show (63 : Int) = ((63 : Nat) : Int) from rfl, h]; omega
theorem or_low (a b : Nat) (ha : a < 2 ^ 50) (hb : b < 64) : bits .or .i64 ((a : Int) * 64) (b : Int) = (a : Int) * 64 + (b : Int) := by
  have h := (bits_nat .i64 62 (by decide) (fun n h0 h1 => IntWalk.i64_in _ (by omega)) (a * 64) b (by omega) (by omega)).2
  have e : a * 64 ||| b = a * 64 + b := by
    have := Nat.two_pow_add_eq_or_of_lt (i := 6) (show b < 2 ^ 6 from hb) a
    rw [Nat.mul_comm a 64]
    exact this.symm
  rw [e] at h
  rw [show (a : Int) * 64 = ((a * 64 : Nat) : Int) by omega, h]; omega
/-- Do the bytes behind the first go on, up to the i-th? -/
theorem conts_iff (b : List UInt8) (k : Nat) : contsOk b k = true ↔ ∀ j x, 1 ≤ j → j < k → b[j]? = some x → x.toNat / 64 = 2 := by
  unfold contsOk
  rw [List.all_eq_true]
  constructor
  · intro h j x h1 h2 hx
    have : x ∈ (b.take k).drop 1 := by
      refine List.mem_iff_getElem?.2 ⟨j - 1, ?_⟩
      rw [List.getElem?_drop, List.getElem?_take, if_pos (by omega), show 1 + (j - 1) = j by omega]; exact hx
    have := h x this
    simpa using this
  · intro h x hx
    obtain ⟨j, hj⟩ := List.mem_iff_getElem?.1 hx
    rw [List.getElem?_drop, List.getElem?_take] at hj
    by_cases hk : 1 + j < k
    · rw [if_pos hk] at hj
      have := h (1 + j) x (by omega) hk hj
      simpa using this
    · rw [if_neg hk] at hj; cases hj
theorem nextN_k {b : List UInt8} {x : UInt8} {k : Nat} (hx : b[0]? = some x) (hk : formOf x = k) (h1 : 1 ≤ k) (hl : k ≤ b.length) : nextN b = if contsOk b k = false then (0, 0) else if sizeOfCp (cpAt b k) ≠ k then (0, 0) else (cpAt b k, k) := by
  have e : b.headD 0 = x := by cases b with
    | nil => cases hx
    | cons y ys => cases hx; rfl
  unfold nextN
  rw [e, hk]
  exact if_neg (by omega)
end Go.Dav
namespace Go.Proofs.YtmcmknndhppljaaDoor
set_option linter.unusedVariables false
set_option linter.unusedSimpArgs false
open Go.RowKit Go.Dav
attribute [local go_sem] Gives ite_val ite_val_true

set_option maxRecDepth 8000 in
set_option maxHeartbeats 8000000 in
theorem Tryd_next_yes1 (ba : Option Addr) (bl bc : Nat) (b : List UInt8) (x : UInt8) (w : World) (hb : BytesAt w ba bl bc b) (hx : b[0]? = some x) (hN : GlobAt w 0 [.int .i64 0, .int .i64 0] 143) (hk : formOf x = 1) (hl : 1 ≤ bl) :
    Calls Tryd.prog 98 #[.slice ba bl bc] w fun e w' => e = .returned (.tuple #[.int .i64 ((nextN b).1 : Int), .int .i64 ((nextN b).2 : Int)]) ∧ Below w.heap.size w w' := by
  have hbl := hb.hlen
  have hr1 := nextN_k hx hk (by omega) (by omega)
  obtain ⟨r, hr⟩ : ∃ r, nextN b = r := ⟨_, rfl⟩
  rw [hr] at hr1 ⊢
  have HR := Lib.hid hr1
  have hbf := hb.hfew
  have hbc := hb.hcap
  have HB := Lib.hid hb
  obtain ⟨bb, bo, rfl, hbb, hc⟩ := hb.hat 0 x hx
  rw [Nat.add_zero] at hc
  have hx8 := x.toNat_lt
  have HCF := Lib.hid (show bits .and .i64 (x.toNat : Int) 127 = ((cpFirst b 1 : Nat) : Int) by
    have h := and_mask x.toNat 7 (by omega) (by omega)
    have e : cpFirst b 1 = x.toNat % 2 ^ 7 := by
      cases b with
      | nil => cases hx
      | cons y ys =>
        cases hx
        have := form1 x
        unfold cpFirst
        simp <;> omega
    rw [e]; exact h)
  have HC := (Tryd_sized x w hN)
  rw [hk] at HC
  have g1 : (0 : Int) < (bl : Int) := by omega
  have HN := Lib.hid hN
  have g2 : ¬ (bl : Int) < 1 := by omega
  have HC2 := Lib.hid (show Calls Tryd.prog 109 #[.int .u8 (x.toNat : Int)] w fun e w' => e = .returned (.tuple #[.agg #[.int .i64 7, .int .i64 0], .int .i64 1]) ∧ Below w.heap.size w w' from HC)
  have g3 : (1 : Int) ≤ (bl : Int) := by omega
  have g4 : (1 : Int) ≤ (bc : Int) := by omega
  have g5 : 1 ≤ bc := by omega
  obtain ⟨c1, hc1⟩ : ∃ c, cpFirst b 1 = c := ⟨_, rfl⟩
  have hmask := HCF.out
  rw [hc1] at hmask
  have HC1 := Lib.hid hc1
  have hlc : c1 < 256 := by rw [← hc1]; exact (cpFirst_le b 1).1
  clear hb hx hN HC hk hr hr1 HCF hc1
  go_enter Tryd.func98, Tryd.ntmps98
  go_wp2_with fail
  refine HC2.out.mono ?_; rintro e w1 ⟨rfl, hb1⟩
  have hN1 := HN.out.ext hb1
  have qn := hN1.cells
  have ln := hN1.lt
  have lb : bb < w1.heap.size := Nat.lt_of_lt_of_le hbb hb1.size
  have hcw := (hb1.cell (p := ⟨bb, bo, none⟩) hbb).trans hc
  have HB1 := Lib.hid hb1
  clear hb1 hN1 HC2 hc
  go_wp2_with fail
  go_quiet (fail)
  go_wp2_with fail
  all_goals
    go_loopw [38, 6, 8] (fun ix px cx wi => ∃ i : Nat, i ≤ 0 ∧ ix = .int .i64 (i : Int) ∧ px = .int .i64 ((cpTo b 1 (i + 1) : Nat) : Int) ∧ Below w.heap.size w wi ∧ ∀ m y, 1 ≤ m → m ≤ i → b[m]? = some y → y.toNat / 64 = 2) (fun ix _ _ _ => 0 - (intOf ix).toNat)
    case atStart => exact ⟨0, by omega, by go_num, by rw [cpTo_one, HC1.out], by have h := HB1.out; have hs := h.size; exact (by repeat (first | (with_reducible exact Below.refl _ _) | (with_reducible exact Below.refl _ _) | (with_reducible refine Below.setCell ?_ (by first | omega | (simp; done) | (simp; omega)) _) | (with_reducible refine Below.alloc ?_ (by first | omega | (simp; done) | (simp; omega)) _) | (with_reducible refine Below.drew ?_) | (with_reducible refine below_drewN ?_ _) | (with_reducible refine Below.trans ?_ (h.mono (by first | omega | (simp; done) | (simp; omega)))))), fun m y h1 h2 => by omega⟩
    case round =>
      obtain ⟨i, hij, rfl, rfl, hbi, hall⟩ := hrel
      have HBI := Lib.hid hbi
      have HALL := Lib.hid hall
      clear hbi hall qn ln
      by_cases hin : i < 0
      · try exact absurd hin (Nat.not_lt_zero i)
        all_goals
          obtain ⟨y, hy⟩ : ∃ y, b[i + 1]? = some y := ⟨_, List.getElem?_eq_getElem (by omega)⟩
          obtain ⟨bb2, bo2, e2, hbb2, hbcell2⟩ := (HB.out.ext HBI.out).hat (i + 1) y hy
          cases e2
          rw [show bo + (i + 1) = bo + 1 + i by omega] at hbcell2
          have hlt := cpTo_lt b 1 (i + 1) (by omega) (by omega) (by omega)
          have hs := cpTo_succ (n := 1) (by omega) hy
          obtain ⟨c, hc⟩ : ∃ c, cpTo b 1 (i + 1) = c := ⟨_, rfl⟩
          rw [hc] at hlt hs ⊢
          have hy8 := y.toNat_lt
          have hm := and_mask8 y.toNat hy8
          have ho := or_low c (y.toNat % 64) (by omega) (Nat.mod_lt _ (by omega))
          rw [show ((y.toNat % 64 : Nat) : Int) = (y.toNat : Int) % 64 by omega] at ho
          have HS := Lib.hid hs
          have HY := Lib.hid hy
          have HIN := Lib.hid hin
          have k1 : (i : Int) < 0 := by omega
          clear hs hc hin hij hy
          by_cases h2 : y.toNat / 64 = 2
          · have H2 := Lib.hid h2
            have k2 : (y.toNat : Int) / 64 = 2 := by omega
            clear h2
            go_wp2_with fail
            go_roundw
            case rel => exact ⟨i + 1, HIN.out, by go_num, by rw [HS.out]; simp, HBI.out, fun m z h1 h3 hz => by
              by_cases hm : m = i + 1
              · subst hm; rw [HY.out] at hz; cases hz; exact H2.out
              · exact HALL.out m z h1 (by omega) hz⟩
            case measure => have := HIN.out; simp [intOf]; omega
          · have k2 : ¬ (y.toNat : Int) / 64 = 2 := by omega
            have e : r = (0, 0) := by
              rw [HR.out, if_pos]
              cases hco : contsOk b 1 with
              | false => rfl
              | true => exact (h2 ((conts_iff b 1).1 hco (i + 1) y (by omega) (by have := HIN.out; omega) HY.out)).elim
            clear h2
            subst e
            go_wp2
            go_ret2
            exact ⟨rfl, by have h := HBI.out; have hs := h.size; exact (by repeat (first | (with_reducible exact Below.refl _ _) | (with_reducible exact Below.refl _ _) | (with_reducible refine Below.setCell ?_ (by first | omega | (simp; done) | (simp; omega)) _) | (with_reducible refine Below.alloc ?_ (by first | omega | (simp; done) | (simp; omega)) _) | (with_reducible refine Below.drew ?_) | (with_reducible refine below_drewN ?_ _) | (with_reducible refine Below.trans ?_ (h.mono (by first | omega | (simp; done) | (simp; omega))))))⟩
      · obtain rfl : i = 0 := by omega
        have HCO := Lib.hid (show contsOk b 1 = true from (conts_iff b 1).2 fun m y h1 h2 hy => HALL.out m y h1 (by omega) hy)
        obtain ⟨c, hc⟩ : ∃ c, cpAt b 1 = c := ⟨_, rfl⟩
        have hc' : cpTo b 1 (0 + 1) = c := hc
        rw [hc'] at ⊢
        have hr : r = if sizeOfCp c ≠ 1 then (0, 0) else (c, 1) := by rw [HR.out, if_neg (by rw [HCO.out]; decide), hc]
        have HRR := Lib.hid hr
        clear hin hij hc hc' hr
        go_wp2_with fail
        refine (Tryd_cpSize c wr).mono ?_; rintro e w2 ⟨rfl, hb2⟩
        have HB2 := Lib.hid (HBI.out.trans (hb2.mono HBI.out.size))
        clear hb2
        obtain ⟨z, hz⟩ : ∃ z, sizeOfCp c = z := ⟨_, rfl⟩
        rw [hz] at HRR ⊢
        clear hz
        by_cases hzk : z = 1
        · subst hzk
          have e : r = (c, 1) := HRR.out
          subst e
          go_wp2
          go_ret2
          exact ⟨rfl, by have h := HB2.out; have hs := h.size; exact (by repeat (first | (with_reducible exact Below.refl _ _) | (with_reducible exact Below.refl _ _) | (with_reducible refine Below.setCell ?_ (by first | omega | (simp; done) | (simp; omega)) _) | (with_reducible refine Below.alloc ?_ (by first | omega | (simp; done) | (simp; omega)) _) | (with_reducible refine Below.drew ?_) | (with_reducible refine below_drewN ?_ _) | (with_reducible refine Below.trans ?_ (h.mono (by first | omega | (simp; done) | (simp; omega))))))⟩
        · have e : r = (0, 0) := by rw [HRR.out, if_pos hzk]
          have k3 : ¬ (z : Int) = 1 := by omega
          clear hzk
          subst e
          go_wp2
          go_ret2
          exact ⟨rfl, by have h := HB2.out; have hs := h.size; exact (by repeat (first | (with_reducible exact Below.refl _ _) | (with_reducible exact Below.refl _ _) | (with_reducible refine Below.setCell ?_ (by first | omega | (simp; done) | (simp; omega)) _) | (with_reducible refine Below.alloc ?_ (by first | omega | (simp; done) | (simp; omega)) _) | (with_reducible refine Below.drew ?_) | (with_reducible refine below_drewN ?_ _) | (with_reducible refine Below.trans ?_ (h.mono (by first | omega | (simp; done) | (simp; omega))))))⟩
set_option maxRecDepth 8000 in
set_option maxHeartbeats 8000000 in
theorem Tryd_next_yes2 (ba : Option Addr) (bl bc : Nat) (b : List UInt8) (x : UInt8) (w : World) (hb : BytesAt w ba bl bc b) (hx : b[0]? = some x) (hN : GlobAt w 0 [.int .i64 0, .int .i64 0] 143) (hk : formOf x = 2) (hl : 2 ≤ bl) :
    Calls Tryd.prog 98 #[.slice ba bl bc] w fun e w' => e = .returned (.tuple #[.int .i64 ((nextN b).1 : Int), .int .i64 ((nextN b).2 : Int)]) ∧ Below w.heap.size w w' := by
  have hbl := hb.hlen
  have hr1 := nextN_k hx hk (by omega) (by omega)
  obtain ⟨r, hr⟩ : ∃ r, nextN b = r := ⟨_, rfl⟩
  rw [hr] at hr1 ⊢
  have HR := Lib.hid hr1
  have hbf := hb.hfew
  have hbc := hb.hcap
  have HB := Lib.hid hb
  obtain ⟨bb, bo, rfl, hbb, hc⟩ := hb.hat 0 x hx
  rw [Nat.add_zero] at hc
  have hx8 := x.toNat_lt
  have HCF := Lib.hid (show bits .and .i64 (x.toNat : Int) 31 = ((cpFirst b 2 : Nat) : Int) by
    have h := and_mask x.toNat 5 (by omega) (by omega)
    have e : cpFirst b 2 = x.toNat % 2 ^ 5 := by
      cases b with
      | nil => cases hx
      | cons y ys =>
        cases hx
        have := form1 x
        unfold cpFirst
        simp <;> omega
    rw [e]; exact h)
  have HC := (Tryd_sized x w hN)
  rw [hk] at HC
  have g1 : (0 : Int) < (bl : Int) := by omega
  have HN := Lib.hid hN
  have g2 : ¬ (bl : Int) < 2 := by omega
  have HC2 := Lib.hid (show Calls Tryd.prog 109 #[.int .u8 (x.toNat : Int)] w fun e w' => e = .returned (.tuple #[.agg #[.int .i64 5, .int .i64 192], .int .i64 2]) ∧ Below w.heap.size w w' from HC)
  have g3 : (2 : Int) ≤ (bl : Int) := by omega
  have g4 : (2 : Int) ≤ (bc : Int) := by omega
  have g5 : 2 ≤ bc := by omega
  obtain ⟨c1, hc1⟩ : ∃ c, cpFirst b 2 = c := ⟨_, rfl⟩
  have hmask := HCF.out
  rw [hc1] at hmask
  have HC1 := Lib.hid hc1
  have hlc : c1 < 256 := by rw [← hc1]; exact (cpFirst_le b 2).1
  clear hb hx hN HC hk hr hr1 HCF hc1
  go_enter Tryd.func98, Tryd.ntmps98
  go_wp2_with fail
  refine HC2.out.mono ?_; rintro e w1 ⟨rfl, hb1⟩
  have hN1 := HN.out.ext hb1
  have qn := hN1.cells
  have ln := hN1.lt
  have lb : bb < w1.heap.size := Nat.lt_of_lt_of_le hbb hb1.size
  have hcw := (hb1.cell (p := ⟨bb, bo, none⟩) hbb).trans hc
  have HB1 := Lib.hid hb1
  clear hb1 hN1 HC2 hc
  go_wp2_with fail
  go_quiet (fail)
  go_wp2_with fail
  all_goals
    go_loopw [38, 6, 8] (fun ix px cx wi => ∃ i : Nat, i ≤ 1 ∧ ix = .int .i64 (i : Int) ∧ px = .int .i64 ((cpTo b 2 (i + 1) : Nat) : Int) ∧ Below w.heap.size w wi ∧ ∀ m y, 1 ≤ m → m ≤ i → b[m]? = some y → y.toNat / 64 = 2) (fun ix _ _ _ => 1 - (intOf ix).toNat)
    case atStart => exact ⟨0, by omega, by go_num, by rw [cpTo_one, HC1.out], by have h := HB1.out; have hs := h.size; exact (by repeat (first | (with_reducible exact Below.refl _ _) | (with_reducible exact Below.refl _ _) | (with_reducible refine Below.setCell ?_ (by first | omega | (simp; done) | (simp; omega)) _) | (with_reducible refine Below.alloc ?_ (by first | omega | (simp; done) | (simp; omega)) _) | (with_reducible refine Below.drew ?_) | (with_reducible refine below_drewN ?_ _) | (with_reducible refine Below.trans ?_ (h.mono (by first | omega | (simp; done) | (simp; omega)))))), fun m y h1 h2 => by omega⟩
    case round =>
      obtain ⟨i, hij, rfl, rfl, hbi, hall⟩ := hrel
      have HBI := Lib.hid hbi
      have HALL := Lib.hid hall
      clear hbi hall qn ln
      by_cases hin : i < 1
      · try exact absurd hin (Nat.not_lt_zero i)
        all_goals
          obtain ⟨y, hy⟩ : ∃ y, b[i + 1]? = some y := ⟨_, List.getElem?_eq_getElem (by omega)⟩
          obtain ⟨bb2, bo2, e2, hbb2, hbcell2⟩ := (HB.out.ext HBI.out).hat (i + 1) y hy
          cases e2
          rw [show bo + (i + 1) = bo + 1 + i by omega] at hbcell2
          have hlt := cpTo_lt b 2 (i + 1) (by omega) (by omega) (by omega)
          have hs := cpTo_succ (n := 2) (by omega) hy
          obtain ⟨c, hc⟩ : ∃ c, cpTo b 2 (i + 1) = c := ⟨_, rfl⟩
          rw [hc] at hlt hs ⊢
          have hy8 := y.toNat_lt
          have hm := and_mask8 y.toNat hy8
          have ho := or_low c (y.toNat % 64) (by omega) (Nat.mod_lt _ (by omega))
          rw [show ((y.toNat % 64 : Nat) : Int) = (y.toNat : Int) % 64 by omega] at ho
          have HS := Lib.hid hs
          have HY := Lib.hid hy
          have HIN := Lib.hid hin
          have k1 : (i : Int) < 1 := by omega
          clear hs hc hin hij hy
          by_cases h2 : y.toNat / 64 = 2
          · have H2 := Lib.hid h2
            have k2 : (y.toNat : Int) / 64 = 2 := by omega
            clear h2
            go_wp2_with fail
            go_roundw
            case rel => exact ⟨i + 1, HIN.out, by go_num, by rw [HS.out]; simp, HBI.out, fun m z h1 h3 hz => by
              by_cases hm : m = i + 1
              · subst hm; rw [HY.out] at hz; cases hz; exact H2.out
              · exact HALL.out m z h1 (by omega) hz⟩
            case measure => have := HIN.out; simp [intOf]; omega
          · have k2 : ¬ (y.toNat : Int) / 64 = 2 := by omega
            have e : r = (0, 0) := by
              rw [HR.out, if_pos]
              cases hco : contsOk b 2 with
              | false => rfl
              | true => exact (h2 ((conts_iff b 2).1 hco (i + 1) y (by omega) (by have := HIN.out; omega) HY.out)).elim
            clear h2
            subst e
            go_wp2
            go_ret2
            exact ⟨rfl, by have h := HBI.out; have hs := h.size; exact (by repeat (first | (with_reducible exact Below.refl _ _) | (with_reducible exact Below.refl _ _) | (with_reducible refine Below.setCell ?_ (by first | omega | (simp; done) | (simp; omega)) _) | (with_reducible refine Below.alloc ?_ (by first | omega | (simp; done) | (simp; omega)) _) | (with_reducible refine Below.drew ?_) | (with_reducible refine below_drewN ?_ _) | (with_reducible refine Below.trans ?_ (h.mono (by first | omega | (simp; done) | (simp; omega))))))⟩
      · obtain rfl : i = 1 := by omega
        have HCO := Lib.hid (show contsOk b 2 = true from (conts_iff b 2).2 fun m y h1 h2 hy => HALL.out m y h1 (by omega) hy)
        obtain ⟨c, hc⟩ : ∃ c, cpAt b 2 = c := ⟨_, rfl⟩
        have hc' : cpTo b 2 (1 + 1) = c := hc
        rw [hc'] at ⊢
        have hr : r = if sizeOfCp c ≠ 2 then (0, 0) else (c, 2) := by rw [HR.out, if_neg (by rw [HCO.out]; decide), hc]
        have HRR := Lib.hid hr
        clear hin hij hc hc' hr
        go_wp2_with fail
        refine (Tryd_cpSize c wr).mono ?_; rintro e w2 ⟨rfl, hb2⟩
        have HB2 := Lib.hid (HBI.out.trans (hb2.mono HBI.out.size))
        clear hb2
        obtain ⟨z, hz⟩ : ∃ z, sizeOfCp c = z := ⟨_, rfl⟩
        rw [hz] at HRR ⊢
        clear hz
        by_cases hzk : z = 2
        · subst hzk
          have e : r = (c, 2) := HRR.out
          subst e
          go_wp2
          go_ret2
          exact ⟨rfl, by have h := HB2.out; have hs := h.size; exact (by repeat (first | (with_reducible exact Below.refl _ _) | (with_reducible exact Below.refl _ _) | (with_reducible refine Below.setCell ?_ (by first | omega | (simp; done) | (simp; omega)) _) | (with_reducible refine Below.alloc ?_ (by first | omega | (simp; done) | (simp; omega)) _) | (with_reducible refine Below.drew ?_) | (with_reducible refine below_drewN ?_ _) | (with_reducible refine Below.trans ?_ (h.mono (by first | omega | (simp; done) | (simp; omega))))))⟩
        · have e : r = (0, 0) := by rw [HRR.out, if_pos hzk]
          have k3 : ¬ (z : Int) = 2 := by omega
          clear hzk
          subst e
          go_wp2
          go_ret2
          exact ⟨rfl, by have h := HB2.out; have hs := h.size; exact (by repeat (first | (with_reducible exact Below.refl _ _) | (with_reducible exact Below.refl _ _) | (with_reducible refine Below.setCell ?_ (by first | omega | (simp; done) | (simp; omega)) _) | (with_reducible refine Below.alloc ?_ (by first | omega | (simp; done) | (simp; omega)) _) | (with_reducible refine Below.drew ?_) | (with_reducible refine below_drewN ?_ _) | (with_reducible refine Below.trans ?_ (h.mono (by first | omega | (simp; done) | (simp; omega))))))⟩
set_option maxRecDepth 8000 in
set_option maxHeartbeats 8000000 in
theorem Tryd_next_yes3 (ba : Option Addr) (bl bc : Nat) (b : List UInt8) (x : UInt8) (w : World) (hb : BytesAt w ba bl bc b) (hx : b[0]? = some x) (hN : GlobAt w 0 [.int .i64 0, .int .i64 0] 143) (hk : formOf x = 3) (hl : 3 ≤ bl) :
    Calls Tryd.prog 98 #[.slice ba bl bc] w fun e w' => e = .returned (.tuple #[.int .i64 ((nextN b).1 : Int), .int .i64 ((nextN b).2 : Int)]) ∧ Below w.heap.size w w' := by
  have hbl := hb.hlen
  have hr1 := nextN_k hx hk (by omega) (by omega)
  obtain ⟨r, hr⟩ : ∃ r, nextN b = r := ⟨_, rfl⟩
  rw [hr] at hr1 ⊢
  have HR := Lib.hid hr1
  have hbf := hb.hfew
  have hbc := hb.hcap
  have HB := Lib.hid hb
  obtain ⟨bb, bo, rfl, hbb, hc⟩ := hb.hat 0 x hx
  rw [Nat.add_zero] at hc
  have hx8 := x.toNat_lt
  have HCF := Lib.hid (show bits .and .i64 (x.toNat : Int) 15 = ((cpFirst b 3 : Nat) : Int) by
    have h := and_mask x.toNat 4 (by omega) (by omega)
    have e : cpFirst b 3 = x.toNat % 2 ^ 4 := by
      cases b with
      | nil => cases hx
      | cons y ys =>
        cases hx
        have := form1 x
        unfold cpFirst
        simp <;> omega
    rw [e]; exact h)
  have HC := (Tryd_sized x w hN)
  rw [hk] at HC
  have g1 : (0 : Int) < (bl : Int) := by omega
  have HN := Lib.hid hN
  have g2 : ¬ (bl : Int) < 3 := by omega
  have HC2 := Lib.hid (show Calls Tryd.prog 109 #[.int .u8 (x.toNat : Int)] w fun e w' => e = .returned (.tuple #[.agg #[.int .i64 4, .int .i64 224], .int .i64 3]) ∧ Below w.heap.size w w' from HC)
  have g3 : (3 : Int) ≤ (bl : Int) := by omega
  have g4 : (3 : Int) ≤ (bc : Int) := by omega
  have g5 : 3 ≤ bc := by omega
  obtain ⟨c1, hc1⟩ : ∃ c, cpFirst b 3 = c := ⟨_, rfl⟩
  have hmask := HCF.out
  rw [hc1] at hmask
  have HC1 := Lib.hid hc1
  have hlc : c1 < 256 := by rw [← hc1]; exact (cpFirst_le b 3).1
  clear hb hx hN HC hk hr hr1 HCF hc1
  go_enter Tryd.func98, Tryd.ntmps98
  go_wp2_with fail
  refine HC2.out.mono ?_; rintro e w1 ⟨rfl, hb1⟩
  have hN1 := HN.out.ext hb1
  have qn := hN1.cells
  have ln := hN1.lt
  have lb : bb < w1.heap.size := Nat.lt_of_lt_of_le hbb hb1.size
  have hcw := (hb1.cell (p := ⟨bb, bo, none⟩) hbb).trans hc
  have HB1 := Lib.hid hb1
  clear hb1 hN1 HC2 hc
  go_wp2_with fail
  go_quiet (fail)
  go_wp2_with fail
  all_goals
    go_loopw [38, 6, 8] (fun ix px cx wi => ∃ i : Nat, i ≤ 2 ∧ ix = .int .i64 (i : Int) ∧ px = .int .i64 ((cpTo b 3 (i + 1) : Nat) : Int) ∧ Below w.heap.size w wi ∧ ∀ m y, 1 ≤ m → m ≤ i → b[m]? = some y → y.toNat / 64 = 2) (fun ix _ _ _ => 2 - (intOf ix).toNat)
    case atStart => exact ⟨0, by omega, by go_num, by rw [cpTo_one, HC1.out], by have h := HB1.out; have hs := h.size; exact (by repeat (first | (with_reducible exact Below.refl _ _) | (with_reducible exact Below.refl _ _) | (with_reducible refine Below.setCell ?_ (by first | omega | (simp; done) | (simp; omega)) _) | (with_reducible refine Below.alloc ?_ (by first | omega | (simp; done) | (simp; omega)) _) | (with_reducible refine Below.drew ?_) | (with_reducible refine below_drewN ?_ _) | (with_reducible refine Below.trans ?_ (h.mono (by first | omega | (simp; done) | (simp; omega)))))), fun m y h1 h2 => by omega⟩
    case round =>
      obtain ⟨i, hij, rfl, rfl, hbi, hall⟩ := hrel
      have HBI := Lib.hid hbi
      have HALL := Lib.hid hall
      clear hbi hall qn ln
      by_cases hin : i < 2
      · try exact absurd hin (Nat.not_lt_zero i)
        all_goals
          obtain ⟨y, hy⟩ : ∃ y, b[i + 1]? = some y := ⟨_, List.getElem?_eq_getElem (by omega)⟩
          obtain ⟨bb2, bo2, e2, hbb2, hbcell2⟩ := (HB.out.ext HBI.out).hat (i + 1) y hy
          cases e2
          rw [show bo + (i + 1) = bo + 1 + i by omega] at hbcell2
          have hlt := cpTo_lt b 3 (i + 1) (by omega) (by omega) (by omega)
          have hs := cpTo_succ (n := 3) (by omega) hy
          obtain ⟨c, hc⟩ : ∃ c, cpTo b 3 (i + 1) = c := ⟨_, rfl⟩
          rw [hc] at hlt hs ⊢
          have hy8 := y.toNat_lt
          have hm := and_mask8 y.toNat hy8
          have ho := or_low c (y.toNat % 64) (by omega) (Nat.mod_lt _ (by omega))
          rw [show ((y.toNat % 64 : Nat) : Int) = (y.toNat : Int) % 64 by omega] at ho
          have HS := Lib.hid hs
          have HY := Lib.hid hy
          have HIN := Lib.hid hin
          have k1 : (i : Int) < 2 := by omega
          clear hs hc hin hij hy
          by_cases h2 : y.toNat / 64 = 2
          · have H2 := Lib.hid h2
            have k2 : (y.toNat : Int) / 64 = 2 := by omega
            clear h2
            go_wp2_with fail
            go_roundw
            case rel => exact ⟨i + 1, HIN.out, by go_num, by rw [HS.out]; simp, HBI.out, fun m z h1 h3 hz => by
              by_cases hm : m = i + 1
              · subst hm; rw [HY.out] at hz; cases hz; exact H2.out
              · exact HALL.out m z h1 (by omega) hz⟩
            case measure => have := HIN.out; simp [intOf]; omega
          · have k2 : ¬ (y.toNat : Int) / 64 = 2 := by omega
            have e : r = (0, 0) := by
              rw [HR.out, if_pos]
              cases hco : contsOk b 3 with
              | false => rfl
              | true => exact (h2 ((conts_iff b 3).1 hco (i + 1) y (by omega) (by have := HIN.out; omega) HY.out)).elim
            clear h2
            subst e
            go_wp2
            go_ret2
            exact ⟨rfl, by have h := HBI.out; have hs := h.size; exact (by repeat (first | (with_reducible exact Below.refl _ _) | (with_reducible exact Below.refl _ _) | (with_reducible refine Below.setCell ?_ (by first | omega | (simp; done) | (simp; omega)) _) | (with_reducible refine Below.alloc ?_ (by first | omega | (simp; done) | (simp; omega)) _) | (with_reducible refine Below.drew ?_) | (with_reducible refine below_drewN ?_ _) | (with_reducible refine Below.trans ?_ (h.mono (by first | omega | (simp; done) | (simp; omega))))))⟩
      · obtain rfl : i = 2 := by omega
        have HCO := Lib.hid (show contsOk b 3 = true from (conts_iff b 3).2 fun m y h1 h2 hy => HALL.out m y h1 (by omega) hy)
        obtain ⟨c, hc⟩ : ∃ c, cpAt b 3 = c := ⟨_, rfl⟩
        have hc' : cpTo b 3 (2 + 1) = c := hc
        rw [hc'] at ⊢
        have hr : r = if sizeOfCp c ≠ 3 then (0, 0) else (c, 3) := by rw [HR.out, if_neg (by rw [HCO.out]; decide), hc]
        have HRR := Lib.hid hr
        clear hin hij hc hc' hr
        go_wp2_with fail
        refine (Tryd_cpSize c wr).mono ?_; rintro e w2 ⟨rfl, hb2⟩
        have HB2 := Lib.hid (HBI.out.trans (hb2.mono HBI.out.size))
        clear hb2
        obtain ⟨z, hz⟩ : ∃ z, sizeOfCp c = z := ⟨_, rfl⟩
        rw [hz] at HRR ⊢
        clear hz
        by_cases hzk : z = 3
        · subst hzk
          have e : r = (c, 3) := HRR.out
          subst e
          go_wp2
          go_ret2
          exact ⟨rfl, by have h := HB2.out; have hs := h.size; exact (by repeat (first | (with_reducible exact Below.refl _ _) | (with_reducible exact Below.refl _ _) | (with_reducible refine Below.setCell ?_ (by first | omega | (simp; done) | (simp; omega)) _) | (with_reducible refine Below.alloc ?_ (by first | omega | (simp; done) | (simp; omega)) _) | (with_reducible refine Below.drew ?_) | (with_reducible refine below_drewN ?_ _) | (with_reducible refine Below.trans ?_ (h.mono (by first | omega | (simp; done) | (simp; omega))))))⟩
        · have e : r = (0, 0) := by rw [HRR.out, if_pos hzk]
          have k3 : ¬ (z : Int) = 3 := by omega
          clear hzk
          subst e
          go_wp2
          go_ret2
          exact ⟨rfl, by have h := HB2.out; have hs := h.size; exact (by repeat (first | (with_reducible exact Below.refl _ _) | (with_reducible exact Below.refl _ _) | (with_reducible refine Below.setCell ?_ (by first | omega | (simp; done) | (simp; omega)) _) | (with_reducible refine Below.alloc ?_ (by first | omega | (simp; done) | (simp; omega)) _) | (with_reducible refine Below.drew ?_) | (with_reducible refine below_drewN ?_ _) | (with_reducible refine Below.trans ?_ (h.mono (by first | omega | (simp; done) | (simp; omega))))))⟩
set_option maxRecDepth 8000 in
set_option maxHeartbeats 8000000 in
theorem Tryd_next_yes4 (ba : Option Addr) (bl bc : Nat) (b : List UInt8) (x : UInt8) (w : World) (hb : BytesAt w ba bl bc b) (hx : b[0]? = some x) (hN : GlobAt w 0 [.int .i64 0, .int .i64 0] 143) (hk : formOf x = 4) (hl : 4 ≤ bl) :
    Calls Tryd.prog 98 #[.slice ba bl bc] w fun e w' => e = .returned (.tuple #[.int .i64 ((nextN b).1 : Int), .int .i64 ((nextN b).2 : Int)]) ∧ Below w.heap.size w w' := by
  have hbl := hb.hlen
  have hr1 := nextN_k hx hk (by omega) (by omega)
  obtain ⟨r, hr⟩ : ∃ r, nextN b = r := ⟨_, rfl⟩
  rw [hr] at hr1 ⊢
  have HR := Lib.hid hr1
  have hbf := hb.hfew
  have hbc := hb.hcap
  have HB := Lib.hid hb
  obtain ⟨bb, bo, rfl, hbb, hc⟩ := hb.hat 0 x hx
  rw [Nat.add_zero] at hc
  have hx8 := x.toNat_lt
  have HCF := Lib.hid (show bits .and .i64 (x.toNat : Int) 7 = ((cpFirst b 4 : Nat) : Int) by
    have h := and_mask x.toNat 3 (by omega) (by omega)
    have e : cpFirst b 4 = x.toNat % 2 ^ 3 := by
      cases b with
      | nil => cases hx
      | cons y ys =>
        cases hx
        have := form1 x
        unfold cpFirst
        simp <;> omega
    rw [e]; exact h)
  have HC := (Tryd_sized x w hN)
  rw [hk] at HC
  have g1 : (0 : Int) < (bl : Int) := by omega
  have HN := Lib.hid hN
  have g2 : ¬ (bl : Int) < 4 := by omega
  have HC2 := Lib.hid (show Calls Tryd.prog 109 #[.int .u8 (x.toNat : Int)] w fun e w' => e = .returned (.tuple #[.agg #[.int .i64 3, .int .i64 240], .int .i64 4]) ∧ Below w.heap.size w w' from HC)
  have g3 : (4 : Int) ≤ (bl : Int) := by omega
  have g4 : (4 : Int) ≤ (bc : Int) := by omega
  have g5 : 4 ≤ bc := by omega
  obtain ⟨c1, hc1⟩ : ∃ c, cpFirst b 4 = c := ⟨_, rfl⟩
  have hmask := HCF.out
  rw [hc1] at hmask
  have HC1 := Lib.hid hc1
  have hlc : c1 < 256 := by rw [← hc1]; exact (cpFirst_le b 4).1
  clear hb hx hN HC hk hr hr1 HCF hc1
  go_enter Tryd.func98, Tryd.ntmps98
  go_wp2_with fail
  refine HC2.out.mono ?_; rintro e w1 ⟨rfl, hb1⟩
  have hN1 := HN.out.ext hb1
  have qn := hN1.cells
  have ln := hN1.lt
  have lb : bb < w1.heap.size := Nat.lt_of_lt_of_le hbb hb1.size
  have hcw := (hb1.cell (p := ⟨bb, bo, none⟩) hbb).trans hc
  have HB1 := Lib.hid hb1
  clear hb1 hN1 HC2 hc
  go_wp2_with fail
  go_quiet (fail)
  go_wp2_with fail
  all_goals
    go_loopw [38, 6, 8] (fun ix px cx wi => ∃ i : Nat, i ≤ 3 ∧ ix = .int .i64 (i : Int) ∧ px = .int .i64 ((cpTo b 4 (i + 1) : Nat) : Int) ∧ Below w.heap.size w wi ∧ ∀ m y, 1 ≤ m → m ≤ i → b[m]? = some y → y.toNat / 64 = 2) (fun ix _ _ _ => 3 - (intOf ix).toNat)
    case atStart => exact ⟨0, by omega, by go_num, by rw [cpTo_one, HC1.out], by have h := HB1.out; have hs := h.size; exact (by repeat (first | (with_reducible exact Below.refl _ _) | (with_reducible exact Below.refl _ _) | (with_reducible refine Below.setCell ?_ (by first | omega | (simp; done) | (simp; omega)) _) | (with_reducible refine Below.alloc ?_ (by first | omega | (simp; done) | (simp; omega)) _) | (with_reducible refine Below.drew ?_) | (with_reducible refine below_drewN ?_ _) | (with_reducible refine Below.trans ?_ (h.mono (by first | omega | (simp; done) | (simp; omega)))))), fun m y h1 h2 => by omega⟩
    case round =>
      obtain ⟨i, hij, rfl, rfl, hbi, hall⟩ := hrel
      have HBI := Lib.hid hbi
      have HALL := Lib.hid hall
      clear hbi hall qn ln
      by_cases hin : i < 3
      · try exact absurd hin (Nat.not_lt_zero i)
        all_goals
          obtain ⟨y, hy⟩ : ∃ y, b[i + 1]? = some y := ⟨_, List.getElem?_eq_getElem (by omega)⟩
          obtain ⟨bb2, bo2, e2, hbb2, hbcell2⟩ := (HB.out.ext HBI.out).hat (i + 1) y hy
          cases e2
          rw [show bo + (i + 1) = bo + 1 + i by omega] at hbcell2
          have hlt := cpTo_lt b 4 (i + 1) (by omega) (by omega) (by omega)
          have hs := cpTo_succ (n := 4) (by omega) hy
          obtain ⟨c, hc⟩ : ∃ c, cpTo b 4 (i + 1) = c := ⟨_, rfl⟩
          rw [hc] at hlt hs ⊢
          have hy8 := y.toNat_lt
          have hm := and_mask8 y.toNat hy8
          have ho := or_low c (y.toNat % 64) (by omega) (Nat.mod_lt _ (by omega))
          rw [show ((y.toNat % 64 : Nat) : Int) = (y.toNat : Int) % 64 by omega] at ho
          have HS := Lib.hid hs
          have HY := Lib.hid hy
          have HIN := Lib.hid hin
          have k1 : (i : Int) < 3 := by omega
          clear hs hc hin hij hy
          by_cases h2 : y.toNat / 64 = 2
          · have H2 := Lib.hid h2
            have k2 : (y.toNat : Int) / 64 = 2 := by omega
            clear h2
            go_wp2_with fail
            go_roundw
            case rel => exact ⟨i + 1, HIN.out, by go_num, by rw [HS.out]; simp, HBI.out, fun m z h1 h3 hz => by
              by_cases hm : m = i + 1
              · subst hm; rw [HY.out] at hz; cases hz; exact H2.out
              · exact HALL.out m z h1 (by omega) hz⟩
            case measure => have := HIN.out; simp [intOf]; omega
          · have k2 : ¬ (y.toNat : Int) / 64 = 2 := by omega
            have e : r = (0, 0) := by
              rw [HR.out, if_pos]
              cases hco : contsOk b 4 with
              | false => rfl
              | true => exact (h2 ((conts_iff b 4).1 hco (i + 1) y (by omega) (by have := HIN.out; omega) HY.out)).elim
            clear h2
            subst e
            go_wp2
            go_ret2
            exact ⟨rfl, by have h := HBI.out; have hs := h.size; exact (by repeat (first | (with_reducible exact Below.refl _ _) | (with_reducible exact Below.refl _ _) | (with_reducible refine Below.setCell ?_ (by first | omega | (simp; done) | (simp; omega)) _) | (with_reducible refine Below.alloc ?_ (by first | omega | (simp; done) | (simp; omega)) _) | (with_reducible refine Below.drew ?_) | (with_reducible refine below_drewN ?_ _) | (with_reducible refine Below.trans ?_ (h.mono (by first | omega | (simp; done) | (simp; omega))))))⟩
      · obtain rfl : i = 3 := by omega
        have HCO := Lib.hid (show contsOk b 4 = true from (conts_iff b 4).2 fun m y h1 h2 hy => HALL.out m y h1 (by omega) hy)
        obtain ⟨c, hc⟩ : ∃ c, cpAt b 4 = c := ⟨_, rfl⟩
        have hc' : cpTo b 4 (3 + 1) = c := hc
        rw [hc'] at ⊢
        have hr : r = if sizeOfCp c ≠ 4 then (0, 0) else (c, 4) := by rw [HR.out, if_neg (by rw [HCO.out]; decide), hc]
        have HRR := Lib.hid hr
        clear hin hij hc hc' hr
        go_wp2_with fail
        refine (Tryd_cpSize c wr).mono ?_; rintro e w2 ⟨rfl, hb2⟩
        have HB2 := Lib.hid (HBI.out.trans (hb2.mono HBI.out.size))
        clear hb2
        obtain ⟨z, hz⟩ : ∃ z, sizeOfCp c = z := ⟨_, rfl⟩
        rw [hz] at HRR ⊢
        clear hz
        by_cases hzk : z = 4
        · subst hzk
          have e : r = (c, 4) := HRR.out
          subst e
          go_wp2
          go_ret2
          exact ⟨rfl, by have h := HB2.out; have hs := h.size; exact (by repeat (first | (with_reducible exact Below.refl _ _) | (with_reducible exact Below.refl _ _) | (with_reducible refine Below.setCell ?_ (by first | omega | (simp; done) | (simp; omega)) _) | (with_reducible refine Below.alloc ?_ (by first | omega | (simp; done) | (simp; omega)) _) | (with_reducible refine Below.drew ?_) | (with_reducible refine below_drewN ?_ _) | (with_reducible refine Below.trans ?_ (h.mono (by first | omega | (simp; done) | (simp; omega))))))⟩
        · have e : r = (0, 0) := by rw [HRR.out, if_pos hzk]
          have k3 : ¬ (z : Int) = 4 := by omega
          clear hzk
          subst e
          go_wp2
          go_ret2
          exact ⟨rfl, by have h := HB2.out; have hs := h.size; exact (by repeat (first | (with_reducible exact Below.refl _ _) | (with_reducible exact Below.refl _ _) | (with_reducible refine Below.setCell ?_ (by first | omega | (simp; done) | (simp; omega)) _) | (with_reducible refine Below.alloc ?_ (by first | omega | (simp; done) | (simp; omega)) _) | (with_reducible refine Below.drew ?_) | (with_reducible refine below_drewN ?_ _) | (with_reducible refine Below.trans ?_ (h.mono (by first | omega | (simp; done) | (simp; omega))))))⟩
end Go.Proofs.YtmcmknndhppljaaDoor

namespace Go.Proofs.YtmcmknndhppljaaDoor
set_option linter.unusedVariables false
set_option linter.unusedSimpArgs false
open Go.RowKit Go.Dav
attribute [local go_sem] Gives ite_val ite_val_true

theorem Tryd_next (ba : Option Addr) (bl bc : Nat) (b : List UInt8) (w : World) (hb : BytesAt w ba bl bc b) (h1 : 1 ≤ bl) (hN : GlobAt w 0 [.int .i64 0, .int .i64 0] 143) :
    Calls Tryd.prog 98 #[.slice ba bl bc] w fun e w' => e = .returned (.tuple #[.int .i64 ((beginOf b).1 : Int), .int .i64 ((beginOf b).2 : Int)]) ∧ Below w.heap.size w w' := by
  have hlen := hb.hlen
  cases b with
  | nil => simp at hlen; omega
  | cons x xs =>
    rw [← next_begin (b := x :: xs) (by simp)]
    have hx : (x :: xs)[0]? = some x := rfl
    have h4 := formOf_le x
    by_cases h0 : formOf x = 0
    · rw [nextN_no hx (.inl h0)]
      exact Tryd_next_no ba bl bc _ x w hb hx hN h0
    · by_cases hs : bl < formOf x
      · rw [nextN_no hx (.inr (by rw [hlen]; exact hs))]
        exact Tryd_next_short ba bl bc _ x w hb hx hN hs
      · rcases (by omega : formOf x = 1 ∨ formOf x = 2 ∨ formOf x = 3 ∨ formOf x = 4) with h | h | h | h
        · exact Tryd_next_yes1 ba bl bc _ x w hb hx hN h (by omega)
        · exact Tryd_next_yes2 ba bl bc _ x w hb hx hN h (by omega)
        · exact Tryd_next_yes3 ba bl bc _ x w hb hx hN h (by omega)
        · exact Tryd_next_yes4 ba bl bc _ x w hb hx hN h (by omega)

theorem Tryd_uOne (n c : Int) (w : World) : Calls Tryd.prog 116 #[.int .i64 n, .int .i64 c] w fun e w' => e = .returned (.int .i64 (wrap64 (n + 1))) ∧ Below w.heap.size w w' := by
  go_enter Tryd.func116, Tryd.ntmps116
  go_wp2
  go_ret
  exact ⟨rfl, (by repeat (first | (with_reducible exact Below.refl _ _) | (with_reducible exact Below.refl _ _) | (with_reducible refine Below.setCell ?_ (by first | omega | (simp; done) | (simp; omega)) _) | (with_reducible refine Below.alloc ?_ (by first | omega | (simp; done) | (simp; omega)) _) | (with_reducible refine Below.drew ?_) | (with_reducible refine below_drewN ?_ _)))⟩
theorem Tryd_enter116 (args : Array Value) (W : World) : (callFunc 116 args).run Tryd.prog W = .ok (Next.enter 116 args) W := by kernel_rfl

/-- What Check tells. -/
def TrydUtfE (b : List UInt8) (e : Ending) : Prop := ∃ n at_ : Int, e = .returned (.tuple #[.int .i64 n, .int .i64 at_, .int .i64 (if validB b = true then 0 else 110)])

set_option maxRecDepth 8000 in
set_option maxHeartbeats 4000000 in
theorem Tryd_through (s : ByteArray) (w : World) (hs : s.size ≤ 17592186044416) (hN : GlobAt w 0 [.int .i64 0, .int .i64 0] 143) :
    Calls Tryd.prog 115 #[.string s, .int .i64 0, .func (.func 116) #[] #[]] w fun e w' => TrydUtfE s.data.toList e ∧ Below w.heap.size w w' := by
  obtain ⟨bc, hcv, hby, hbw⟩ := Tryd_convBytes s w (by omega)
  have hN1 := hN.ext hbw
  have hen := Tryd_enter116
  have HB := Lib.hid hby
  have HBW := Lib.hid hbw
  obtain ⟨W1, hW1⟩ : ∃ W1, Lib.bytesWorld w 5 s = W1 := ⟨_, rfl⟩
  rw [hW1] at hcv HB HBW hN1
  obtain ⟨b, hb⟩ : ∃ b, s.data.toList = b := ⟨_, rfl⟩
  obtain ⟨bl, hbl⟩ : ∃ bl, s.size = bl := ⟨_, rfl⟩
  rw [hb] at HB ⊢
  rw [hbl] at hcv HB hs
  have HL := Lib.hid HB.out.hlen
  have hcap := HB.out.hcap
  have HN := Lib.hid hN1
  clear hby hbw hW1 hN hN1 hb hbl
  go_enter Tryd.func115, Tryd.ntmps115
  go_wp2_with fail
  go_loopw [1, 10] (fun nv ix wr => ∃ (i : Nat) (acc : List Nat) (n : Int), i ≤ bl ∧ ix = .int .i64 (i : Int) ∧ nv = .int .i64 n ∧ PtsAt b acc i ∧ Below W1.heap.size W1 wr) (fun _ ix _ => bl - (intOf ix).toNat)
  case atStart => exact ⟨0, [], 0, Nat.zero_le _, by go_num, rfl, PtsAt.zero b, Below.refl _ _⟩
  case round =>
    obtain ⟨i, acc, n, hi, rfl, rfl, hpt, hbel⟩ := hrel
    have HPT := Lib.hid hpt
    have HBE := Lib.hid hbel
    have hsr := hbel.size
    clear hpt hbel
    by_cases hlt : i < bl
    · have g1 : (i : Int) < (bl : Int) := by omega
      have g2 : (i : Int) ≤ (bl : Int) := by omega
      have g3 : (bl : Int) ≤ (bc : Int) := by omega
      have HD := Lib.hid (show BytesAt wr (some ⟨w.heap.size, i, none⟩) (bl - i) (bc - i) (b.drop i) from by
        have h := HB.out.ext HBE.out
        refine ⟨by rw [List.length_drop, HL.out], by omega, by have := h.hmax; omega, by have := h.hfew; omega, fun k x hk => ?_, fun e => by cases e⟩
        rw [List.getElem?_drop] at hk
        obtain ⟨b', o', e, h1, h2⟩ := h.hat (i + k) x hk
        cases e
        exact ⟨w.heap.size, i, rfl, h1, by rw [Nat.zero_add] at h2; exact h2⟩)
      have HLT := Lib.hid hlt
      clear hlt hi
      go_wp2_with fail
      refine (Tryd_next (some ⟨w.heap.size, i, none⟩) (bl - i) (bc - i) (b.drop i) wr HD.out (by have := HLT.out; omega) (HN.out.ext HBE.out)).mono ?_; rintro e w1 ⟨rfl, hb1⟩
      have hbn := beginOf_len (b.drop i)
      rw [List.length_drop, HL.out] at hbn
      obtain ⟨k, hn⟩ : ∃ k, (beginOf (b.drop i)).2 = k := ⟨_, rfl⟩
      obtain ⟨c, hc⟩ : ∃ c, (beginOf (b.drop i)).1 = c := ⟨_, rfl⟩
      rw [hn] at hbn ⊢
      rw [hc]
      have HNN := Lib.hid hn
      have HC := Lib.hid hc
      have HB1 := Lib.hid (HBE.out.trans (hb1.mono HBE.out.size))
      have hs1 := hb1.size
      have hbn' : i + k ≤ bl := by have := HLT.out; omega
      clear hn hc hb1 hbn
      by_cases h0 : k = 0
      · subst h0
        have hst := HPT.out.stop (by rw [HL.out]; exact HLT.out) HNN.out
        have HV := Lib.hid hst
        clear hst hbn'
        go_wp2
        refine bodyPost_ret (v := .tuple #[.int .i64 0, .int .i64 (i : Int), .int .i64 110]) (by simp [results, Tryd.results115, go_sem]) rfl ⟨⟨0, i, ?_⟩, HBW.out.trans (HB1.out.mono HBW.out.size)⟩
        unfold validB
        rw [HV.out]
        rfl
      · have d1 : ((k : Int) == 0) = false := by rw [beq_eq_false_iff_ne]; omega
        have hnx := HPT.out.next (by rw [HL.out]; exact HLT.out) (by rw [HNN.out]; exact h0)
        rw [HNN.out, HC.out] at hnx
        have HNX := Lib.hid hnx
        have u1 : IntKind.i64.wrap ((i : Int) + (k : Int)) = (i : Int) + (k : Int) := IntWalk.i64_in _ (by omega)
        have hi0 := HLT.out
        clear hnx
        go_wp2_with fail
        refine (Tryd_uOne n (c : Int) w1).mono ?_; rintro e w2 ⟨rfl, hb2⟩
        have HB2 := Lib.hid (HB1.out.trans (hb2.mono HB1.out.size))
        clear hb2
        go_wp2
        go_roundw
        case rel =>
          exact ⟨i + k, acc ++ [c], _, hbn', by go_num, rfl, HNX.out, HB2.out⟩
        case measure => simp [intOf]; omega
    · have g1 : ¬ (i : Int) < (bl : Int) := by omega
      obtain rfl : i = bl := by omega
      have hdn := HPT.out
      rw [← HL.out] at hdn
      have HV := Lib.hid hdn.done
      clear hdn hlt hi
      go_wp2
      refine bodyPost_ret (v := .tuple #[.int .i64 n, .int .i64 0, .int .i64 0]) (by simp [results, Tryd.results115, go_sem]) rfl ⟨⟨n, 0, ?_⟩, HBW.out.trans (HBE.out.mono HBW.out.size)⟩
      unfold validB
      rw [HV.out]
      rfl

theorem Tryd_uCheck (s : ByteArray) (w : World) (hs : s.size ≤ 17592186044416) (hN : GlobAt w 0 [.int .i64 0, .int .i64 0] 143) :
    Calls Tryd.prog 112 #[.string s] w fun e w' => (∃ at_ : Int, e = .returned (.tuple #[.int .i64 at_, .int .i64 (if validB s.data.toList = true then 0 else 110)])) ∧ Below w.heap.size w w' := by
  obtain ⟨r, hr⟩ : ∃ r : Int, (if validB s.data.toList = true then (0 : Int) else 110) = r := ⟨_, rfl⟩
  have HC := Lib.hid (Tryd_through s w hs hN)
  have HR := Lib.hid hr
  rw [hr]
  clear hr hN
  go_enter Tryd.func112, Tryd.ntmps112
  go_wp2_with fail
  refine HC.out.mono ?_; rintro e w1 ⟨⟨n, a, rfl⟩, hb1⟩
  rw [HR.out]
  have HB1 := Lib.hid hb1
  clear hb1 HC
  go_wp2
  go_ret2
  exact ⟨⟨_, rfl⟩, by have h := HB1.out; exact (by repeat (first | (with_reducible exact Below.refl _ _) | (with_reducible exact Below.refl _ _) | (with_reducible refine Below.setCell ?_ (by first | omega | (simp; done) | (simp; omega)) _) | (with_reducible refine Below.alloc ?_ (by first | omega | (simp; done) | (simp; omega)) _) | (with_reducible refine Below.drew ?_) | (with_reducible refine below_drewN ?_ _) | (with_reducible refine Below.trans ?_ (h.mono (by first | omega | (simp; done) | (simp; omega))))))⟩
end Go.Proofs.YtmcmknndhppljaaDoor
