/-
  Layer 10: Crash, whole.
-/
import Derived.Test.YtmjmjjakhmeogaaFilV
import Derived.Test.YtmjmjjakhmeogaaFilW
namespace Go.Proofs.Ytmjmjjakhmeogaa
set_option linter.unusedVariables false
set_option linter.unusedSimpArgs false
open Go.RowKit Go.Dav
attribute [local go_sem] Gives ite_val ite_val_true

set_option maxRecDepth 8000 in
set_option maxHeartbeats 4000000 in
theorem Try_Crash (F : FileD) (fa la ka : Option Addr) (fl fc ll lc kl kc : Nat) (keep : List Bool) (tear cut : Int) (w : World) (S : Nat → Prop) (hF : FileS w S fa fl fc la ll lc F) (hK : BoolsAt w ka kl kc keep) (hS : ∀ b, S b → b < w.heap.size) (ht : I64' tear) (hcut : I64' cut) :
    Calls Try.prog 31 #[.agg #[.slice fa fl fc, .slice la ll lc, .int .i64 F.fuse, .int .i64 F.fault, .bool F.off], .slice ka kl kc, .int .i64 tear, .int .i64 cut] w (GivesFile w S (F.crash keep tear cut).1 (F.crash keep tear cut).2) := by
  cases hr : F.right with
  | true => exact Try_Crash_yes F fa la ka fl fc ll lc kl kc keep tear cut w S hF hK hS hr ht hcut
  | false =>
    have hW : Below w.heap.size w ((w.alloc (.cells [.slice fa fl fc, .slice la ll lc, .int .i64 F.fuse, .int .i64 F.fault, .bool F.off].toArray 25)).alloc (.cells #[.slice none 0 0, .slice none 0 0, .int .i64 0, .int .i64 0, .bool false] 25)) := (by repeat (first | (with_reducible exact Below.refl _ _) | (with_reducible exact Below.refl _ _) | (with_reducible refine Below.setCell ?_ (by first | omega | (simp; done) | (simp; omega)) _) | (with_reducible refine Below.alloc ?_ (by first | omega | (simp; done) | (simp; omega)) _) | (with_reducible refine Below.drew ?_) | (with_reducible refine below_drewN ?_ _)))
    have hf0 := (Blk.new w [.slice fa fl fc, .slice la ll lc, .int .i64 F.fuse, .int .i64 F.fault, .bool F.off] 25).alloc (o := (.cells #[.slice none 0 0, .slice none 0 0, .int .i64 0, .int .i64 0, .bool false] 25))
    have B0 := Blk.new' (w.alloc (.cells [.slice fa fl fc, .slice la ll lc, .int .i64 F.fuse, .int .i64 F.fault, .bool F.off].toArray 25)) [.slice none 0 0, .slice none 0 0, .int .i64 0, .int .i64 0, .bool false] 25 (p := w.heap.size + 1) (by simp)
    have hC := Try_Check F fa la fl fc ll lc _ (hF.ext hW).at_
    rw [FileD.err_wrong hr] at hC
    have HOP := Lib.hid (show F.crash keep tear cut = (F, 200) by unfold FileD.crash; rw [if_neg (by rw [hr]; decide)])
    have HC := Lib.hid hC
    have HF := Lib.hid (hF.ext hW)
    have HSS := Lib.hid hS
    have HF0 := Lib.hid hf0
    have HB0 := Lib.hid B0
    clear hW hf0 B0 hC hF hK hS ht hcut hr
    go_enter Try.func31, Try.ntmps31
    go_wp2_with fail
    refine HC.out.mono ?_; rintro e w1 ⟨rfl, hb1⟩
    have s1 := hb1.size
    simp only [World.size_alloc] at s1
    have B1 := HF0.out.ext hb1
    have B2 := HB0.out.ext hb1
    have q1 := B1.cells
    have q2 := B2.cells
    have m2 := B2.marks
    have l1 := B1.lt
    have l2 := B2.lt
    have HF1 := Lib.hid (HF.out.ext hb1)
    have bel : Below w.heap.size w w1 := (by repeat (first | (with_reducible exact Below.refl _ _) | (with_reducible exact Below.refl _ _) | (with_reducible refine Below.setCell ?_ (by first | omega | (simp; done) | (simp; omega)) _) | (with_reducible refine Below.alloc ?_ (by first | omega | (simp; done) | (simp; omega)) _) | (with_reducible refine Below.drew ?_) | (with_reducible refine below_drewN ?_ _) | (with_reducible refine Below.trans ?_ (hb1.mono (by first | omega | (simp; done) | (simp; omega))))))
    have HB2 := Lib.hid B2
    clear hb1 B1 B2 HC
    go_wp2
    rw [HOP.out]
    have c2 := (((((HB2.out.set 0 (.slice fa fl fc)).set 1 (.slice la ll lc)).set 2 (.int .i64 F.fuse)).set 3 (.int .i64 F.fault)).set 4 (.bool F.off)).cells
    simp only [List.set_cons_zero, List.set_cons_succ] at c2
    refine bodyPost_ret (v := .tuple #[.agg #[.slice fa fl fc, .slice la ll lc, .int .i64 F.fuse, .int .i64 F.fault, .bool F.off], .int .i64 200]) (by simp [results, Try.results31, go_sem, c2]) rfl ⟨fa, fl, fc, la, ll, lc, rfl, ?_, ?_⟩
    · refine (HF1.out.same (Only.size (p := w.heap.size + 1) (by repeat (first | (with_reducible exact Only.refl _ _) | (with_reducible refine Only.set ?_ _ _) | (with_reducible refine Only.alloc ?_ _) | (with_reducible refine Only.drew ?_)))) (fun b h hlt => Only.block (p := w.heap.size + 1) (by repeat (first | (with_reducible exact Only.refl _ _) | (with_reducible refine Only.set ?_ _ _) | (with_reducible refine Only.alloc ?_ _) | (with_reducible refine Only.drew ?_))) b hlt ?_)).mono fun b h => Or.inl h
      have := HSS.out b h; omega
    · exact (by repeat (first | (with_reducible exact Below.refl _ _) | (with_reducible exact Below.refl _ _) | (with_reducible refine Below.setCell ?_ (by first | omega | (simp; done) | (simp; omega)) _) | (with_reducible refine Below.alloc ?_ (by first | omega | (simp; done) | (simp; omega)) _) | (with_reducible refine Below.drew ?_) | (with_reducible refine below_drewN ?_ _) | (with_reducible refine Below.trans ?_ (bel.mono (by first | omega | (simp; done) | (simp; omega))))))
end Go.Proofs.Ytmjmjjakhmeogaa
