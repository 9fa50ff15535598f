/-
  Layer 10: the reference's Append and Sync, walked.
-/
import Derived.Test.YtafigbomcgncnaaFilL
namespace Go.Proofs.Ytafigbomcgncnaa
set_option linter.unusedVariables false
set_option linter.unusedSimpArgs false
open Go.RowKit Go.Dav
attribute [local go_sem] Gives ite_val ite_val_true

theorem file_two {w4 w5 w6 : World} {T : Nat → Prop} {fa la : Option Addr} {fl fc ll lc p q : Nat} {F : FileD} (h : FileS w4 T fa fl fc la ll lc F) (hT : ∀ b, T b → b ≠ p ∧ b ≠ q) (h1 : Only p w4 w5) (h2 : Only q w5 w6) : FileS w6 T fa fl fc la ll lc F :=
  (h.same h1.size fun b hb hlt => h1.block b hlt (hT b hb).1).same h2.size fun b hb hlt => h2.block b hlt (hT b hb).2

theorem FileD.asked_same (F : FileD) (more : Int) : (F.asked more).1.firm = F.firm ∧ (F.asked more).1.loose = F.loose := by
  unfold FileD.asked
  repeat' split
  all_goals exact ⟨rfl, rfl⟩

end Go.Proofs.Ytafigbomcgncnaa
