/-
  Layer 10: Same, walked.
-/
import Derived.Test.YtafigbomcgncnaaFilE
namespace Go.Proofs.Ytafigbomcgncnaa
set_option linter.unusedVariables false
set_option linter.unusedSimpArgs false
open Go.RowKit Go.Dav
attribute [local go_sem] Gives ite_val ite_val_true

theorem FileD.err_right {F : FileD} (h : F.right = true) : F.err = 0 := by unfold FileD.err; rw [if_pos h]
theorem FileD.err_wrong {F : FileD} (h : F.right = false) : F.err = 200 := by unfold FileD.err; rw [if_neg (by rw [h]; decide)]

end Go.Proofs.Ytafigbomcgncnaa
