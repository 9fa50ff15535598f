/-
  Layer 10: the reference's Sync, walked.
-/
import Derived.Test.YtafigbomcgncnaaFilM
namespace Go.Proofs.Ytafigbomcgncnaa
set_option linter.unusedVariables false
set_option linter.unusedSimpArgs false
open Go.RowKit Go.Dav
attribute [local go_sem] Gives ite_val ite_val_true

theorem FileD.many_same {F G : FileD} (h : F.firm = G.firm ∧ F.loose = G.loose) : F.many = G.many := by
  unfold FileD.many; rw [h.1, h.2]
theorem FileD.all_same {F G : FileD} (h : F.firm = G.firm ∧ F.loose = G.loose) : F.all = G.all := by
  unfold FileD.all; rw [h.1, h.2]

end Go.Proofs.Ytafigbomcgncnaa
