/-
  Layer 10: the reference's Asked, Append, Sync, walked.
-/
import Derived.Test.YtafigbomcgncnaaFilK
namespace Go.Proofs.Ytafigbomcgncnaa
set_option linter.unusedVariables false
set_option linter.unusedSimpArgs false
open Go.RowKit Go.Dav
attribute [local go_sem] Gives ite_val ite_val_true


end Go.Proofs.Ytafigbomcgncnaa
