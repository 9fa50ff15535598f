/-
  No cell of these rows narrows 'for every input' (looked for: loops, veiled, ifaces, maps, wideKeys, modest, calm, conditions, laid).
  DERIVED. THE GIVEN ROWS OF THIS SEAT. 9 by the template 'for every input the law returns true; each argument reads behind the call as it read before'; 0 by the template 'total and deterministic' (their statements: YtenmnhnlcnmloaaGreatTotals.lean).
  GIVEN WITH THE SEED: the statements are not yours to turn. If you find one false, say at which input.
  Laid BY PROGRAM, IN A SANDBOX (cutbox-rows.mjs): the forced cells as the released guide's own fill.sh prints them over the translation f138ad053d2ed77d… (all of the seat's roots in one cut). By AI agents, Wed Nov 11 2026. No macro, syntax, notation, axiom, sorry.
-/
import Derived.Test.YtenmnhnlcnmloaaGreatChecked
import GoSem.Claim
import GoSem.ClaimJoined
import GoSem.ClaimMapViews
import Derived.JoinedTies
import Derived.KernelRfl
namespace Go.Proofs.YtenmnhnlcnmloaaGreat
/- THE CELL 'sum', in the pinned program and in every row, IS THE sha256 OF THE DUMP (.gsa) THAT YtenmnhnlcnmloaaGreatProg.lean LOADS. Nothing in Lean hashes anything: it is a label: what it is worth is what the hold of that sum in a sandbox is worth. -/
noncomputable def Tryz.pinned : Pinned := { name := "ytenmnhnlcnmloaagreat", sum := "f138ad053d2ed77d9f1c56c48eecd4691b39c5653cf2263dd2bdb08455e59149", checked := Tryz.checked }
namespace Rows
def none {H : Type} : Left H := { results := [], args := [] }

/-- 'davenportlaw18.FoldTells': WHATEVER THE INPUT: true; the input reads as it did. -/
def foldTellsSpec : ChangeSpec := { name := "foldTells", fn := fun _ => fun
  | [d1, d2, d3] => { results := [.lit (.bool true)], args := [d1, d2, d3] }
  | _ => none }
def foldTellsRow : OpenClaim := { program := "ytenmnhnlcnmloaagreat", sum := "f138ad053d2ed77d9f1c56c48eecd4691b39c5653cf2263dd2bdb08455e59149", func := "davenport/davenportlaw18.FoldTells", spec := "foldTells", inPlace := ["internal/bytealg.Compare"], unfollowed := true, recurses := true, apart := false }
def FoldTellsSaid : Prop := foldTellsRow.holds Tryz.pinned (OpenSpec.ofChange foldTellsSpec)

/-- ITS FALSE NEIGHBOUR: 'it returns false'. Refute it at one input. -/
def foldTellsWrong : ChangeSpec := { name := "foldTells", fn := fun _ => fun
  | [d1, d2, d3] => { results := [.lit (.bool false)], args := [d1, d2, d3] }
  | _ => none }
def FoldTellsWrongFalsely : Prop := foldTellsRow.holds Tryz.pinned (OpenSpec.ofChange foldTellsWrong)

/-- 'davenportlaw16.TreeChecks': WHATEVER THE INPUT: true; the input reads as it did. -/
def treeChecksSpec : ChangeSpec := { name := "treeChecks", fn := fun _ => fun
  | [d1, d2, d3, d4] => { results := [.lit (.bool true)], args := [d1, d2, d3, d4] }
  | _ => none }
def treeChecksRow : OpenClaim := { program := "ytenmnhnlcnmloaagreat", sum := "f138ad053d2ed77d9f1c56c48eecd4691b39c5653cf2263dd2bdb08455e59149", func := "davenport/davenportlaw16.TreeChecks", spec := "treeChecks", inPlace := ["internal/bytealg.Compare"], unfollowed := true, recurses := true, apart := false }
def TreeChecksSaid : Prop := treeChecksRow.holds Tryz.pinned (OpenSpec.ofChange treeChecksSpec)

/-- ITS FALSE NEIGHBOUR: 'it returns false'. Refute it at one input. -/
def treeChecksWrong : ChangeSpec := { name := "treeChecks", fn := fun _ => fun
  | [d1, d2, d3, d4] => { results := [.lit (.bool false)], args := [d1, d2, d3, d4] }
  | _ => none }
def TreeChecksWrongFalsely : Prop := treeChecksRow.holds Tryz.pinned (OpenSpec.ofChange treeChecksWrong)

/-- 'davenportlaw16.TreeLoads': WHATEVER THE INPUT: true; the input reads as it did. -/
def treeLoadsSpec : ChangeSpec := { name := "treeLoads", fn := fun _ => fun
  | [d1, d2, d3] => { results := [.lit (.bool true)], args := [d1, d2, d3] }
  | _ => none }
def treeLoadsRow : OpenClaim := { program := "ytenmnhnlcnmloaagreat", sum := "f138ad053d2ed77d9f1c56c48eecd4691b39c5653cf2263dd2bdb08455e59149", func := "davenport/davenportlaw16.TreeLoads", spec := "treeLoads", inPlace := ["internal/bytealg.Compare"], unfollowed := true, recurses := true, apart := false }
def TreeLoadsSaid : Prop := treeLoadsRow.holds Tryz.pinned (OpenSpec.ofChange treeLoadsSpec)

/-- ITS FALSE NEIGHBOUR: 'it returns false'. Refute it at one input. -/
def treeLoadsWrong : ChangeSpec := { name := "treeLoads", fn := fun _ => fun
  | [d1, d2, d3] => { results := [.lit (.bool false)], args := [d1, d2, d3] }
  | _ => none }
def TreeLoadsWrongFalsely : Prop := treeLoadsRow.holds Tryz.pinned (OpenSpec.ofChange treeLoadsWrong)

/-- 'davenportlaw16.TreeTells': WHATEVER THE INPUT: true; the input reads as it did. -/
def treeTellsSpec : ChangeSpec := { name := "treeTells", fn := fun _ => fun
  | [d1, d2, d3] => { results := [.lit (.bool true)], args := [d1, d2, d3] }
  | _ => none }
def treeTellsRow : OpenClaim := { program := "ytenmnhnlcnmloaagreat", sum := "f138ad053d2ed77d9f1c56c48eecd4691b39c5653cf2263dd2bdb08455e59149", func := "davenport/davenportlaw16.TreeTells", spec := "treeTells", inPlace := ["internal/bytealg.Compare"], unfollowed := true, recurses := true, apart := false }
def TreeTellsSaid : Prop := treeTellsRow.holds Tryz.pinned (OpenSpec.ofChange treeTellsSpec)

/-- ITS FALSE NEIGHBOUR: 'it returns false'. Refute it at one input. -/
def treeTellsWrong : ChangeSpec := { name := "treeTells", fn := fun _ => fun
  | [d1, d2, d3] => { results := [.lit (.bool false)], args := [d1, d2, d3] }
  | _ => none }
def TreeTellsWrongFalsely : Prop := treeTellsRow.holds Tryz.pinned (OpenSpec.ofChange treeTellsWrong)

/-- 'davenportlaw16.TreeStays': WHATEVER THE INPUT: true; the input reads as it did. -/
def treeStaysSpec : ChangeSpec := { name := "treeStays", fn := fun _ => fun
  | [d1, d2, d3] => { results := [.lit (.bool true)], args := [d1, d2, d3] }
  | _ => none }
def treeStaysRow : OpenClaim := { program := "ytenmnhnlcnmloaagreat", sum := "f138ad053d2ed77d9f1c56c48eecd4691b39c5653cf2263dd2bdb08455e59149", func := "davenport/davenportlaw16.TreeStays", spec := "treeStays", inPlace := ["internal/bytealg.Compare"], unfollowed := true, recurses := true, apart := false }
def TreeStaysSaid : Prop := treeStaysRow.holds Tryz.pinned (OpenSpec.ofChange treeStaysSpec)

/-- ITS FALSE NEIGHBOUR: 'it returns false'. Refute it at one input. -/
def treeStaysWrong : ChangeSpec := { name := "treeStays", fn := fun _ => fun
  | [d1, d2, d3] => { results := [.lit (.bool false)], args := [d1, d2, d3] }
  | _ => none }
def TreeStaysWrongFalsely : Prop := treeStaysRow.holds Tryz.pinned (OpenSpec.ofChange treeStaysWrong)

/-- 'davenportlaw18.FoldEnds': WHATEVER THE INPUT: true; the input reads as it did. -/
def foldEndsSpec : ChangeSpec := { name := "foldEnds", fn := fun _ => fun
  | [d1, d2, d3] => { results := [.lit (.bool true)], args := [d1, d2, d3] }
  | _ => none }
def foldEndsRow : OpenClaim := { program := "ytenmnhnlcnmloaagreat", sum := "f138ad053d2ed77d9f1c56c48eecd4691b39c5653cf2263dd2bdb08455e59149", func := "davenport/davenportlaw18.FoldEnds", spec := "foldEnds", inPlace := ["internal/bytealg.Compare"], unfollowed := true, recurses := true, apart := false }
def FoldEndsSaid : Prop := foldEndsRow.holds Tryz.pinned (OpenSpec.ofChange foldEndsSpec)

/-- ITS FALSE NEIGHBOUR: 'it returns false'. Refute it at one input. -/
def foldEndsWrong : ChangeSpec := { name := "foldEnds", fn := fun _ => fun
  | [d1, d2, d3] => { results := [.lit (.bool false)], args := [d1, d2, d3] }
  | _ => none }
def FoldEndsWrongFalsely : Prop := foldEndsRow.holds Tryz.pinned (OpenSpec.ofChange foldEndsWrong)

/-- 'davenportlaw18.FoldRanges': WHATEVER THE INPUT: true; the input reads as it did. -/
def foldRangesSpec : ChangeSpec := { name := "foldRanges", fn := fun _ => fun
  | [d1, d2] => { results := [.lit (.bool true)], args := [d1, d2] }
  | _ => none }
def foldRangesRow : OpenClaim := { program := "ytenmnhnlcnmloaagreat", sum := "f138ad053d2ed77d9f1c56c48eecd4691b39c5653cf2263dd2bdb08455e59149", func := "davenport/davenportlaw18.FoldRanges", spec := "foldRanges", inPlace := ["internal/bytealg.Compare"], unfollowed := true, recurses := true, apart := false }
def FoldRangesSaid : Prop := foldRangesRow.holds Tryz.pinned (OpenSpec.ofChange foldRangesSpec)

/-- ITS FALSE NEIGHBOUR: 'it returns false'. Refute it at one input. -/
def foldRangesWrong : ChangeSpec := { name := "foldRanges", fn := fun _ => fun
  | [d1, d2] => { results := [.lit (.bool false)], args := [d1, d2] }
  | _ => none }
def FoldRangesWrongFalsely : Prop := foldRangesRow.holds Tryz.pinned (OpenSpec.ofChange foldRangesWrong)

/-- 'davenportlaw18.FoldParts': WHATEVER THE INPUT: true; the input reads as it did. -/
def foldPartsSpec : ChangeSpec := { name := "foldParts", fn := fun _ => fun
  | [d1, d2] => { results := [.lit (.bool true)], args := [d1, d2] }
  | _ => none }
def foldPartsRow : OpenClaim := { program := "ytenmnhnlcnmloaagreat", sum := "f138ad053d2ed77d9f1c56c48eecd4691b39c5653cf2263dd2bdb08455e59149", func := "davenport/davenportlaw18.FoldParts", spec := "foldParts", inPlace := ["internal/bytealg.Compare"], unfollowed := true, recurses := true, apart := false }
def FoldPartsSaid : Prop := foldPartsRow.holds Tryz.pinned (OpenSpec.ofChange foldPartsSpec)

/-- ITS FALSE NEIGHBOUR: 'it returns false'. Refute it at one input. -/
def foldPartsWrong : ChangeSpec := { name := "foldParts", fn := fun _ => fun
  | [d1, d2] => { results := [.lit (.bool false)], args := [d1, d2] }
  | _ => none }
def FoldPartsWrongFalsely : Prop := foldPartsRow.holds Tryz.pinned (OpenSpec.ofChange foldPartsWrong)

/-- 'davenportlaw16.TreeRanges': WHATEVER THE INPUT: true; the input reads as it did. -/
def treeRangesSpec : ChangeSpec := { name := "treeRanges", fn := fun _ => fun
  | [d1, d2, d3] => { results := [.lit (.bool true)], args := [d1, d2, d3] }
  | _ => none }
def treeRangesRow : OpenClaim := { program := "ytenmnhnlcnmloaagreat", sum := "f138ad053d2ed77d9f1c56c48eecd4691b39c5653cf2263dd2bdb08455e59149", func := "davenport/davenportlaw16.TreeRanges", spec := "treeRanges", inPlace := ["internal/bytealg.Compare"], unfollowed := true, recurses := true, apart := false }
def TreeRangesSaid : Prop := treeRangesRow.holds Tryz.pinned (OpenSpec.ofChange treeRangesSpec)

/-- ITS FALSE NEIGHBOUR: 'it returns false'. Refute it at one input. -/
def treeRangesWrong : ChangeSpec := { name := "treeRanges", fn := fun _ => fun
  | [d1, d2, d3] => { results := [.lit (.bool false)], args := [d1, d2, d3] }
  | _ => none }
def TreeRangesWrongFalsely : Prop := treeRangesRow.holds Tryz.pinned (OpenSpec.ofChange treeRangesWrong)

/- THE SECOND FORM. 'bulk': how many values and letters a reading holds, each counted each time it is reached (what is shared counts as often as it is met; a slice's spare places count too). A statement '..UptoSaid' is the law's where the arguments, and the package variables that the reading takes, are together of bulk at most 1048576: NARROWER than '..Said'. Prove '..Said' where nothing that the law and all that it calls make is longer than what came in: it says more and counts as full. Else prove '..UptoSaid'. A law counts once. -/
mutual
def uptoBulk {H : Type} : DataW H → Nat
  | .lit (.string bytes) => bytes.length + 1
  | .lit _ => 1
  | .nil => 1
  | .ptr d => uptoBulk d + 1
  | .slice elems spare => uptoBulkAll elems + uptoBulkAll spare + 1
  | .agg parts => uptoBulkAll parts + 1
  | .iface _ d => uptoBulk d + 1
  | .map entries => uptoBulkEntries entries + 1
  | .held _ => 1
def uptoBulkAll {H : Type} : List (DataW H) → Nat
  | [] => 0
  | d :: r => uptoBulk d + uptoBulkAll r
def uptoBulkEntries {H : Type} : List (Lit × DataW H) → Nat
  | [] => 0
  | x :: r => uptoBulkEntry x + uptoBulkEntries r
def uptoBulkEntry {H : Type} : Lit × DataW H → Nat
  | (.string bytes, d) => bytes.length + uptoBulk d + 1
  | (_, d) => uptoBulk d + 1
 end
def uptoSmall : (H : Type) → List (DataW H) → Bool := fun _ ds => decide (uptoBulkAll ds ≤ 1048576)
def OpenSpec.upto (s : _root_.Go.ChangeSpec) : _root_.Go.OpenSpec := { _root_.Go.OpenSpec.ofChange s with cond := some uptoSmall }

/-- 'davenportlaw18.FoldTells', WHERE WHAT IT READS IS OF BULK AT MOST 1048576: true; the input reads as it did. -/
def foldTellsUptoRow : OpenClaim := { program := "ytenmnhnlcnmloaagreat", sum := "f138ad053d2ed77d9f1c56c48eecd4691b39c5653cf2263dd2bdb08455e59149", func := "davenport/davenportlaw18.FoldTells", spec := "foldTells", inPlace := ["internal/bytealg.Compare"], unfollowed := true, recurses := true, apart := false, narrowed := true }
def FoldTellsUptoSaid : Prop := foldTellsUptoRow.holds Tryz.pinned (OpenSpec.upto foldTellsSpec)

/-- 'davenportlaw16.TreeChecks', WHERE WHAT IT READS IS OF BULK AT MOST 1048576: true; the input reads as it did. -/
def treeChecksUptoRow : OpenClaim := { program := "ytenmnhnlcnmloaagreat", sum := "f138ad053d2ed77d9f1c56c48eecd4691b39c5653cf2263dd2bdb08455e59149", func := "davenport/davenportlaw16.TreeChecks", spec := "treeChecks", inPlace := ["internal/bytealg.Compare"], unfollowed := true, recurses := true, apart := false, narrowed := true }
def TreeChecksUptoSaid : Prop := treeChecksUptoRow.holds Tryz.pinned (OpenSpec.upto treeChecksSpec)

/-- 'davenportlaw16.TreeLoads', WHERE WHAT IT READS IS OF BULK AT MOST 1048576: true; the input reads as it did. -/
def treeLoadsUptoRow : OpenClaim := { program := "ytenmnhnlcnmloaagreat", sum := "f138ad053d2ed77d9f1c56c48eecd4691b39c5653cf2263dd2bdb08455e59149", func := "davenport/davenportlaw16.TreeLoads", spec := "treeLoads", inPlace := ["internal/bytealg.Compare"], unfollowed := true, recurses := true, apart := false, narrowed := true }
def TreeLoadsUptoSaid : Prop := treeLoadsUptoRow.holds Tryz.pinned (OpenSpec.upto treeLoadsSpec)

/-- 'davenportlaw16.TreeTells', WHERE WHAT IT READS IS OF BULK AT MOST 1048576: true; the input reads as it did. -/
def treeTellsUptoRow : OpenClaim := { program := "ytenmnhnlcnmloaagreat", sum := "f138ad053d2ed77d9f1c56c48eecd4691b39c5653cf2263dd2bdb08455e59149", func := "davenport/davenportlaw16.TreeTells", spec := "treeTells", inPlace := ["internal/bytealg.Compare"], unfollowed := true, recurses := true, apart := false, narrowed := true }
def TreeTellsUptoSaid : Prop := treeTellsUptoRow.holds Tryz.pinned (OpenSpec.upto treeTellsSpec)

/-- 'davenportlaw16.TreeStays', WHERE WHAT IT READS IS OF BULK AT MOST 1048576: true; the input reads as it did. -/
def treeStaysUptoRow : OpenClaim := { program := "ytenmnhnlcnmloaagreat", sum := "f138ad053d2ed77d9f1c56c48eecd4691b39c5653cf2263dd2bdb08455e59149", func := "davenport/davenportlaw16.TreeStays", spec := "treeStays", inPlace := ["internal/bytealg.Compare"], unfollowed := true, recurses := true, apart := false, narrowed := true }
def TreeStaysUptoSaid : Prop := treeStaysUptoRow.holds Tryz.pinned (OpenSpec.upto treeStaysSpec)

/-- 'davenportlaw18.FoldEnds', WHERE WHAT IT READS IS OF BULK AT MOST 1048576: true; the input reads as it did. -/
def foldEndsUptoRow : OpenClaim := { program := "ytenmnhnlcnmloaagreat", sum := "f138ad053d2ed77d9f1c56c48eecd4691b39c5653cf2263dd2bdb08455e59149", func := "davenport/davenportlaw18.FoldEnds", spec := "foldEnds", inPlace := ["internal/bytealg.Compare"], unfollowed := true, recurses := true, apart := false, narrowed := true }
def FoldEndsUptoSaid : Prop := foldEndsUptoRow.holds Tryz.pinned (OpenSpec.upto foldEndsSpec)

/-- 'davenportlaw18.FoldRanges', WHERE WHAT IT READS IS OF BULK AT MOST 1048576: true; the input reads as it did. -/
def foldRangesUptoRow : OpenClaim := { program := "ytenmnhnlcnmloaagreat", sum := "f138ad053d2ed77d9f1c56c48eecd4691b39c5653cf2263dd2bdb08455e59149", func := "davenport/davenportlaw18.FoldRanges", spec := "foldRanges", inPlace := ["internal/bytealg.Compare"], unfollowed := true, recurses := true, apart := false, narrowed := true }
def FoldRangesUptoSaid : Prop := foldRangesUptoRow.holds Tryz.pinned (OpenSpec.upto foldRangesSpec)

/-- 'davenportlaw18.FoldParts', WHERE WHAT IT READS IS OF BULK AT MOST 1048576: true; the input reads as it did. -/
def foldPartsUptoRow : OpenClaim := { program := "ytenmnhnlcnmloaagreat", sum := "f138ad053d2ed77d9f1c56c48eecd4691b39c5653cf2263dd2bdb08455e59149", func := "davenport/davenportlaw18.FoldParts", spec := "foldParts", inPlace := ["internal/bytealg.Compare"], unfollowed := true, recurses := true, apart := false, narrowed := true }
def FoldPartsUptoSaid : Prop := foldPartsUptoRow.holds Tryz.pinned (OpenSpec.upto foldPartsSpec)

/-- 'davenportlaw16.TreeRanges', WHERE WHAT IT READS IS OF BULK AT MOST 1048576: true; the input reads as it did. -/
def treeRangesUptoRow : OpenClaim := { program := "ytenmnhnlcnmloaagreat", sum := "f138ad053d2ed77d9f1c56c48eecd4691b39c5653cf2263dd2bdb08455e59149", func := "davenport/davenportlaw16.TreeRanges", spec := "treeRanges", inPlace := ["internal/bytealg.Compare"], unfollowed := true, recurses := true, apart := false, narrowed := true }
def TreeRangesUptoSaid : Prop := treeRangesUptoRow.holds Tryz.pinned (OpenSpec.upto treeRangesSpec)

end Rows
end Go.Proofs.YtenmnhnlcnmloaaGreat
