/-
  NARROWER THAN 'FOR EVERY INPUT', by the rows' own cells (each row's printed sentence says how): MonoidComes: laid · MonoidSmall: laid · ValueMakes: loops, laid · ValueTells: loops, laid · ValueChecks: loops, laid · ValueLists: loops, laid · ValueHolds: loops, laid · ValueOrders: loops, laid · ValuePaths: loops, laid.
  DERIVED. THE GIVEN ROWS OF THIS SEAT. 9 by the template 'for every input the law returns true; each argument reads behind the call as it read before'; 0 by the template 'total and deterministic' (their statements: YtmcmknndhppljaaDoorTotals.lean).
  GIVEN WITH THE SEED: the statements are not yours to turn. If you find one false, say at which input.
  Laid BY PROGRAM, IN A SANDBOX (cutbox-rows.mjs): the forced cells as the released guide's own fill.sh prints them over the translation 6f7a84037af45978… (all of the seat's roots in one cut). By AI agents, Wed Nov 11 2026. No macro, syntax, notation, axiom, sorry.
-/
import Derived.Test.YtmcmknndhppljaaDoorChecked
import GoSem.Claim
import GoSem.ClaimJoined
import GoSem.ClaimMapViews
import Derived.JoinedTies
import Derived.KernelRfl
namespace Go.Proofs.YtmcmknndhppljaaDoor
/- THE CELL 'sum', in the pinned program and in every row, IS THE sha256 OF THE DUMP (.gsa) THAT YtmcmknndhppljaaDoorProg.lean LOADS. Nothing in Lean hashes anything: it is a label: what it is worth is what the hold of that sum in a sandbox is worth. -/
noncomputable def Tryd.pinned : Pinned := { name := "ytmcmknndhppljaadoor", sum := "6f7a84037af45978d93483122f7a833e406e6328f8734a5d99e297cef9e005eb", checked := Tryd.checked }
namespace Rows
def none {H : Type} : Left H := { results := [], args := [] }

/- WHAT THE LISTED PACKAGE-LEVEL VARIABLES READ AS WHEN THE CALL BEGINS. Each datum BY PROGRAM (the guide's laid-datum.mjs) off the statement by which the dump's own 'gosem.cut.vars' lays the variable. In a bare row this is a premise. The card (YtmcmknndhppljaaDoorCards.lean) ties it to the program's text. -/
def laid_davenport_utf_none {H : Type} : DataW H := .agg [.lit (.int .i64 0), .lit (.int .i64 0)]

/-- 'davenportlaw13.MonoidComes': WHATEVER THE INPUT: true; the input reads as it did. -/
def monoidComesSpec : ChangeSpec := { name := "monoidComes", fn := fun _ => fun
  | [d] => { results := [.lit (.bool true)], args := [d] }
  | _ => none }
def monoidComesRow : OpenClaim := { program := "ytmcmknndhppljaadoor", sum := "6f7a84037af45978d93483122f7a833e406e6328f8734a5d99e297cef9e005eb", func := "davenport/davenportlaw13.MonoidComes", spec := "monoidComes", unfollowed := true, recurses := true, named := ["davenport/utf.none"], apart := false, laid := [("davenport/utf.none", laid_davenport_utf_none)] }
def MonoidComesSaid : Prop := monoidComesRow.holds Tryd.pinned (OpenSpec.ofChange monoidComesSpec)

/-- ITS FALSE NEIGHBOUR: 'it returns false'. Refute it at one input. -/
def monoidComesWrong : ChangeSpec := { name := "monoidComes", fn := fun _ => fun
  | [d] => { results := [.lit (.bool false)], args := [d] }
  | _ => none }
def MonoidComesWrongFalsely : Prop := monoidComesRow.holds Tryd.pinned (OpenSpec.ofChange monoidComesWrong)

/-- 'davenportlaw13.MonoidSmall': WHATEVER THE INPUT: true; the input reads as it did. -/
def monoidSmallSpec : ChangeSpec := { name := "monoidSmall", fn := fun _ => fun
  | [d] => { results := [.lit (.bool true)], args := [d] }
  | _ => none }
def monoidSmallRow : OpenClaim := { program := "ytmcmknndhppljaadoor", sum := "6f7a84037af45978d93483122f7a833e406e6328f8734a5d99e297cef9e005eb", func := "davenport/davenportlaw13.MonoidSmall", spec := "monoidSmall", unfollowed := true, recurses := true, named := ["davenport/utf.none"], apart := false, laid := [("davenport/utf.none", laid_davenport_utf_none)] }
def MonoidSmallSaid : Prop := monoidSmallRow.holds Tryd.pinned (OpenSpec.ofChange monoidSmallSpec)

/-- ITS FALSE NEIGHBOUR: 'it returns false'. Refute it at one input. -/
def monoidSmallWrong : ChangeSpec := { name := "monoidSmall", fn := fun _ => fun
  | [d] => { results := [.lit (.bool false)], args := [d] }
  | _ => none }
def MonoidSmallWrongFalsely : Prop := monoidSmallRow.holds Tryd.pinned (OpenSpec.ofChange monoidSmallWrong)

/-- 'davenportlaw04.ValueMakes': WHATEVER THE INPUT: true; the input reads as it did. -/
def valueMakesSpec : ChangeSpec := { name := "valueMakes", fn := fun _ => fun
  | [d1, d2, d3] => { results := [.lit (.bool true)], args := [d1, d2, d3] }
  | _ => none }
def valueMakesRow : OpenClaim := { program := "ytmcmknndhppljaadoor", sum := "6f7a84037af45978d93483122f7a833e406e6328f8734a5d99e297cef9e005eb", func := "davenport/davenportlaw04.ValueMakes", spec := "valueMakes", unfollowed := true, recurses := true, named := ["davenport/utf.none"], loops := true, apart := false, laid := [("davenport/utf.none", laid_davenport_utf_none)] }
def ValueMakesSaid : Prop := valueMakesRow.holds Tryd.pinned (OpenSpec.ofChange valueMakesSpec)

/-- ITS FALSE NEIGHBOUR: 'it returns false'. Refute it at one input. -/
def valueMakesWrong : ChangeSpec := { name := "valueMakes", fn := fun _ => fun
  | [d1, d2, d3] => { results := [.lit (.bool false)], args := [d1, d2, d3] }
  | _ => none }
def ValueMakesWrongFalsely : Prop := valueMakesRow.holds Tryd.pinned (OpenSpec.ofChange valueMakesWrong)

/-- 'davenportlaw04.ValueTells': WHATEVER THE INPUT: true; the input reads as it did. -/
def valueTellsSpec : ChangeSpec := { name := "valueTells", fn := fun _ => fun
  | [d1, d2, d3] => { results := [.lit (.bool true)], args := [d1, d2, d3] }
  | _ => none }
def valueTellsRow : OpenClaim := { program := "ytmcmknndhppljaadoor", sum := "6f7a84037af45978d93483122f7a833e406e6328f8734a5d99e297cef9e005eb", func := "davenport/davenportlaw04.ValueTells", spec := "valueTells", unfollowed := true, recurses := true, named := ["davenport/utf.none"], loops := true, apart := false, laid := [("davenport/utf.none", laid_davenport_utf_none)] }
def ValueTellsSaid : Prop := valueTellsRow.holds Tryd.pinned (OpenSpec.ofChange valueTellsSpec)

/-- ITS FALSE NEIGHBOUR: 'it returns false'. Refute it at one input. -/
def valueTellsWrong : ChangeSpec := { name := "valueTells", fn := fun _ => fun
  | [d1, d2, d3] => { results := [.lit (.bool false)], args := [d1, d2, d3] }
  | _ => none }
def ValueTellsWrongFalsely : Prop := valueTellsRow.holds Tryd.pinned (OpenSpec.ofChange valueTellsWrong)

/-- 'davenportlaw04.ValueChecks': WHATEVER THE INPUT: true; the input reads as it did. -/
def valueChecksSpec : ChangeSpec := { name := "valueChecks", fn := fun _ => fun
  | [d1, d2] => { results := [.lit (.bool true)], args := [d1, d2] }
  | _ => none }
def valueChecksRow : OpenClaim := { program := "ytmcmknndhppljaadoor", sum := "6f7a84037af45978d93483122f7a833e406e6328f8734a5d99e297cef9e005eb", func := "davenport/davenportlaw04.ValueChecks", spec := "valueChecks", unfollowed := true, recurses := true, named := ["davenport/utf.none"], loops := true, apart := false, laid := [("davenport/utf.none", laid_davenport_utf_none)] }
def ValueChecksSaid : Prop := valueChecksRow.holds Tryd.pinned (OpenSpec.ofChange valueChecksSpec)

/-- ITS FALSE NEIGHBOUR: 'it returns false'. Refute it at one input. -/
def valueChecksWrong : ChangeSpec := { name := "valueChecks", fn := fun _ => fun
  | [d1, d2] => { results := [.lit (.bool false)], args := [d1, d2] }
  | _ => none }
def ValueChecksWrongFalsely : Prop := valueChecksRow.holds Tryd.pinned (OpenSpec.ofChange valueChecksWrong)

/-- 'davenportlaw04.ValueLists': WHATEVER THE INPUT: true; the input reads as it did. -/
def valueListsSpec : ChangeSpec := { name := "valueLists", fn := fun _ => fun
  | [d] => { results := [.lit (.bool true)], args := [d] }
  | _ => none }
def valueListsRow : OpenClaim := { program := "ytmcmknndhppljaadoor", sum := "6f7a84037af45978d93483122f7a833e406e6328f8734a5d99e297cef9e005eb", func := "davenport/davenportlaw04.ValueLists", spec := "valueLists", unfollowed := true, recurses := true, named := ["davenport/utf.none"], loops := true, apart := false, laid := [("davenport/utf.none", laid_davenport_utf_none)] }
def ValueListsSaid : Prop := valueListsRow.holds Tryd.pinned (OpenSpec.ofChange valueListsSpec)

/-- ITS FALSE NEIGHBOUR: 'it returns false'. Refute it at one input. -/
def valueListsWrong : ChangeSpec := { name := "valueLists", fn := fun _ => fun
  | [d] => { results := [.lit (.bool false)], args := [d] }
  | _ => none }
def ValueListsWrongFalsely : Prop := valueListsRow.holds Tryd.pinned (OpenSpec.ofChange valueListsWrong)

/-- 'davenportlaw04.ValueHolds': WHATEVER THE INPUT: true; the input reads as it did. -/
def valueHoldsSpec : ChangeSpec := { name := "valueHolds", fn := fun _ => fun
  | [d] => { results := [.lit (.bool true)], args := [d] }
  | _ => none }
def valueHoldsRow : OpenClaim := { program := "ytmcmknndhppljaadoor", sum := "6f7a84037af45978d93483122f7a833e406e6328f8734a5d99e297cef9e005eb", func := "davenport/davenportlaw04.ValueHolds", spec := "valueHolds", unfollowed := true, recurses := true, named := ["davenport/utf.none"], loops := true, apart := false, laid := [("davenport/utf.none", laid_davenport_utf_none)] }
def ValueHoldsSaid : Prop := valueHoldsRow.holds Tryd.pinned (OpenSpec.ofChange valueHoldsSpec)

/-- ITS FALSE NEIGHBOUR: 'it returns false'. Refute it at one input. -/
def valueHoldsWrong : ChangeSpec := { name := "valueHolds", fn := fun _ => fun
  | [d] => { results := [.lit (.bool false)], args := [d] }
  | _ => none }
def ValueHoldsWrongFalsely : Prop := valueHoldsRow.holds Tryd.pinned (OpenSpec.ofChange valueHoldsWrong)

/-- 'davenportlaw04.ValueOrders': WHATEVER THE INPUT: true; the input reads as it did. -/
def valueOrdersSpec : ChangeSpec := { name := "valueOrders", fn := fun _ => fun
  | [d1, d2] => { results := [.lit (.bool true)], args := [d1, d2] }
  | _ => none }
def valueOrdersRow : OpenClaim := { program := "ytmcmknndhppljaadoor", sum := "6f7a84037af45978d93483122f7a833e406e6328f8734a5d99e297cef9e005eb", func := "davenport/davenportlaw04.ValueOrders", spec := "valueOrders", unfollowed := true, recurses := true, named := ["davenport/utf.none"], loops := true, apart := false, laid := [("davenport/utf.none", laid_davenport_utf_none)] }
def ValueOrdersSaid : Prop := valueOrdersRow.holds Tryd.pinned (OpenSpec.ofChange valueOrdersSpec)

/-- ITS FALSE NEIGHBOUR: 'it returns false'. Refute it at one input. -/
def valueOrdersWrong : ChangeSpec := { name := "valueOrders", fn := fun _ => fun
  | [d1, d2] => { results := [.lit (.bool false)], args := [d1, d2] }
  | _ => none }
def ValueOrdersWrongFalsely : Prop := valueOrdersRow.holds Tryd.pinned (OpenSpec.ofChange valueOrdersWrong)

/-- 'davenportlaw04.ValuePaths': WHATEVER THE INPUT: true; the input reads as it did. -/
def valuePathsSpec : ChangeSpec := { name := "valuePaths", fn := fun _ => fun
  | [d1, d2, d3] => { results := [.lit (.bool true)], args := [d1, d2, d3] }
  | _ => none }
def valuePathsRow : OpenClaim := { program := "ytmcmknndhppljaadoor", sum := "6f7a84037af45978d93483122f7a833e406e6328f8734a5d99e297cef9e005eb", func := "davenport/davenportlaw04.ValuePaths", spec := "valuePaths", unfollowed := true, recurses := true, named := ["davenport/utf.none"], loops := true, apart := false, laid := [("davenport/utf.none", laid_davenport_utf_none)] }
def ValuePathsSaid : Prop := valuePathsRow.holds Tryd.pinned (OpenSpec.ofChange valuePathsSpec)

/-- ITS FALSE NEIGHBOUR: 'it returns false'. Refute it at one input. -/
def valuePathsWrong : ChangeSpec := { name := "valuePaths", fn := fun _ => fun
  | [d1, d2, d3] => { results := [.lit (.bool false)], args := [d1, d2, d3] }
  | _ => none }
def ValuePathsWrongFalsely : Prop := valuePathsRow.holds Tryd.pinned (OpenSpec.ofChange valuePathsWrong)

/- THE SECOND FORM. 'bulk': how many values and letters a reading holds, each counted each time it is reached (what is shared counts as often as it is met; a slice's spare places count too). A statement '..UptoSaid' is the law's where the arguments, and the package variables that the reading takes, are together of bulk at most 1048576: NARROWER than '..Said'. Prove '..Said' where nothing that the law and all that it calls make is longer than what came in: it says more and counts as full. Else prove '..UptoSaid'. A law counts once. -/
mutual
def uptoBulk {H : Type} : DataW H → Nat
  | .lit (.string bytes) => bytes.length + 1
  | .lit _ => 1
  | .nil => 1
  | .ptr d => uptoBulk d + 1
  | .slice elems spare => uptoBulkAll elems + uptoBulkAll spare + 1
  | .agg parts => uptoBulkAll parts + 1
  | .iface _ d => uptoBulk d + 1
  | .map entries => uptoBulkEntries entries + 1
  | .held _ => 1
def uptoBulkAll {H : Type} : List (DataW H) → Nat
  | [] => 0
  | d :: r => uptoBulk d + uptoBulkAll r
def uptoBulkEntries {H : Type} : List (Lit × DataW H) → Nat
  | [] => 0
  | x :: r => uptoBulkEntry x + uptoBulkEntries r
def uptoBulkEntry {H : Type} : Lit × DataW H → Nat
  | (.string bytes, d) => bytes.length + uptoBulk d + 1
  | (_, d) => uptoBulk d + 1
 end
def uptoSmall : (H : Type) → List (DataW H) → Bool := fun _ ds => decide (uptoBulkAll ds ≤ 1048576)
def OpenSpec.upto (s : _root_.Go.ChangeSpec) : _root_.Go.OpenSpec := { _root_.Go.OpenSpec.ofChange s with cond := some uptoSmall }

/-- 'davenportlaw13.MonoidComes', WHERE WHAT IT READS IS OF BULK AT MOST 1048576: true; the input reads as it did. -/
def monoidComesUptoRow : OpenClaim := { program := "ytmcmknndhppljaadoor", sum := "6f7a84037af45978d93483122f7a833e406e6328f8734a5d99e297cef9e005eb", func := "davenport/davenportlaw13.MonoidComes", spec := "monoidComes", unfollowed := true, recurses := true, named := ["davenport/utf.none"], apart := false, laid := [("davenport/utf.none", laid_davenport_utf_none)], narrowed := true }
def MonoidComesUptoSaid : Prop := monoidComesUptoRow.holds Tryd.pinned (OpenSpec.upto monoidComesSpec)

/-- 'davenportlaw13.MonoidSmall', WHERE WHAT IT READS IS OF BULK AT MOST 1048576: true; the input reads as it did. -/
def monoidSmallUptoRow : OpenClaim := { program := "ytmcmknndhppljaadoor", sum := "6f7a84037af45978d93483122f7a833e406e6328f8734a5d99e297cef9e005eb", func := "davenport/davenportlaw13.MonoidSmall", spec := "monoidSmall", unfollowed := true, recurses := true, named := ["davenport/utf.none"], apart := false, laid := [("davenport/utf.none", laid_davenport_utf_none)], narrowed := true }
def MonoidSmallUptoSaid : Prop := monoidSmallUptoRow.holds Tryd.pinned (OpenSpec.upto monoidSmallSpec)

/-- 'davenportlaw04.ValueMakes', WHERE WHAT IT READS IS OF BULK AT MOST 1048576: true; the input reads as it did. -/
def valueMakesUptoRow : OpenClaim := { program := "ytmcmknndhppljaadoor", sum := "6f7a84037af45978d93483122f7a833e406e6328f8734a5d99e297cef9e005eb", func := "davenport/davenportlaw04.ValueMakes", spec := "valueMakes", unfollowed := true, recurses := true, named := ["davenport/utf.none"], loops := true, apart := false, laid := [("davenport/utf.none", laid_davenport_utf_none)], narrowed := true }
def ValueMakesUptoSaid : Prop := valueMakesUptoRow.holds Tryd.pinned (OpenSpec.upto valueMakesSpec)

/-- 'davenportlaw04.ValueTells', WHERE WHAT IT READS IS OF BULK AT MOST 1048576: true; the input reads as it did. -/
def valueTellsUptoRow : OpenClaim := { program := "ytmcmknndhppljaadoor", sum := "6f7a84037af45978d93483122f7a833e406e6328f8734a5d99e297cef9e005eb", func := "davenport/davenportlaw04.ValueTells", spec := "valueTells", unfollowed := true, recurses := true, named := ["davenport/utf.none"], loops := true, apart := false, laid := [("davenport/utf.none", laid_davenport_utf_none)], narrowed := true }
def ValueTellsUptoSaid : Prop := valueTellsUptoRow.holds Tryd.pinned (OpenSpec.upto valueTellsSpec)

/-- 'davenportlaw04.ValueChecks', WHERE WHAT IT READS IS OF BULK AT MOST 1048576: true; the input reads as it did. -/
def valueChecksUptoRow : OpenClaim := { program := "ytmcmknndhppljaadoor", sum := "6f7a84037af45978d93483122f7a833e406e6328f8734a5d99e297cef9e005eb", func := "davenport/davenportlaw04.ValueChecks", spec := "valueChecks", unfollowed := true, recurses := true, named := ["davenport/utf.none"], loops := true, apart := false, laid := [("davenport/utf.none", laid_davenport_utf_none)], narrowed := true }
def ValueChecksUptoSaid : Prop := valueChecksUptoRow.holds Tryd.pinned (OpenSpec.upto valueChecksSpec)

/-- 'davenportlaw04.ValueLists', WHERE WHAT IT READS IS OF BULK AT MOST 1048576: true; the input reads as it did. -/
def valueListsUptoRow : OpenClaim := { program := "ytmcmknndhppljaadoor", sum := "6f7a84037af45978d93483122f7a833e406e6328f8734a5d99e297cef9e005eb", func := "davenport/davenportlaw04.ValueLists", spec := "valueLists", unfollowed := true, recurses := true, named := ["davenport/utf.none"], loops := true, apart := false, laid := [("davenport/utf.none", laid_davenport_utf_none)], narrowed := true }
def ValueListsUptoSaid : Prop := valueListsUptoRow.holds Tryd.pinned (OpenSpec.upto valueListsSpec)

/-- 'davenportlaw04.ValueHolds', WHERE WHAT IT READS IS OF BULK AT MOST 1048576: true; the input reads as it did. -/
def valueHoldsUptoRow : OpenClaim := { program := "ytmcmknndhppljaadoor", sum := "6f7a84037af45978d93483122f7a833e406e6328f8734a5d99e297cef9e005eb", func := "davenport/davenportlaw04.ValueHolds", spec := "valueHolds", unfollowed := true, recurses := true, named := ["davenport/utf.none"], loops := true, apart := false, laid := [("davenport/utf.none", laid_davenport_utf_none)], narrowed := true }
def ValueHoldsUptoSaid : Prop := valueHoldsUptoRow.holds Tryd.pinned (OpenSpec.upto valueHoldsSpec)

/-- 'davenportlaw04.ValueOrders', WHERE WHAT IT READS IS OF BULK AT MOST 1048576: true; the input reads as it did. -/
def valueOrdersUptoRow : OpenClaim := { program := "ytmcmknndhppljaadoor", sum := "6f7a84037af45978d93483122f7a833e406e6328f8734a5d99e297cef9e005eb", func := "davenport/davenportlaw04.ValueOrders", spec := "valueOrders", unfollowed := true, recurses := true, named := ["davenport/utf.none"], loops := true, apart := false, laid := [("davenport/utf.none", laid_davenport_utf_none)], narrowed := true }
def ValueOrdersUptoSaid : Prop := valueOrdersUptoRow.holds Tryd.pinned (OpenSpec.upto valueOrdersSpec)

/-- 'davenportlaw04.ValuePaths', WHERE WHAT IT READS IS OF BULK AT MOST 1048576: true; the input reads as it did. -/
def valuePathsUptoRow : OpenClaim := { program := "ytmcmknndhppljaadoor", sum := "6f7a84037af45978d93483122f7a833e406e6328f8734a5d99e297cef9e005eb", func := "davenport/davenportlaw04.ValuePaths", spec := "valuePaths", unfollowed := true, recurses := true, named := ["davenport/utf.none"], loops := true, apart := false, laid := [("davenport/utf.none", laid_davenport_utf_none)], narrowed := true }
def ValuePathsUptoSaid : Prop := valuePathsUptoRow.holds Tryd.pinned (OpenSpec.upto valuePathsSpec)

end Rows
end Go.Proofs.YtmcmknndhppljaaDoor
