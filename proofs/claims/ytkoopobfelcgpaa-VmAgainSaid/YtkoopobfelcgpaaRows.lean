/-
  No cell of these rows narrows 'for every input' (looked for: loops, veiled, ifaces, maps, wideKeys, modest, calm, conditions, laid).
  DERIVED. THE GIVEN ROWS OF THIS SEAT. 26 by the template 'for every input the law returns true; each argument reads behind the call as it read before'; 0 by the template 'total and deterministic' (their statements: YtkoopobfelcgpaaTotals.lean).
  GIVEN WITH THE SEED: the statements are not yours to turn. If you find one false, say at which input.
  Laid BY PROGRAM, IN A SANDBOX (cutbox-rows.mjs): the forced cells as the released guide's own fill.sh prints them over the translation 7696ba8eb1b2d8fa… (all of the seat's roots in one cut). By AI agents, Wed Nov 11 2026. No macro, syntax, notation, axiom, sorry.
-/
import Derived.Test.YtkoopobfelcgpaaChecked
import GoSem.Claim
import GoSem.ClaimJoined
import GoSem.ClaimMapViews
import Derived.JoinedTies
import Derived.KernelRfl
namespace Go.Proofs.Ytkoopobfelcgpaa
/- THE CELL 'sum', in the pinned program and in every row, IS THE sha256 OF THE DUMP (.gsa) THAT YtkoopobfelcgpaaProg.lean LOADS. Nothing in Lean hashes anything: it is a label: what it is worth is what the hold of that sum in a sandbox is worth. -/
noncomputable def Try.pinned : Pinned := { name := "ytkoopobfelcgpaa", sum := "7696ba8eb1b2d8fa872673f9984265a311d01ca90a2202368298f836c3d9b6f3", checked := Try.checked }
namespace Rows
def none {H : Type} : Left H := { results := [], args := [] }

/-- 'horologelaw05.ModelChecks': WHATEVER THE INPUT: true; the input reads as it did. -/
def modelChecksSpec : ChangeSpec := { name := "modelChecks", fn := fun _ => fun
  | [d] => { results := [.lit (.bool true)], args := [d] }
  | _ => none }
def modelChecksRow : OpenClaim := { program := "ytkoopobfelcgpaa", sum := "7696ba8eb1b2d8fa872673f9984265a311d01ca90a2202368298f836c3d9b6f3", func := "horologe/horologelaw05.ModelChecks", spec := "modelChecks", inPlace := ["math.Float64bits"], unfollowed := true, recurses := true, apart := false }
def ModelChecksSaid : Prop := modelChecksRow.holds Try.pinned (OpenSpec.ofChange modelChecksSpec)

/-- ITS FALSE NEIGHBOUR: 'it returns false'. Refute it at one input. -/
def modelChecksWrong : ChangeSpec := { name := "modelChecks", fn := fun _ => fun
  | [d] => { results := [.lit (.bool false)], args := [d] }
  | _ => none }
def ModelChecksWrongFalsely : Prop := modelChecksRow.holds Try.pinned (OpenSpec.ofChange modelChecksWrong)

/-- 'horologelaw05.ModelIns': WHATEVER THE INPUT: true; the input reads as it did. -/
def modelInsSpec : ChangeSpec := { name := "modelIns", fn := fun _ => fun
  | [d1, d2] => { results := [.lit (.bool true)], args := [d1, d2] }
  | _ => none }
def modelInsRow : OpenClaim := { program := "ytkoopobfelcgpaa", sum := "7696ba8eb1b2d8fa872673f9984265a311d01ca90a2202368298f836c3d9b6f3", func := "horologe/horologelaw05.ModelIns", spec := "modelIns", inPlace := ["math.Float64bits"], unfollowed := true, recurses := true, apart := false }
def ModelInsSaid : Prop := modelInsRow.holds Try.pinned (OpenSpec.ofChange modelInsSpec)

/-- ITS FALSE NEIGHBOUR: 'it returns false'. Refute it at one input. -/
def modelInsWrong : ChangeSpec := { name := "modelIns", fn := fun _ => fun
  | [d1, d2] => { results := [.lit (.bool false)], args := [d1, d2] }
  | _ => none }
def ModelInsWrongFalsely : Prop := modelInsRow.holds Try.pinned (OpenSpec.ofChange modelInsWrong)

/-- 'horologelaw05.ModelSame': WHATEVER THE INPUT: true; the input reads as it did. -/
def modelSameSpec : ChangeSpec := { name := "modelSame", fn := fun _ => fun
  | [d1, d2] => { results := [.lit (.bool true)], args := [d1, d2] }
  | _ => none }
def modelSameRow : OpenClaim := { program := "ytkoopobfelcgpaa", sum := "7696ba8eb1b2d8fa872673f9984265a311d01ca90a2202368298f836c3d9b6f3", func := "horologe/horologelaw05.ModelSame", spec := "modelSame", inPlace := ["math.Float64bits"], unfollowed := true, recurses := true, apart := false }
def ModelSameSaid : Prop := modelSameRow.holds Try.pinned (OpenSpec.ofChange modelSameSpec)

/-- ITS FALSE NEIGHBOUR: 'it returns false'. Refute it at one input. -/
def modelSameWrong : ChangeSpec := { name := "modelSame", fn := fun _ => fun
  | [d1, d2] => { results := [.lit (.bool false)], args := [d1, d2] }
  | _ => none }
def ModelSameWrongFalsely : Prop := modelSameRow.holds Try.pinned (OpenSpec.ofChange modelSameWrong)

/-- 'horologelaw05.ModelCopies': WHATEVER THE INPUT: true; the input reads as it did. -/
def modelCopiesSpec : ChangeSpec := { name := "modelCopies", fn := fun _ => fun
  | [d] => { results := [.lit (.bool true)], args := [d] }
  | _ => none }
def modelCopiesRow : OpenClaim := { program := "ytkoopobfelcgpaa", sum := "7696ba8eb1b2d8fa872673f9984265a311d01ca90a2202368298f836c3d9b6f3", func := "horologe/horologelaw05.ModelCopies", spec := "modelCopies", inPlace := ["math.Float64bits"], unfollowed := true, recurses := true, apart := false }
def ModelCopiesSaid : Prop := modelCopiesRow.holds Try.pinned (OpenSpec.ofChange modelCopiesSpec)

/-- ITS FALSE NEIGHBOUR: 'it returns false'. Refute it at one input. -/
def modelCopiesWrong : ChangeSpec := { name := "modelCopies", fn := fun _ => fun
  | [d] => { results := [.lit (.bool false)], args := [d] }
  | _ => none }
def ModelCopiesWrongFalsely : Prop := modelCopiesRow.holds Try.pinned (OpenSpec.ofChange modelCopiesWrong)

/-- 'horologelaw05.ModelLent': WHATEVER THE INPUT: true; the input reads as it did. -/
def modelLentSpec : ChangeSpec := { name := "modelLent", fn := fun _ => fun
  | [d] => { results := [.lit (.bool true)], args := [d] }
  | _ => none }
def modelLentRow : OpenClaim := { program := "ytkoopobfelcgpaa", sum := "7696ba8eb1b2d8fa872673f9984265a311d01ca90a2202368298f836c3d9b6f3", func := "horologe/horologelaw05.ModelLent", spec := "modelLent", inPlace := ["math.Float64bits"], unfollowed := true, recurses := true, apart := false }
def ModelLentSaid : Prop := modelLentRow.holds Try.pinned (OpenSpec.ofChange modelLentSpec)

/-- ITS FALSE NEIGHBOUR: 'it returns false'. Refute it at one input. -/
def modelLentWrong : ChangeSpec := { name := "modelLent", fn := fun _ => fun
  | [d] => { results := [.lit (.bool false)], args := [d] }
  | _ => none }
def ModelLentWrongFalsely : Prop := modelLentRow.holds Try.pinned (OpenSpec.ofChange modelLentWrong)

/-- 'horologelaw06.ModelioPuts': WHATEVER THE INPUT: true; the input reads as it did. -/
def modelioPutsSpec : ChangeSpec := { name := "modelioPuts", fn := fun _ => fun
  | [d] => { results := [.lit (.bool true)], args := [d] }
  | _ => none }
def modelioPutsRow : OpenClaim := { program := "ytkoopobfelcgpaa", sum := "7696ba8eb1b2d8fa872673f9984265a311d01ca90a2202368298f836c3d9b6f3", func := "horologe/horologelaw06.ModelioPuts", spec := "modelioPuts", inPlace := ["math.Float64bits", "math.Float64frombits"], unfollowed := true, recurses := true, apart := false }
def ModelioPutsSaid : Prop := modelioPutsRow.holds Try.pinned (OpenSpec.ofChange modelioPutsSpec)

/-- ITS FALSE NEIGHBOUR: 'it returns false'. Refute it at one input. -/
def modelioPutsWrong : ChangeSpec := { name := "modelioPuts", fn := fun _ => fun
  | [d] => { results := [.lit (.bool false)], args := [d] }
  | _ => none }
def ModelioPutsWrongFalsely : Prop := modelioPutsRow.holds Try.pinned (OpenSpec.ofChange modelioPutsWrong)

/-- 'horologelaw06.ModelioGets': WHATEVER THE INPUT: true; the input reads as it did. -/
def modelioGetsSpec : ChangeSpec := { name := "modelioGets", fn := fun _ => fun
  | [d] => { results := [.lit (.bool true)], args := [d] }
  | _ => none }
def modelioGetsRow : OpenClaim := { program := "ytkoopobfelcgpaa", sum := "7696ba8eb1b2d8fa872673f9984265a311d01ca90a2202368298f836c3d9b6f3", func := "horologe/horologelaw06.ModelioGets", spec := "modelioGets", inPlace := ["math.Float64bits", "math.Float64frombits"], unfollowed := true, recurses := true, apart := false }
def ModelioGetsSaid : Prop := modelioGetsRow.holds Try.pinned (OpenSpec.ofChange modelioGetsSpec)

/-- ITS FALSE NEIGHBOUR: 'it returns false'. Refute it at one input. -/
def modelioGetsWrong : ChangeSpec := { name := "modelioGets", fn := fun _ => fun
  | [d] => { results := [.lit (.bool false)], args := [d] }
  | _ => none }
def ModelioGetsWrongFalsely : Prop := modelioGetsRow.holds Try.pinned (OpenSpec.ofChange modelioGetsWrong)

/-- 'horologelaw06.ModelioBack': WHATEVER THE INPUT: true; the input reads as it did. -/
def modelioBackSpec : ChangeSpec := { name := "modelioBack", fn := fun _ => fun
  | [d] => { results := [.lit (.bool true)], args := [d] }
  | _ => none }
def modelioBackRow : OpenClaim := { program := "ytkoopobfelcgpaa", sum := "7696ba8eb1b2d8fa872673f9984265a311d01ca90a2202368298f836c3d9b6f3", func := "horologe/horologelaw06.ModelioBack", spec := "modelioBack", inPlace := ["math.Float64bits", "math.Float64frombits"], unfollowed := true, recurses := true, apart := false }
def ModelioBackSaid : Prop := modelioBackRow.holds Try.pinned (OpenSpec.ofChange modelioBackSpec)

/-- ITS FALSE NEIGHBOUR: 'it returns false'. Refute it at one input. -/
def modelioBackWrong : ChangeSpec := { name := "modelioBack", fn := fun _ => fun
  | [d] => { results := [.lit (.bool false)], args := [d] }
  | _ => none }
def ModelioBackWrongFalsely : Prop := modelioBackRow.holds Try.pinned (OpenSpec.ofChange modelioBackWrong)

/-- 'horologelaw06.ModelioOnce': WHATEVER THE INPUT: true; the input reads as it did. -/
def modelioOnceSpec : ChangeSpec := { name := "modelioOnce", fn := fun _ => fun
  | [d] => { results := [.lit (.bool true)], args := [d] }
  | _ => none }
def modelioOnceRow : OpenClaim := { program := "ytkoopobfelcgpaa", sum := "7696ba8eb1b2d8fa872673f9984265a311d01ca90a2202368298f836c3d9b6f3", func := "horologe/horologelaw06.ModelioOnce", spec := "modelioOnce", inPlace := ["math.Float64bits", "math.Float64frombits"], unfollowed := true, recurses := true, apart := false }
def ModelioOnceSaid : Prop := modelioOnceRow.holds Try.pinned (OpenSpec.ofChange modelioOnceSpec)

/-- ITS FALSE NEIGHBOUR: 'it returns false'. Refute it at one input. -/
def modelioOnceWrong : ChangeSpec := { name := "modelioOnce", fn := fun _ => fun
  | [d] => { results := [.lit (.bool false)], args := [d] }
  | _ => none }
def ModelioOnceWrongFalsely : Prop := modelioOnceRow.holds Try.pinned (OpenSpec.ofChange modelioOnceWrong)

/-- 'horologelaw06.ModelioApart': WHATEVER THE INPUT: true; the input reads as it did. -/
def modelioApartSpec : ChangeSpec := { name := "modelioApart", fn := fun _ => fun
  | [d1, d2] => { results := [.lit (.bool true)], args := [d1, d2] }
  | _ => none }
def modelioApartRow : OpenClaim := { program := "ytkoopobfelcgpaa", sum := "7696ba8eb1b2d8fa872673f9984265a311d01ca90a2202368298f836c3d9b6f3", func := "horologe/horologelaw06.ModelioApart", spec := "modelioApart", inPlace := ["math.Float64bits", "math.Float64frombits"], unfollowed := true, recurses := true, apart := false }
def ModelioApartSaid : Prop := modelioApartRow.holds Try.pinned (OpenSpec.ofChange modelioApartSpec)

/-- ITS FALSE NEIGHBOUR: 'it returns false'. Refute it at one input. -/
def modelioApartWrong : ChangeSpec := { name := "modelioApart", fn := fun _ => fun
  | [d1, d2] => { results := [.lit (.bool false)], args := [d1, d2] }
  | _ => none }
def ModelioApartWrongFalsely : Prop := modelioApartRow.holds Try.pinned (OpenSpec.ofChange modelioApartWrong)

/-- 'horologelaw07.VmRuns': WHATEVER THE INPUT: true; the input reads as it did. -/
def vmRunsSpec : ChangeSpec := { name := "vmRuns", fn := fun _ => fun
  | [d1, d2] => { results := [.lit (.bool true)], args := [d1, d2] }
  | _ => none }
def vmRunsRow : OpenClaim := { program := "ytkoopobfelcgpaa", sum := "7696ba8eb1b2d8fa872673f9984265a311d01ca90a2202368298f836c3d9b6f3", func := "horologe/horologelaw07.VmRuns", spec := "vmRuns", unfollowed := true, recurses := true, apart := false }
def VmRunsSaid : Prop := vmRunsRow.holds Try.pinned (OpenSpec.ofChange vmRunsSpec)

/-- ITS FALSE NEIGHBOUR: 'it returns false'. Refute it at one input. -/
def vmRunsWrong : ChangeSpec := { name := "vmRuns", fn := fun _ => fun
  | [d1, d2] => { results := [.lit (.bool false)], args := [d1, d2] }
  | _ => none }
def VmRunsWrongFalsely : Prop := vmRunsRow.holds Try.pinned (OpenSpec.ofChange vmRunsWrong)

/-- 'horologelaw07.VmWhole': WHATEVER THE INPUT: true; the input reads as it did. -/
def vmWholeSpec : ChangeSpec := { name := "vmWhole", fn := fun _ => fun
  | [d1, d2] => { results := [.lit (.bool true)], args := [d1, d2] }
  | _ => none }
def vmWholeRow : OpenClaim := { program := "ytkoopobfelcgpaa", sum := "7696ba8eb1b2d8fa872673f9984265a311d01ca90a2202368298f836c3d9b6f3", func := "horologe/horologelaw07.VmWhole", spec := "vmWhole", unfollowed := true, recurses := true, apart := false }
def VmWholeSaid : Prop := vmWholeRow.holds Try.pinned (OpenSpec.ofChange vmWholeSpec)

/-- ITS FALSE NEIGHBOUR: 'it returns false'. Refute it at one input. -/
def vmWholeWrong : ChangeSpec := { name := "vmWhole", fn := fun _ => fun
  | [d1, d2] => { results := [.lit (.bool false)], args := [d1, d2] }
  | _ => none }
def VmWholeWrongFalsely : Prop := vmWholeRow.holds Try.pinned (OpenSpec.ofChange vmWholeWrong)

/-- 'horologelaw07.VmAgain': WHATEVER THE INPUT: true; the input reads as it did. -/
def vmAgainSpec : ChangeSpec := { name := "vmAgain", fn := fun _ => fun
  | [d1, d2, d3] => { results := [.lit (.bool true)], args := [d1, d2, d3] }
  | _ => none }
def vmAgainRow : OpenClaim := { program := "ytkoopobfelcgpaa", sum := "7696ba8eb1b2d8fa872673f9984265a311d01ca90a2202368298f836c3d9b6f3", func := "horologe/horologelaw07.VmAgain", spec := "vmAgain", unfollowed := true, recurses := true, apart := false }
def VmAgainSaid : Prop := vmAgainRow.holds Try.pinned (OpenSpec.ofChange vmAgainSpec)

/-- ITS FALSE NEIGHBOUR: 'it returns false'. Refute it at one input. -/
def vmAgainWrong : ChangeSpec := { name := "vmAgain", fn := fun _ => fun
  | [d1, d2, d3] => { results := [.lit (.bool false)], args := [d1, d2, d3] }
  | _ => none }
def VmAgainWrongFalsely : Prop := vmAgainRow.holds Try.pinned (OpenSpec.ofChange vmAgainWrong)

/-- 'horologelaw07.VmDivides': WHATEVER THE INPUT: true; the input reads as it did. -/
def vmDividesSpec : ChangeSpec := { name := "vmDivides", fn := fun _ => fun
  | [d1, d2] => { results := [.lit (.bool true)], args := [d1, d2] }
  | _ => none }
def vmDividesRow : OpenClaim := { program := "ytkoopobfelcgpaa", sum := "7696ba8eb1b2d8fa872673f9984265a311d01ca90a2202368298f836c3d9b6f3", func := "horologe/horologelaw07.VmDivides", spec := "vmDivides", unfollowed := true, recurses := true, apart := false }
def VmDividesSaid : Prop := vmDividesRow.holds Try.pinned (OpenSpec.ofChange vmDividesSpec)

/-- ITS FALSE NEIGHBOUR: 'it returns false'. Refute it at one input. -/
def vmDividesWrong : ChangeSpec := { name := "vmDivides", fn := fun _ => fun
  | [d1, d2] => { results := [.lit (.bool false)], args := [d1, d2] }
  | _ => none }
def VmDividesWrongFalsely : Prop := vmDividesRow.holds Try.pinned (OpenSpec.ofChange vmDividesWrong)

/-- 'horologelaw07.VmSteps': WHATEVER THE INPUT: true; the input reads as it did. -/
def vmStepsSpec : ChangeSpec := { name := "vmSteps", fn := fun _ => fun
  | [d1, d2] => { results := [.lit (.bool true)], args := [d1, d2] }
  | _ => none }
def vmStepsRow : OpenClaim := { program := "ytkoopobfelcgpaa", sum := "7696ba8eb1b2d8fa872673f9984265a311d01ca90a2202368298f836c3d9b6f3", func := "horologe/horologelaw07.VmSteps", spec := "vmSteps", unfollowed := true, recurses := true, apart := false }
def VmStepsSaid : Prop := vmStepsRow.holds Try.pinned (OpenSpec.ofChange vmStepsSpec)

/-- ITS FALSE NEIGHBOUR: 'it returns false'. Refute it at one input. -/
def vmStepsWrong : ChangeSpec := { name := "vmSteps", fn := fun _ => fun
  | [d1, d2] => { results := [.lit (.bool false)], args := [d1, d2] }
  | _ => none }
def VmStepsWrongFalsely : Prop := vmStepsRow.holds Try.pinned (OpenSpec.ofChange vmStepsWrong)

/-- 'horologelaw08.ActLater': WHATEVER THE INPUT: true; the input reads as it did. -/
def actLaterSpec : ChangeSpec := { name := "actLater", fn := fun _ => fun
  | [d] => { results := [.lit (.bool true)], args := [d] }
  | _ => none }
def actLaterRow : OpenClaim := { program := "ytkoopobfelcgpaa", sum := "7696ba8eb1b2d8fa872673f9984265a311d01ca90a2202368298f836c3d9b6f3", func := "horologe/horologelaw08.ActLater", spec := "actLater", unfollowed := true, recurses := true, apart := false }
def ActLaterSaid : Prop := actLaterRow.holds Try.pinned (OpenSpec.ofChange actLaterSpec)

/-- ITS FALSE NEIGHBOUR: 'it returns false'. Refute it at one input. -/
def actLaterWrong : ChangeSpec := { name := "actLater", fn := fun _ => fun
  | [d] => { results := [.lit (.bool false)], args := [d] }
  | _ => none }
def ActLaterWrongFalsely : Prop := actLaterRow.holds Try.pinned (OpenSpec.ofChange actLaterWrong)

/-- 'horologelaw08.ActHandles': WHATEVER THE INPUT: true; the input reads as it did. -/
def actHandlesSpec : ChangeSpec := { name := "actHandles", fn := fun _ => fun
  | [d] => { results := [.lit (.bool true)], args := [d] }
  | _ => none }
def actHandlesRow : OpenClaim := { program := "ytkoopobfelcgpaa", sum := "7696ba8eb1b2d8fa872673f9984265a311d01ca90a2202368298f836c3d9b6f3", func := "horologe/horologelaw08.ActHandles", spec := "actHandles", inPlace := ["math.Float64bits"], unfollowed := true, recurses := true, apart := false }
def ActHandlesSaid : Prop := actHandlesRow.holds Try.pinned (OpenSpec.ofChange actHandlesSpec)

/-- ITS FALSE NEIGHBOUR: 'it returns false'. Refute it at one input. -/
def actHandlesWrong : ChangeSpec := { name := "actHandles", fn := fun _ => fun
  | [d] => { results := [.lit (.bool false)], args := [d] }
  | _ => none }
def ActHandlesWrongFalsely : Prop := actHandlesRow.holds Try.pinned (OpenSpec.ofChange actHandlesWrong)

/-- 'horologelaw08.ActAgain': WHATEVER THE INPUT: true; the input reads as it did. -/
def actAgainSpec : ChangeSpec := { name := "actAgain", fn := fun _ => fun
  | [d1, d2] => { results := [.lit (.bool true)], args := [d1, d2] }
  | _ => none }
def actAgainRow : OpenClaim := { program := "ytkoopobfelcgpaa", sum := "7696ba8eb1b2d8fa872673f9984265a311d01ca90a2202368298f836c3d9b6f3", func := "horologe/horologelaw08.ActAgain", spec := "actAgain", inPlace := ["math.Float64bits"], unfollowed := true, recurses := true, apart := false }
def ActAgainSaid : Prop := actAgainRow.holds Try.pinned (OpenSpec.ofChange actAgainSpec)

/-- ITS FALSE NEIGHBOUR: 'it returns false'. Refute it at one input. -/
def actAgainWrong : ChangeSpec := { name := "actAgain", fn := fun _ => fun
  | [d1, d2] => { results := [.lit (.bool false)], args := [d1, d2] }
  | _ => none }
def ActAgainWrongFalsely : Prop := actAgainRow.holds Try.pinned (OpenSpec.ofChange actAgainWrong)

/-- 'horologelaw08.ActSame': WHATEVER THE INPUT: true; the input reads as it did. -/
def actSameSpec : ChangeSpec := { name := "actSame", fn := fun _ => fun
  | [d1, d2] => { results := [.lit (.bool true)], args := [d1, d2] }
  | _ => none }
def actSameRow : OpenClaim := { program := "ytkoopobfelcgpaa", sum := "7696ba8eb1b2d8fa872673f9984265a311d01ca90a2202368298f836c3d9b6f3", func := "horologe/horologelaw08.ActSame", spec := "actSame", unfollowed := true, recurses := true, apart := false }
def ActSameSaid : Prop := actSameRow.holds Try.pinned (OpenSpec.ofChange actSameSpec)

/-- ITS FALSE NEIGHBOUR: 'it returns false'. Refute it at one input. -/
def actSameWrong : ChangeSpec := { name := "actSame", fn := fun _ => fun
  | [d1, d2] => { results := [.lit (.bool false)], args := [d1, d2] }
  | _ => none }
def ActSameWrongFalsely : Prop := actSameRow.holds Try.pinned (OpenSpec.ofChange actSameWrong)

/-- 'horologelaw08.ActBegins': WHATEVER THE INPUT: true; the input reads as it did. -/
def actBeginsSpec : ChangeSpec := { name := "actBegins", fn := fun _ => fun
  | [d1, d2] => { results := [.lit (.bool true)], args := [d1, d2] }
  | _ => none }
def actBeginsRow : OpenClaim := { program := "ytkoopobfelcgpaa", sum := "7696ba8eb1b2d8fa872673f9984265a311d01ca90a2202368298f836c3d9b6f3", func := "horologe/horologelaw08.ActBegins", spec := "actBegins", inPlace := ["math.Float64bits"], unfollowed := true, recurses := true, apart := false }
def ActBeginsSaid : Prop := actBeginsRow.holds Try.pinned (OpenSpec.ofChange actBeginsSpec)

/-- ITS FALSE NEIGHBOUR: 'it returns false'. Refute it at one input. -/
def actBeginsWrong : ChangeSpec := { name := "actBegins", fn := fun _ => fun
  | [d1, d2] => { results := [.lit (.bool false)], args := [d1, d2] }
  | _ => none }
def ActBeginsWrongFalsely : Prop := actBeginsRow.holds Try.pinned (OpenSpec.ofChange actBeginsWrong)

/-- 'horologelaw08.ActOrders': WHATEVER THE INPUT: true; the input reads as it did. -/
def actOrdersSpec : ChangeSpec := { name := "actOrders", fn := fun _ => fun
  | [d1, d2, d3] => { results := [.lit (.bool true)], args := [d1, d2, d3] }
  | _ => none }
def actOrdersRow : OpenClaim := { program := "ytkoopobfelcgpaa", sum := "7696ba8eb1b2d8fa872673f9984265a311d01ca90a2202368298f836c3d9b6f3", func := "horologe/horologelaw08.ActOrders", spec := "actOrders", unfollowed := true, recurses := true, apart := false }
def ActOrdersSaid : Prop := actOrdersRow.holds Try.pinned (OpenSpec.ofChange actOrdersSpec)

/-- ITS FALSE NEIGHBOUR: 'it returns false'. Refute it at one input. -/
def actOrdersWrong : ChangeSpec := { name := "actOrders", fn := fun _ => fun
  | [d1, d2, d3] => { results := [.lit (.bool false)], args := [d1, d2, d3] }
  | _ => none }
def ActOrdersWrongFalsely : Prop := actOrdersRow.holds Try.pinned (OpenSpec.ofChange actOrdersWrong)

/-- 'horologelaw09.PlainOrder': WHATEVER THE INPUT: true; the input reads as it did. -/
def plainOrderSpec : ChangeSpec := { name := "plainOrder", fn := fun _ => fun
  | [d1, d2] => { results := [.lit (.bool true)], args := [d1, d2] }
  | _ => none }
def plainOrderRow : OpenClaim := { program := "ytkoopobfelcgpaa", sum := "7696ba8eb1b2d8fa872673f9984265a311d01ca90a2202368298f836c3d9b6f3", func := "horologe/horologelaw09.PlainOrder", spec := "plainOrder", unfollowed := true, recurses := true, apart := false }
def PlainOrderSaid : Prop := plainOrderRow.holds Try.pinned (OpenSpec.ofChange plainOrderSpec)

/-- ITS FALSE NEIGHBOUR: 'it returns false'. Refute it at one input. -/
def plainOrderWrong : ChangeSpec := { name := "plainOrder", fn := fun _ => fun
  | [d1, d2] => { results := [.lit (.bool false)], args := [d1, d2] }
  | _ => none }
def PlainOrderWrongFalsely : Prop := plainOrderRow.holds Try.pinned (OpenSpec.ofChange plainOrderWrong)

/-- 'horologelaw09.PlainParts': WHATEVER THE INPUT: true; the input reads as it did. -/
def plainPartsSpec : ChangeSpec := { name := "plainParts", fn := fun _ => fun
  | [d1, d2] => { results := [.lit (.bool true)], args := [d1, d2] }
  | _ => none }
def plainPartsRow : OpenClaim := { program := "ytkoopobfelcgpaa", sum := "7696ba8eb1b2d8fa872673f9984265a311d01ca90a2202368298f836c3d9b6f3", func := "horologe/horologelaw09.PlainParts", spec := "plainParts", inPlace := ["math.Float64bits"], unfollowed := true, recurses := true, apart := false }
def PlainPartsSaid : Prop := plainPartsRow.holds Try.pinned (OpenSpec.ofChange plainPartsSpec)

/-- ITS FALSE NEIGHBOUR: 'it returns false'. Refute it at one input. -/
def plainPartsWrong : ChangeSpec := { name := "plainParts", fn := fun _ => fun
  | [d1, d2] => { results := [.lit (.bool false)], args := [d1, d2] }
  | _ => none }
def PlainPartsWrongFalsely : Prop := plainPartsRow.holds Try.pinned (OpenSpec.ofChange plainPartsWrong)

/-- 'horologelaw09.PlainCounts': WHATEVER THE INPUT: true; the input reads as it did. -/
def plainCountsSpec : ChangeSpec := { name := "plainCounts", fn := fun _ => fun
  | [d1, d2] => { results := [.lit (.bool true)], args := [d1, d2] }
  | _ => none }
def plainCountsRow : OpenClaim := { program := "ytkoopobfelcgpaa", sum := "7696ba8eb1b2d8fa872673f9984265a311d01ca90a2202368298f836c3d9b6f3", func := "horologe/horologelaw09.PlainCounts", spec := "plainCounts", unfollowed := true, recurses := true, apart := false }
def PlainCountsSaid : Prop := plainCountsRow.holds Try.pinned (OpenSpec.ofChange plainCountsSpec)

/-- ITS FALSE NEIGHBOUR: 'it returns false'. Refute it at one input. -/
def plainCountsWrong : ChangeSpec := { name := "plainCounts", fn := fun _ => fun
  | [d1, d2] => { results := [.lit (.bool false)], args := [d1, d2] }
  | _ => none }
def PlainCountsWrongFalsely : Prop := plainCountsRow.holds Try.pinned (OpenSpec.ofChange plainCountsWrong)

/-- 'horologelaw09.PlainNone': WHATEVER THE INPUT: true; the input reads as it did. -/
def plainNoneSpec : ChangeSpec := { name := "plainNone", fn := fun _ => fun
  | [d1, d2] => { results := [.lit (.bool true)], args := [d1, d2] }
  | _ => none }
def plainNoneRow : OpenClaim := { program := "ytkoopobfelcgpaa", sum := "7696ba8eb1b2d8fa872673f9984265a311d01ca90a2202368298f836c3d9b6f3", func := "horologe/horologelaw09.PlainNone", spec := "plainNone", unfollowed := true, recurses := true, apart := false }
def PlainNoneSaid : Prop := plainNoneRow.holds Try.pinned (OpenSpec.ofChange plainNoneSpec)

/-- ITS FALSE NEIGHBOUR: 'it returns false'. Refute it at one input. -/
def plainNoneWrong : ChangeSpec := { name := "plainNone", fn := fun _ => fun
  | [d1, d2] => { results := [.lit (.bool false)], args := [d1, d2] }
  | _ => none }
def PlainNoneWrongFalsely : Prop := plainNoneRow.holds Try.pinned (OpenSpec.ofChange plainNoneWrong)

/-- 'horologelaw09.PlainRuns': WHATEVER THE INPUT: true; the input reads as it did. -/
def plainRunsSpec : ChangeSpec := { name := "plainRuns", fn := fun _ => fun
  | [d1, d2] => { results := [.lit (.bool true)], args := [d1, d2] }
  | _ => none }
def plainRunsRow : OpenClaim := { program := "ytkoopobfelcgpaa", sum := "7696ba8eb1b2d8fa872673f9984265a311d01ca90a2202368298f836c3d9b6f3", func := "horologe/horologelaw09.PlainRuns", spec := "plainRuns", inPlace := ["math.Float64bits"], unfollowed := true, recurses := true, apart := false }
def PlainRunsSaid : Prop := plainRunsRow.holds Try.pinned (OpenSpec.ofChange plainRunsSpec)

/-- ITS FALSE NEIGHBOUR: 'it returns false'. Refute it at one input. -/
def plainRunsWrong : ChangeSpec := { name := "plainRuns", fn := fun _ => fun
  | [d1, d2] => { results := [.lit (.bool false)], args := [d1, d2] }
  | _ => none }
def PlainRunsWrongFalsely : Prop := plainRunsRow.holds Try.pinned (OpenSpec.ofChange plainRunsWrong)

/- THE SECOND FORM. 'bulk': how many values and letters a reading holds, each counted each time it is reached (what is shared counts as often as it is met; a slice's spare places count too). A statement '..UptoSaid' is the law's where the arguments, and the package variables that the reading takes, are together of bulk at most 1048576: NARROWER than '..Said'. Prove '..Said' where nothing that the law and all that it calls make is longer than what came in: it says more and counts as full. Else prove '..UptoSaid'. A law counts once. -/
mutual
def uptoBulk {H : Type} : DataW H → Nat
  | .lit (.string bytes) => bytes.length + 1
  | .lit _ => 1
  | .nil => 1
  | .ptr d => uptoBulk d + 1
  | .slice elems spare => uptoBulkAll elems + uptoBulkAll spare + 1
  | .agg parts => uptoBulkAll parts + 1
  | .iface _ d => uptoBulk d + 1
  | .map entries => uptoBulkEntries entries + 1
  | .held _ => 1
def uptoBulkAll {H : Type} : List (DataW H) → Nat
  | [] => 0
  | d :: r => uptoBulk d + uptoBulkAll r
def uptoBulkEntries {H : Type} : List (Lit × DataW H) → Nat
  | [] => 0
  | x :: r => uptoBulkEntry x + uptoBulkEntries r
def uptoBulkEntry {H : Type} : Lit × DataW H → Nat
  | (.string bytes, d) => bytes.length + uptoBulk d + 1
  | (_, d) => uptoBulk d + 1
 end
def uptoSmall : (H : Type) → List (DataW H) → Bool := fun _ ds => decide (uptoBulkAll ds ≤ 1048576)
def OpenSpec.upto (s : _root_.Go.ChangeSpec) : _root_.Go.OpenSpec := { _root_.Go.OpenSpec.ofChange s with cond := some uptoSmall }

/-- 'horologelaw05.ModelChecks', WHERE WHAT IT READS IS OF BULK AT MOST 1048576: true; the input reads as it did. -/
def modelChecksUptoRow : OpenClaim := { program := "ytkoopobfelcgpaa", sum := "7696ba8eb1b2d8fa872673f9984265a311d01ca90a2202368298f836c3d9b6f3", func := "horologe/horologelaw05.ModelChecks", spec := "modelChecks", inPlace := ["math.Float64bits"], unfollowed := true, recurses := true, apart := false, narrowed := true }
def ModelChecksUptoSaid : Prop := modelChecksUptoRow.holds Try.pinned (OpenSpec.upto modelChecksSpec)

/-- 'horologelaw05.ModelIns', WHERE WHAT IT READS IS OF BULK AT MOST 1048576: true; the input reads as it did. -/
def modelInsUptoRow : OpenClaim := { program := "ytkoopobfelcgpaa", sum := "7696ba8eb1b2d8fa872673f9984265a311d01ca90a2202368298f836c3d9b6f3", func := "horologe/horologelaw05.ModelIns", spec := "modelIns", inPlace := ["math.Float64bits"], unfollowed := true, recurses := true, apart := false, narrowed := true }
def ModelInsUptoSaid : Prop := modelInsUptoRow.holds Try.pinned (OpenSpec.upto modelInsSpec)

/-- 'horologelaw05.ModelSame', WHERE WHAT IT READS IS OF BULK AT MOST 1048576: true; the input reads as it did. -/
def modelSameUptoRow : OpenClaim := { program := "ytkoopobfelcgpaa", sum := "7696ba8eb1b2d8fa872673f9984265a311d01ca90a2202368298f836c3d9b6f3", func := "horologe/horologelaw05.ModelSame", spec := "modelSame", inPlace := ["math.Float64bits"], unfollowed := true, recurses := true, apart := false, narrowed := true }
def ModelSameUptoSaid : Prop := modelSameUptoRow.holds Try.pinned (OpenSpec.upto modelSameSpec)

/-- 'horologelaw05.ModelCopies', WHERE WHAT IT READS IS OF BULK AT MOST 1048576: true; the input reads as it did. -/
def modelCopiesUptoRow : OpenClaim := { program := "ytkoopobfelcgpaa", sum := "7696ba8eb1b2d8fa872673f9984265a311d01ca90a2202368298f836c3d9b6f3", func := "horologe/horologelaw05.ModelCopies", spec := "modelCopies", inPlace := ["math.Float64bits"], unfollowed := true, recurses := true, apart := false, narrowed := true }
def ModelCopiesUptoSaid : Prop := modelCopiesUptoRow.holds Try.pinned (OpenSpec.upto modelCopiesSpec)

/-- 'horologelaw05.ModelLent', WHERE WHAT IT READS IS OF BULK AT MOST 1048576: true; the input reads as it did. -/
def modelLentUptoRow : OpenClaim := { program := "ytkoopobfelcgpaa", sum := "7696ba8eb1b2d8fa872673f9984265a311d01ca90a2202368298f836c3d9b6f3", func := "horologe/horologelaw05.ModelLent", spec := "modelLent", inPlace := ["math.Float64bits"], unfollowed := true, recurses := true, apart := false, narrowed := true }
def ModelLentUptoSaid : Prop := modelLentUptoRow.holds Try.pinned (OpenSpec.upto modelLentSpec)

/-- 'horologelaw06.ModelioPuts', WHERE WHAT IT READS IS OF BULK AT MOST 1048576: true; the input reads as it did. -/
def modelioPutsUptoRow : OpenClaim := { program := "ytkoopobfelcgpaa", sum := "7696ba8eb1b2d8fa872673f9984265a311d01ca90a2202368298f836c3d9b6f3", func := "horologe/horologelaw06.ModelioPuts", spec := "modelioPuts", inPlace := ["math.Float64bits", "math.Float64frombits"], unfollowed := true, recurses := true, apart := false, narrowed := true }
def ModelioPutsUptoSaid : Prop := modelioPutsUptoRow.holds Try.pinned (OpenSpec.upto modelioPutsSpec)

/-- 'horologelaw06.ModelioGets', WHERE WHAT IT READS IS OF BULK AT MOST 1048576: true; the input reads as it did. -/
def modelioGetsUptoRow : OpenClaim := { program := "ytkoopobfelcgpaa", sum := "7696ba8eb1b2d8fa872673f9984265a311d01ca90a2202368298f836c3d9b6f3", func := "horologe/horologelaw06.ModelioGets", spec := "modelioGets", inPlace := ["math.Float64bits", "math.Float64frombits"], unfollowed := true, recurses := true, apart := false, narrowed := true }
def ModelioGetsUptoSaid : Prop := modelioGetsUptoRow.holds Try.pinned (OpenSpec.upto modelioGetsSpec)

/-- 'horologelaw06.ModelioBack', WHERE WHAT IT READS IS OF BULK AT MOST 1048576: true; the input reads as it did. -/
def modelioBackUptoRow : OpenClaim := { program := "ytkoopobfelcgpaa", sum := "7696ba8eb1b2d8fa872673f9984265a311d01ca90a2202368298f836c3d9b6f3", func := "horologe/horologelaw06.ModelioBack", spec := "modelioBack", inPlace := ["math.Float64bits", "math.Float64frombits"], unfollowed := true, recurses := true, apart := false, narrowed := true }
def ModelioBackUptoSaid : Prop := modelioBackUptoRow.holds Try.pinned (OpenSpec.upto modelioBackSpec)

/-- 'horologelaw06.ModelioOnce', WHERE WHAT IT READS IS OF BULK AT MOST 1048576: true; the input reads as it did. -/
def modelioOnceUptoRow : OpenClaim := { program := "ytkoopobfelcgpaa", sum := "7696ba8eb1b2d8fa872673f9984265a311d01ca90a2202368298f836c3d9b6f3", func := "horologe/horologelaw06.ModelioOnce", spec := "modelioOnce", inPlace := ["math.Float64bits", "math.Float64frombits"], unfollowed := true, recurses := true, apart := false, narrowed := true }
def ModelioOnceUptoSaid : Prop := modelioOnceUptoRow.holds Try.pinned (OpenSpec.upto modelioOnceSpec)

/-- 'horologelaw06.ModelioApart', WHERE WHAT IT READS IS OF BULK AT MOST 1048576: true; the input reads as it did. -/
def modelioApartUptoRow : OpenClaim := { program := "ytkoopobfelcgpaa", sum := "7696ba8eb1b2d8fa872673f9984265a311d01ca90a2202368298f836c3d9b6f3", func := "horologe/horologelaw06.ModelioApart", spec := "modelioApart", inPlace := ["math.Float64bits", "math.Float64frombits"], unfollowed := true, recurses := true, apart := false, narrowed := true }
def ModelioApartUptoSaid : Prop := modelioApartUptoRow.holds Try.pinned (OpenSpec.upto modelioApartSpec)

/-- 'horologelaw07.VmRuns', WHERE WHAT IT READS IS OF BULK AT MOST 1048576: true; the input reads as it did. -/
def vmRunsUptoRow : OpenClaim := { program := "ytkoopobfelcgpaa", sum := "7696ba8eb1b2d8fa872673f9984265a311d01ca90a2202368298f836c3d9b6f3", func := "horologe/horologelaw07.VmRuns", spec := "vmRuns", unfollowed := true, recurses := true, apart := false, narrowed := true }
def VmRunsUptoSaid : Prop := vmRunsUptoRow.holds Try.pinned (OpenSpec.upto vmRunsSpec)

/-- 'horologelaw07.VmWhole', WHERE WHAT IT READS IS OF BULK AT MOST 1048576: true; the input reads as it did. -/
def vmWholeUptoRow : OpenClaim := { program := "ytkoopobfelcgpaa", sum := "7696ba8eb1b2d8fa872673f9984265a311d01ca90a2202368298f836c3d9b6f3", func := "horologe/horologelaw07.VmWhole", spec := "vmWhole", unfollowed := true, recurses := true, apart := false, narrowed := true }
def VmWholeUptoSaid : Prop := vmWholeUptoRow.holds Try.pinned (OpenSpec.upto vmWholeSpec)

/-- 'horologelaw07.VmAgain', WHERE WHAT IT READS IS OF BULK AT MOST 1048576: true; the input reads as it did. -/
def vmAgainUptoRow : OpenClaim := { program := "ytkoopobfelcgpaa", sum := "7696ba8eb1b2d8fa872673f9984265a311d01ca90a2202368298f836c3d9b6f3", func := "horologe/horologelaw07.VmAgain", spec := "vmAgain", unfollowed := true, recurses := true, apart := false, narrowed := true }
def VmAgainUptoSaid : Prop := vmAgainUptoRow.holds Try.pinned (OpenSpec.upto vmAgainSpec)

/-- 'horologelaw07.VmDivides', WHERE WHAT IT READS IS OF BULK AT MOST 1048576: true; the input reads as it did. -/
def vmDividesUptoRow : OpenClaim := { program := "ytkoopobfelcgpaa", sum := "7696ba8eb1b2d8fa872673f9984265a311d01ca90a2202368298f836c3d9b6f3", func := "horologe/horologelaw07.VmDivides", spec := "vmDivides", unfollowed := true, recurses := true, apart := false, narrowed := true }
def VmDividesUptoSaid : Prop := vmDividesUptoRow.holds Try.pinned (OpenSpec.upto vmDividesSpec)

/-- 'horologelaw07.VmSteps', WHERE WHAT IT READS IS OF BULK AT MOST 1048576: true; the input reads as it did. -/
def vmStepsUptoRow : OpenClaim := { program := "ytkoopobfelcgpaa", sum := "7696ba8eb1b2d8fa872673f9984265a311d01ca90a2202368298f836c3d9b6f3", func := "horologe/horologelaw07.VmSteps", spec := "vmSteps", unfollowed := true, recurses := true, apart := false, narrowed := true }
def VmStepsUptoSaid : Prop := vmStepsUptoRow.holds Try.pinned (OpenSpec.upto vmStepsSpec)

/-- 'horologelaw08.ActLater', WHERE WHAT IT READS IS OF BULK AT MOST 1048576: true; the input reads as it did. -/
def actLaterUptoRow : OpenClaim := { program := "ytkoopobfelcgpaa", sum := "7696ba8eb1b2d8fa872673f9984265a311d01ca90a2202368298f836c3d9b6f3", func := "horologe/horologelaw08.ActLater", spec := "actLater", unfollowed := true, recurses := true, apart := false, narrowed := true }
def ActLaterUptoSaid : Prop := actLaterUptoRow.holds Try.pinned (OpenSpec.upto actLaterSpec)

/-- 'horologelaw08.ActHandles', WHERE WHAT IT READS IS OF BULK AT MOST 1048576: true; the input reads as it did. -/
def actHandlesUptoRow : OpenClaim := { program := "ytkoopobfelcgpaa", sum := "7696ba8eb1b2d8fa872673f9984265a311d01ca90a2202368298f836c3d9b6f3", func := "horologe/horologelaw08.ActHandles", spec := "actHandles", inPlace := ["math.Float64bits"], unfollowed := true, recurses := true, apart := false, narrowed := true }
def ActHandlesUptoSaid : Prop := actHandlesUptoRow.holds Try.pinned (OpenSpec.upto actHandlesSpec)

/-- 'horologelaw08.ActAgain', WHERE WHAT IT READS IS OF BULK AT MOST 1048576: true; the input reads as it did. -/
def actAgainUptoRow : OpenClaim := { program := "ytkoopobfelcgpaa", sum := "7696ba8eb1b2d8fa872673f9984265a311d01ca90a2202368298f836c3d9b6f3", func := "horologe/horologelaw08.ActAgain", spec := "actAgain", inPlace := ["math.Float64bits"], unfollowed := true, recurses := true, apart := false, narrowed := true }
def ActAgainUptoSaid : Prop := actAgainUptoRow.holds Try.pinned (OpenSpec.upto actAgainSpec)

/-- 'horologelaw08.ActSame', WHERE WHAT IT READS IS OF BULK AT MOST 1048576: true; the input reads as it did. -/
def actSameUptoRow : OpenClaim := { program := "ytkoopobfelcgpaa", sum := "7696ba8eb1b2d8fa872673f9984265a311d01ca90a2202368298f836c3d9b6f3", func := "horologe/horologelaw08.ActSame", spec := "actSame", unfollowed := true, recurses := true, apart := false, narrowed := true }
def ActSameUptoSaid : Prop := actSameUptoRow.holds Try.pinned (OpenSpec.upto actSameSpec)

/-- 'horologelaw08.ActBegins', WHERE WHAT IT READS IS OF BULK AT MOST 1048576: true; the input reads as it did. -/
def actBeginsUptoRow : OpenClaim := { program := "ytkoopobfelcgpaa", sum := "7696ba8eb1b2d8fa872673f9984265a311d01ca90a2202368298f836c3d9b6f3", func := "horologe/horologelaw08.ActBegins", spec := "actBegins", inPlace := ["math.Float64bits"], unfollowed := true, recurses := true, apart := false, narrowed := true }
def ActBeginsUptoSaid : Prop := actBeginsUptoRow.holds Try.pinned (OpenSpec.upto actBeginsSpec)

/-- 'horologelaw08.ActOrders', WHERE WHAT IT READS IS OF BULK AT MOST 1048576: true; the input reads as it did. -/
def actOrdersUptoRow : OpenClaim := { program := "ytkoopobfelcgpaa", sum := "7696ba8eb1b2d8fa872673f9984265a311d01ca90a2202368298f836c3d9b6f3", func := "horologe/horologelaw08.ActOrders", spec := "actOrders", unfollowed := true, recurses := true, apart := false, narrowed := true }
def ActOrdersUptoSaid : Prop := actOrdersUptoRow.holds Try.pinned (OpenSpec.upto actOrdersSpec)

/-- 'horologelaw09.PlainOrder', WHERE WHAT IT READS IS OF BULK AT MOST 1048576: true; the input reads as it did. -/
def plainOrderUptoRow : OpenClaim := { program := "ytkoopobfelcgpaa", sum := "7696ba8eb1b2d8fa872673f9984265a311d01ca90a2202368298f836c3d9b6f3", func := "horologe/horologelaw09.PlainOrder", spec := "plainOrder", unfollowed := true, recurses := true, apart := false, narrowed := true }
def PlainOrderUptoSaid : Prop := plainOrderUptoRow.holds Try.pinned (OpenSpec.upto plainOrderSpec)

/-- 'horologelaw09.PlainParts', WHERE WHAT IT READS IS OF BULK AT MOST 1048576: true; the input reads as it did. -/
def plainPartsUptoRow : OpenClaim := { program := "ytkoopobfelcgpaa", sum := "7696ba8eb1b2d8fa872673f9984265a311d01ca90a2202368298f836c3d9b6f3", func := "horologe/horologelaw09.PlainParts", spec := "plainParts", inPlace := ["math.Float64bits"], unfollowed := true, recurses := true, apart := false, narrowed := true }
def PlainPartsUptoSaid : Prop := plainPartsUptoRow.holds Try.pinned (OpenSpec.upto plainPartsSpec)

/-- 'horologelaw09.PlainCounts', WHERE WHAT IT READS IS OF BULK AT MOST 1048576: true; the input reads as it did. -/
def plainCountsUptoRow : OpenClaim := { program := "ytkoopobfelcgpaa", sum := "7696ba8eb1b2d8fa872673f9984265a311d01ca90a2202368298f836c3d9b6f3", func := "horologe/horologelaw09.PlainCounts", spec := "plainCounts", unfollowed := true, recurses := true, apart := false, narrowed := true }
def PlainCountsUptoSaid : Prop := plainCountsUptoRow.holds Try.pinned (OpenSpec.upto plainCountsSpec)

/-- 'horologelaw09.PlainNone', WHERE WHAT IT READS IS OF BULK AT MOST 1048576: true; the input reads as it did. -/
def plainNoneUptoRow : OpenClaim := { program := "ytkoopobfelcgpaa", sum := "7696ba8eb1b2d8fa872673f9984265a311d01ca90a2202368298f836c3d9b6f3", func := "horologe/horologelaw09.PlainNone", spec := "plainNone", unfollowed := true, recurses := true, apart := false, narrowed := true }
def PlainNoneUptoSaid : Prop := plainNoneUptoRow.holds Try.pinned (OpenSpec.upto plainNoneSpec)

/-- 'horologelaw09.PlainRuns', WHERE WHAT IT READS IS OF BULK AT MOST 1048576: true; the input reads as it did. -/
def plainRunsUptoRow : OpenClaim := { program := "ytkoopobfelcgpaa", sum := "7696ba8eb1b2d8fa872673f9984265a311d01ca90a2202368298f836c3d9b6f3", func := "horologe/horologelaw09.PlainRuns", spec := "plainRuns", inPlace := ["math.Float64bits"], unfollowed := true, recurses := true, apart := false, narrowed := true }
def PlainRunsUptoSaid : Prop := plainRunsUptoRow.holds Try.pinned (OpenSpec.upto plainRunsSpec)

end Rows
end Go.Proofs.Ytkoopobfelcgpaa
