/-
  Quotients and rests of any two numbers by the machine fit together, and by nought the run faults (horologelaw07.VmDivides returns true).
  No condition: it holds for every input that the given row lets in.
-/
import Derived.Test.YtkoopobfelcgpaaRows
import Derived.Test.YtkoopobfelcgpaaHR
import Derived.ProofKit
import Derived.OpenShut
namespace Go.Proofs.Ytkoopobfelcgpaa.vmDivides
open Go.ChangeShapes Go.WideShapes Go.ChangeAt Go.RowKit

theorem own : ownKnob Try.prog.godebug = none := by kernel_rfl
theorem laidOut : laidOutB Try.prog = true := by kernel_rfl

set_option maxRecDepth 100000 in
theorem lifted (os : Os) (started : os.Started) (H : Type) (enc : TypeId × Value → H) :
    ReturnsInHanded {} Try.checked os 16 .any (Rows.vmDividesSpec.pre6 enc Try.prog Try.f16 Rows.vmDividesRow.domain false) (Rows.vmDividesSpec.post enc Try.prog Try.f16 false true false false) := by
  refine returnsInHanded_of_change (C := Try.checked) own started (by kernel_rfl) Try.func16
    (ChangeSpec.witness6 (enc := enc) (C := Try.checked) false ⟨#[], #[.int .i64 0, .int .i64 0], []⟩ 8 (by kernel_rfl) (by kernel_rfl) (by kernel_rfl) (by kernel_rfl)) ?_
  intro W base args ds gs before hval0 hW hcnd _
  have hval : ∀ (j : Nat) t v, Try.f16.params[j]? = some t → args[j]? = some v → Value.okWide Try.prog W .any base t v := hval0
  have hW' := hW
  obtain ⟨p, q, hA0, hV, rfl, hfz, hnd⟩ := hW
  have hA : DataW.TrodAll enc Try.prog W 0 (fun _ => true) true Try.f16.params.toList args.toList ds p := hA0
  rw [Try.params16] at hA hval
  obtain ⟨v0, vs0, d0, ds0, p0, q0, hargs, rfl, rfl, h0, r0⟩ := trodAll_cons hA
  obtain ⟨v1, vs1, d1, ds1, p1, q1, rfl, rfl, rfl, h1, r1⟩ := trodAll_cons r0
  obtain ⟨rfl, rfl, rfl⟩ := trodAll_nil r1
  obtain rfl : args = #[v0, v1] := by cases args; simp_all
  obtain ⟨rfl, rfl⟩ := trodVars_none hV
  have lt0 : ∀ x ∈ p0, x.block < W.heap.size := by obtain ⟨m, hm⟩ := h0; exact DataW.trod_lt m _ _ _ hm
  have lt1 : ∀ x ∈ p1, x.block < W.heap.size := by obtain ⟨m, hm⟩ := h1; exact DataW.trod_lt m _ _ _ hm
  obtain ⟨x0, rfl, wx0⟩ := arg_int (hval 0 3 v0 rfl rfl) h0
  obtain ⟨x1, rfl, wx1⟩ := arg_int (hval 1 3 v1 rfl rfl) h1
  clear hA0 hval0
  refine (VmDivides_any x0 x1 wx0 wx1 W).mono fun e W' ⟨he, hg⟩ => ?_
  subst he
  exact ⟨_, rfl, _, _, _, [], _, [], hW', trodAll_mk1 (shut_bool Try.underlying4 _), (trodAll_cons_mk (Below.trod laidOut (by kernel_rfl) (of_decide_eq_true (by kernel_rfl)) h0 hg.below lt0) (trodAll_cons_mk (Below.trod laidOut (by kernel_rfl) (of_decide_eq_true (by kernel_rfl)) h1 hg.below lt1) trodAll_mk0)), rfl, hg.below.frame _, fun h => by cases h⟩

theorem closedA : restA Try.prog Try.f16 Rows.vmDividesSpec Rows.vmDividesRow = true := by kernel_rfl
theorem closedB : restB Try.prog 16 Rows.vmDividesRow = true := by kernel_rfl
theorem closedC : restC Try.prog Try.f16 Rows.vmDividesSpec Rows.vmDividesRow = true := by kernel_rfl
theorem closedD : restD Try.prog Try.f16 Rows.vmDividesSpec Rows.vmDividesRow = true := by kernel_rfl
theorem closed : joinedFacts Try.prog 16 Try.f16 Rows.vmDividesSpec Rows.vmDividesRow = true := joined_of Try.prog 16 Try.f16 Rows.vmDividesSpec Rows.vmDividesRow mayEnter_yes liftsFinal_no make_cut rfl rfl closedA closedB closedC closedD
theorem named : Try.prog.funcNamed Rows.vmDividesRow.func = some 16 := by kernel_rfl
theorem inst : Try.f16.isInstance Try.prog Rows.vmDividesRow.origin Rows.vmDividesRow.targs := of_decide_eq_true (by kernel_rfl)

theorem over : Rows.vmDividesRow.holds Try.pinned (OpenSpec.ofChange Rows.vmDividesSpec) :=
  OpenClaim.holds_of_wide 16 Try.f16 rfl rfl rfl rfl rfl rfl rfl ⟨rfl, rfl, rfl, rfl, rfl⟩ rfl rfl rfl rfl rfl named Try.func16 closed inst
    (by unfold Func.isWrapper; first | (rw [if_pos (by decide +kernel)]; kernel_rfl) | (rw [if_neg (by decide +kernel)]; exact ⟨rfl, rfl⟩))
    (fun os started H enc _ => lifted os started H enc)
end Go.Proofs.Ytkoopobfelcgpaa.vmDivides
namespace Go.Proofs.Ytkoopobfelcgpaa
/-- THE STATEMENT. -/
theorem vmDivides_holds : Rows.VmDividesSaid := vmDivides.over
#print axioms vmDivides_holds
end Go.Proofs.Ytkoopobfelcgpaa
