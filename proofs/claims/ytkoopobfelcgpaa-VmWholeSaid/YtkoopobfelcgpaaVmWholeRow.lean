/-
  A run that goes wrong changes nothing and sends nothing; one that does not has as many words as before, and sends to processes that there are (horologelaw07.VmWhole returns true).
  No condition: it holds for every input that the given row lets in.
-/
import Derived.Test.YtkoopobfelcgpaaRows
import Derived.Test.YtkoopobfelcgpaaHR
import Derived.ProofKit
import Derived.OpenShut
namespace Go.Proofs.Ytkoopobfelcgpaa.vmWhole
open Go.ChangeShapes Go.WideShapes Go.ChangeAt Go.RowKit

theorem own : ownKnob Try.prog.godebug = none := by kernel_rfl
theorem laidOut : laidOutB Try.prog = true := by kernel_rfl

set_option maxRecDepth 100000 in
theorem lifted (os : Os) (started : os.Started) (H : Type) (enc : TypeId × Value → H) :
    ReturnsInHanded {} Try.checked os 14 .any (Rows.vmWholeSpec.pre6 enc Try.prog Try.f14 Rows.vmWholeRow.domain false) (Rows.vmWholeSpec.post enc Try.prog Try.f14 false true false false) := by
  refine returnsInHanded_of_change (C := Try.checked) own started (by kernel_rfl) Try.func14
    (ChangeSpec.witness6 (enc := enc) (C := Try.checked) false ⟨#[], #[.slice none 0 0, .agg #[.slice none 0 0, .int .i64 0, .int .i64 0, .int .i64 0, .int .i64 0, .int .i64 0]], []⟩ 8 (by kernel_rfl) (by kernel_rfl) (by kernel_rfl) (by kernel_rfl)) ?_
  intro W base args ds gs before hval0 hW hcnd _
  have hval : ∀ (j : Nat) t v, Try.f14.params[j]? = some t → args[j]? = some v → Value.okWide Try.prog W .any base t v := hval0
  have hW' := hW
  obtain ⟨p, q, hA0, hV, rfl, hfz, hnd⟩ := hW
  have hA : DataW.TrodAll enc Try.prog W 0 (fun _ => true) true Try.f14.params.toList args.toList ds p := hA0
  rw [Try.params14] at hA hval
  obtain ⟨v0, vs0, d0, ds0, p0, q0, hargs, rfl, rfl, h0, r0⟩ := trodAll_cons hA
  obtain ⟨v1, vs1, d1, ds1, p1, q1, rfl, rfl, rfl, h1, r1⟩ := trodAll_cons r0
  obtain ⟨rfl, rfl, rfl⟩ := trodAll_nil r1
  obtain rfl : args = #[v0, v1] := by cases args; simp_all
  obtain ⟨rfl, rfl⟩ := trodVars_none hV
  have lt0 : ∀ x ∈ p0, x.block < W.heap.size := by obtain ⟨m, hm⟩ := h0; exact DataW.trod_lt m _ _ _ hm
  have lt1 : ∀ x ∈ p1, x.block < W.heap.size := by obtain ⟨m, hm⟩ := h1; exact DataW.trod_lt m _ _ _ hm
  obtain ⟨va0, c0, rfl, at0, wx0⟩ := arg_code (hval 0 38 v0 rfl rfl) h0
  obtain ⟨x1, vw1, rfl, at1, wx1⟩ := arg_input (hval 1 51 v1 rfl rfl) h1
  clear hA0 hval0
  refine (VmWhole_any c0 x1 _ _ W at0 at1 (insI_of wx0) wx1).mono fun e W' ⟨he, hg⟩ => ?_
  subst he
  exact ⟨_, rfl, _, _, _, [], _, [], hW', trodAll_mk1 (shut_bool Try.underlying4 _), (trodAll_cons_mk (Below.trod laidOut (by kernel_rfl) (of_decide_eq_true (by kernel_rfl)) h0 hg.below lt0) (trodAll_cons_mk (Below.trod laidOut (by kernel_rfl) (of_decide_eq_true (by kernel_rfl)) h1 hg.below lt1) trodAll_mk0)), rfl, hg.below.frame _, fun h => by cases h⟩

theorem closedA : restA Try.prog Try.f14 Rows.vmWholeSpec Rows.vmWholeRow = true := by kernel_rfl
theorem closedB : restB Try.prog 14 Rows.vmWholeRow = true := by kernel_rfl
theorem closedC : restC Try.prog Try.f14 Rows.vmWholeSpec Rows.vmWholeRow = true := by kernel_rfl
theorem closedD : restD Try.prog Try.f14 Rows.vmWholeSpec Rows.vmWholeRow = true := by kernel_rfl
theorem closed : joinedFacts Try.prog 14 Try.f14 Rows.vmWholeSpec Rows.vmWholeRow = true := joined_of Try.prog 14 Try.f14 Rows.vmWholeSpec Rows.vmWholeRow mayEnter_yes liftsFinal_no make_cut rfl rfl closedA closedB closedC closedD
theorem named : Try.prog.funcNamed Rows.vmWholeRow.func = some 14 := by kernel_rfl
theorem inst : Try.f14.isInstance Try.prog Rows.vmWholeRow.origin Rows.vmWholeRow.targs := of_decide_eq_true (by kernel_rfl)

theorem over : Rows.vmWholeRow.holds Try.pinned (OpenSpec.ofChange Rows.vmWholeSpec) :=
  OpenClaim.holds_of_wide 14 Try.f14 rfl rfl rfl rfl rfl rfl rfl ⟨rfl, rfl, rfl, rfl, rfl⟩ rfl rfl rfl rfl rfl named Try.func14 closed inst
    (by unfold Func.isWrapper; first | (rw [if_pos (by decide +kernel)]; kernel_rfl) | (rw [if_neg (by decide +kernel)]; exact ⟨rfl, rfl⟩))
    (fun os started H enc _ => lifted os started H enc)
end Go.Proofs.Ytkoopobfelcgpaa.vmWhole
namespace Go.Proofs.Ytkoopobfelcgpaa
/-- THE STATEMENT. -/
theorem vmWhole_holds : Rows.VmWholeSaid := vmWhole.over
#print axioms vmWhole_holds
end Go.Proofs.Ytkoopobfelcgpaa
