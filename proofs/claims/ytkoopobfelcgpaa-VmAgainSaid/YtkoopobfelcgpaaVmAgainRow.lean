/-
  The same input comes to the same, whatever ran between; what is handed in stays as it was, and what comes back is new memory (horologelaw07.VmAgain returns true).
  No condition: it holds for every input that the given row lets in.
-/
import Derived.Test.YtkoopobfelcgpaaRows
import Derived.Test.YtkoopobfelcgpaaHU
import Derived.ProofKit
import Derived.OpenShut
namespace Go.Proofs.Ytkoopobfelcgpaa.vmAgain
open Go.ChangeShapes Go.WideShapes Go.ChangeAt Go.RowKit

theorem own : ownKnob Try.prog.godebug = none := by kernel_rfl
theorem laidOut : laidOutB Try.prog = true := by kernel_rfl

set_option maxRecDepth 100000 in
theorem lifted (os : Os) (started : os.Started) (H : Type) (enc : TypeId × Value → H) :
    ReturnsInHanded {} Try.checked os 15 .any (Rows.vmAgainSpec.pre6 enc Try.prog Try.f15 Rows.vmAgainRow.domain false) (Rows.vmAgainSpec.post enc Try.prog Try.f15 false true false false) := by
  refine returnsInHanded_of_change (C := Try.checked) own started (by kernel_rfl) Try.func15
    (ChangeSpec.witness6 (enc := enc) (C := Try.checked) false ⟨#[], #[.slice none 0 0, .agg #[.slice none 0 0, .int .i64 0, .int .i64 0, .int .i64 0, .int .i64 0, .int .i64 0], .slice none 0 0], []⟩ 8 (by kernel_rfl) (by kernel_rfl) (by kernel_rfl) (by kernel_rfl)) ?_
  intro W base args ds gs before hval0 hW hcnd _
  have hval : ∀ (j : Nat) t v, Try.f15.params[j]? = some t → args[j]? = some v → Value.okWide Try.prog W .any base t v := hval0
  have hW' := hW
  obtain ⟨p, q, hA0, hV, rfl, hfz, hnd⟩ := hW
  have hA : DataW.TrodAll enc Try.prog W 0 (fun _ => true) true Try.f15.params.toList args.toList ds p := hA0
  rw [Try.params15] at hA hval
  obtain ⟨v0, vs0, d0, ds0, p0, q0, hargs, rfl, rfl, h0, r0⟩ := trodAll_cons hA
  obtain ⟨v1, vs1, d1, ds1, p1, q1, rfl, rfl, rfl, h1, r1⟩ := trodAll_cons r0
  obtain ⟨v2, vs2, d2, ds2, p2, q2, rfl, rfl, rfl, h2, r2⟩ := trodAll_cons r1
  obtain ⟨rfl, rfl, rfl⟩ := trodAll_nil r2
  obtain rfl : args = #[v0, v1, v2] := by cases args; simp_all
  obtain ⟨rfl, rfl⟩ := trodVars_none hV
  have lt0 : ∀ x ∈ p0, x.block < W.heap.size := by obtain ⟨m, hm⟩ := h0; exact DataW.trod_lt m _ _ _ hm
  have lt1 : ∀ x ∈ p1, x.block < W.heap.size := by obtain ⟨m, hm⟩ := h1; exact DataW.trod_lt m _ _ _ hm
  have lt2 : ∀ x ∈ p2, x.block < W.heap.size := by obtain ⟨m, hm⟩ := h2; exact DataW.trod_lt m _ _ _ hm
  obtain ⟨va0, c0, rfl, at0, wx0⟩ := arg_code (hval 0 38 v0 rfl rfl) h0
  obtain ⟨x1, vw1, rfl, at1, wx1⟩ := arg_input (hval 1 51 v1 rfl rfl) h1
  obtain ⟨va2, c2, rfl, at2, wx2⟩ := arg_code (hval 2 38 v2 rfl rfl) h2
  clear hA0 hval0
  refine (VmAgain_any c0 x1 c2 _ _ _ W at0 at1 at2 (insI_of wx0) (insI_of wx2) wx1).mono fun e W' ⟨he, hg⟩ => ?_
  subst he
  exact ⟨_, rfl, _, _, _, [], _, [], hW', trodAll_mk1 (shut_bool Try.underlying4 _), (trodAll_cons_mk (Below.trod laidOut (by kernel_rfl) (of_decide_eq_true (by kernel_rfl)) h0 hg.below lt0) (trodAll_cons_mk (Below.trod laidOut (by kernel_rfl) (of_decide_eq_true (by kernel_rfl)) h1 hg.below lt1) (trodAll_cons_mk (Below.trod laidOut (by kernel_rfl) (of_decide_eq_true (by kernel_rfl)) h2 hg.below lt2) trodAll_mk0))), rfl, hg.below.frame _, fun h => by cases h⟩

theorem closedA : restA Try.prog Try.f15 Rows.vmAgainSpec Rows.vmAgainRow = true := by kernel_rfl
theorem closedB : restB Try.prog 15 Rows.vmAgainRow = true := by kernel_rfl
theorem closedC : restC Try.prog Try.f15 Rows.vmAgainSpec Rows.vmAgainRow = true := by kernel_rfl
theorem closedD : restD Try.prog Try.f15 Rows.vmAgainSpec Rows.vmAgainRow = true := by kernel_rfl
theorem closed : joinedFacts Try.prog 15 Try.f15 Rows.vmAgainSpec Rows.vmAgainRow = true := joined_of Try.prog 15 Try.f15 Rows.vmAgainSpec Rows.vmAgainRow mayEnter_yes liftsFinal_no make_cut rfl rfl closedA closedB closedC closedD
theorem named : Try.prog.funcNamed Rows.vmAgainRow.func = some 15 := by kernel_rfl
theorem inst : Try.f15.isInstance Try.prog Rows.vmAgainRow.origin Rows.vmAgainRow.targs := of_decide_eq_true (by kernel_rfl)

theorem over : Rows.vmAgainRow.holds Try.pinned (OpenSpec.ofChange Rows.vmAgainSpec) :=
  OpenClaim.holds_of_wide 15 Try.f15 rfl rfl rfl rfl rfl rfl rfl ⟨rfl, rfl, rfl, rfl, rfl⟩ rfl rfl rfl rfl rfl named Try.func15 closed inst
    (by unfold Func.isWrapper; first | (rw [if_pos (by decide +kernel)]; kernel_rfl) | (rw [if_neg (by decide +kernel)]; exact ⟨rfl, rfl⟩))
    (fun os started H enc _ => lifted os started H enc)
end Go.Proofs.Ytkoopobfelcgpaa.vmAgain
namespace Go.Proofs.Ytkoopobfelcgpaa
/-- THE STATEMENT. -/
theorem vmAgain_holds : Rows.VmAgainSaid := vmAgain.over
#print axioms vmAgain_holds
end Go.Proofs.Ytkoopobfelcgpaa
