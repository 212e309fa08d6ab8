/-
  What was put is got as it was (horologelaw06.ModelioBack returns true).
  No condition: it holds for every input that the given row lets in.
-/
import Derived.Test.YtkoopobfelcgpaaRows
import Derived.Test.YtkoopobfelcgpaaK6
import Derived.ProofKit
import Derived.OpenShut
namespace Go.Proofs.Ytkoopobfelcgpaa.modelioBack
open Go.ChangeShapes Go.WideShapes Go.ChangeAt Go.RowKit

theorem own : ownKnob Try.prog.godebug = none := by kernel_rfl
theorem laidOut : laidOutB Try.prog = true := by kernel_rfl

set_option maxRecDepth 100000 in
theorem lifted (os : Os) (started : os.Started) (H : Type) (enc : TypeId × Value → H) :
    ReturnsInHanded {} Try.checked os 10 .any (Rows.modelioBackSpec.pre6 enc Try.prog Try.f10 Rows.modelioBackRow.domain false) (Rows.modelioBackSpec.post enc Try.prog Try.f10 false true false false) := by
  refine returnsInHanded_of_change (C := Try.checked) own started (by kernel_rfl) Try.func10
    (ChangeSpec.witness6 (enc := enc) (C := Try.checked) false ⟨#[], #[.agg #[.int .i64 0, .float .f64 0, .slice none 0 0, .slice none 0 0, .slice none 0 0, .slice none 0 0]], []⟩ 8 (by kernel_rfl) (by kernel_rfl) (by kernel_rfl) (by kernel_rfl)) ?_
  intro W base args ds gs before hval0 hW hcnd _
  have hval : ∀ (j : Nat) t v, Try.f10.params[j]? = some t → args[j]? = some v → Value.okWide Try.prog W .any base t v := hval0
  have hW' := hW
  obtain ⟨p, q, hA0, hV, rfl, hfz, hnd⟩ := hW
  have hA : DataW.TrodAll enc Try.prog W 0 (fun _ => true) true Try.f10.params.toList args.toList ds p := hA0
  rw [Try.params10] at hA hval
  obtain ⟨v0, vs0, d0, ds0, p0, q0, hargs, rfl, rfl, h0, r0⟩ := trodAll_cons hA
  obtain ⟨rfl, rfl, rfl⟩ := trodAll_nil r0
  obtain rfl : args = #[v0] := by cases args; simp_all
  obtain ⟨rfl, rfl⟩ := trodVars_none hV
  have lt0 : ∀ x ∈ p0, x.block < W.heap.size := by obtain ⟨m, hm⟩ := h0; exact DataW.trod_lt m _ _ _ hm
  obtain ⟨x0, vd0, vp0, vl0, vi0, rfl, at0, wx0⟩ := arg_model (hval 0 28 v0 rfl rfl) h0
  clear hA0 hval0
  refine (ModelioBack_any x0 _ _ _ _ W at0 (w_of wx0)).mono fun e W' ⟨he, hg⟩ => ?_
  subst he
  exact ⟨_, rfl, _, _, _, [], _, [], hW', trodAll_mk1 (shut_bool Try.underlying4 _), (trodAll_cons_mk (Below.trod laidOut (by kernel_rfl) (of_decide_eq_true (by kernel_rfl)) h0 hg.below lt0) trodAll_mk0), rfl, hg.below.frame _, fun h => by cases h⟩

theorem closedA : restA Try.prog Try.f10 Rows.modelioBackSpec Rows.modelioBackRow = true := by kernel_rfl
theorem closedB : restB Try.prog 10 Rows.modelioBackRow = true := by kernel_rfl
theorem closedC : restC Try.prog Try.f10 Rows.modelioBackSpec Rows.modelioBackRow = true := by kernel_rfl
theorem closedD : restD Try.prog Try.f10 Rows.modelioBackSpec Rows.modelioBackRow = true := by kernel_rfl
theorem closed : joinedFacts Try.prog 10 Try.f10 Rows.modelioBackSpec Rows.modelioBackRow = true := joined_of Try.prog 10 Try.f10 Rows.modelioBackSpec Rows.modelioBackRow mayEnter_yes liftsFinal_no make_cut rfl rfl closedA closedB closedC closedD
theorem named : Try.prog.funcNamed Rows.modelioBackRow.func = some 10 := by kernel_rfl
theorem inst : Try.f10.isInstance Try.prog Rows.modelioBackRow.origin Rows.modelioBackRow.targs := of_decide_eq_true (by kernel_rfl)

theorem over : Rows.modelioBackRow.holds Try.pinned (OpenSpec.ofChange Rows.modelioBackSpec) :=
  OpenClaim.holds_of_wide 10 Try.f10 rfl rfl rfl rfl rfl rfl rfl ⟨rfl, rfl, rfl, rfl, rfl⟩ rfl rfl rfl rfl rfl named Try.func10 closed inst
    (by unfold Func.isWrapper; first | (rw [if_pos (by decide +kernel)]; kernel_rfl) | (rw [if_neg (by decide +kernel)]; exact ⟨rfl, rfl⟩))
    (fun os started H enc _ => lifted os started H enc)
end Go.Proofs.Ytkoopobfelcgpaa.modelioBack
namespace Go.Proofs.Ytkoopobfelcgpaa
/-- THE STATEMENT. -/
theorem modelioBack_holds : Rows.ModelioBackSaid := modelioBack.over
#print axioms modelioBack_holds
end Go.Proofs.Ytkoopobfelcgpaa
