/-
  Bytes that are read as a model are the bytes that the model puts (horologelaw06.ModelioOnce returns true).
  No condition: it holds for every input that the given row lets in.
-/
import Derived.Test.YtkoopobfelcgpaaRows
import Derived.Test.YtkoopobfelcgpaaK6
import Derived.ProofKit
import Derived.OpenShut
namespace Go.Proofs.Ytkoopobfelcgpaa.modelioOnce
open Go.ChangeShapes Go.WideShapes Go.ChangeAt Go.RowKit

theorem own : ownKnob Try.prog.godebug = none := by kernel_rfl
theorem laidOut : laidOutB Try.prog = true := by kernel_rfl

set_option maxRecDepth 100000 in
theorem lifted (os : Os) (started : os.Started) (H : Type) (enc : TypeId × Value → H) :
    ReturnsInHanded {} Try.checked os 11 .any (Rows.modelioOnceSpec.pre6 enc Try.prog Try.f11 Rows.modelioOnceRow.domain false) (Rows.modelioOnceSpec.post enc Try.prog Try.f11 false true false false) := by
  refine returnsInHanded_of_change (C := Try.checked) own started (by kernel_rfl) Try.func11
    (ChangeSpec.witness6 (enc := enc) (C := Try.checked) false ⟨#[], #[.string ⟨#[]⟩], []⟩ 8 (by kernel_rfl) (by kernel_rfl) (by kernel_rfl) (by kernel_rfl)) ?_
  intro W base args ds gs before hval0 hW hcnd _
  have hval : ∀ (j : Nat) t v, Try.f11.params[j]? = some t → args[j]? = some v → Value.okWide Try.prog W .any base t v := hval0
  have hW' := hW
  obtain ⟨p, q, hA0, hV, rfl, hfz, hnd⟩ := hW
  have hA : DataW.TrodAll enc Try.prog W 0 (fun _ => true) true Try.f11.params.toList args.toList ds p := hA0
  rw [Try.params11] at hA hval
  obtain ⟨v0, vs0, d0, ds0, p0, q0, hargs, rfl, rfl, h0, r0⟩ := trodAll_cons hA
  obtain ⟨rfl, rfl, rfl⟩ := trodAll_nil r0
  obtain rfl : args = #[v0] := by cases args; simp_all
  obtain ⟨rfl, rfl⟩ := trodVars_none hV
  have lt0 : ∀ x ∈ p0, x.block < W.heap.size := by obtain ⟨m, hm⟩ := h0; exact DataW.trod_lt m _ _ _ hm
  obtain ⟨x0, rfl, wx0⟩ := arg_string (hval 0 9 v0 rfl rfl) h0
  clear hA0 hval0
  refine (ModelioOnce_any x0 W).mono fun e W' ⟨he, hg⟩ => ?_
  subst he
  exact ⟨_, rfl, _, _, _, [], _, [], hW', trodAll_mk1 (shut_bool Try.underlying4 _), (trodAll_cons_mk (Below.trod laidOut (by kernel_rfl) (of_decide_eq_true (by kernel_rfl)) h0 hg.below lt0) trodAll_mk0), rfl, hg.below.frame _, fun h => by cases h⟩

theorem closedA : restA Try.prog Try.f11 Rows.modelioOnceSpec Rows.modelioOnceRow = true := by kernel_rfl
theorem closedB : restB Try.prog 11 Rows.modelioOnceRow = true := by kernel_rfl
theorem closedC : restC Try.prog Try.f11 Rows.modelioOnceSpec Rows.modelioOnceRow = true := by kernel_rfl
theorem closedD : restD Try.prog Try.f11 Rows.modelioOnceSpec Rows.modelioOnceRow = true := by kernel_rfl
theorem closed : joinedFacts Try.prog 11 Try.f11 Rows.modelioOnceSpec Rows.modelioOnceRow = true := joined_of Try.prog 11 Try.f11 Rows.modelioOnceSpec Rows.modelioOnceRow mayEnter_yes liftsFinal_no make_cut rfl rfl closedA closedB closedC closedD
theorem named : Try.prog.funcNamed Rows.modelioOnceRow.func = some 11 := by kernel_rfl
theorem inst : Try.f11.isInstance Try.prog Rows.modelioOnceRow.origin Rows.modelioOnceRow.targs := of_decide_eq_true (by kernel_rfl)

theorem over : Rows.modelioOnceRow.holds Try.pinned (OpenSpec.ofChange Rows.modelioOnceSpec) :=
  OpenClaim.holds_of_wide 11 Try.f11 rfl rfl rfl rfl rfl rfl rfl ⟨rfl, rfl, rfl, rfl, rfl⟩ rfl rfl rfl rfl rfl named Try.func11 closed inst
    (by unfold Func.isWrapper; first | (rw [if_pos (by decide +kernel)]; kernel_rfl) | (rw [if_neg (by decide +kernel)]; exact ⟨rfl, rfl⟩))
    (fun os started H enc _ => lifted os started H enc)
end Go.Proofs.Ytkoopobfelcgpaa.modelioOnce
namespace Go.Proofs.Ytkoopobfelcgpaa
/-- THE STATEMENT. -/
theorem modelioOnce_holds : Rows.ModelioOnceSaid := modelioOnce.over
#print axioms modelioOnce_holds
end Go.Proofs.Ytkoopobfelcgpaa
