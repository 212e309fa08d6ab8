/- layer 7: what goes wrong is caught -/
import Derived.Test.YtkoopobfelcgpaaH3
import Derived.Defers
import Derived.Recover
import Derived.Laws.Pointers
set_option linter.unusedSimpArgs false
set_option linter.unusedVariables false
namespace Go.Proofs.Ytkoopobfelcgpaa
open Go.RowKit

set_option maxRecDepth 100000 in
theorem catch_panicking (p : Addr) (x : Value) (f : Int) (older : List PanicEntry) (w : World) (hc : w.cell? p = some x) (hz : w.frozen? p = false) :
    CallsD Try.prog 162 #[.pointer (some p)] (.panicking ({ v := .iface 205 (.int .i64 f), recovered := false } :: older)) w fun e u' w' =>
      e = .returned (.tuple #[]) ∧ u' = .panicking ({ v := .iface 205 (.int .i64 f), recovered := true } :: older) ∧ w' = w.setCell p (.int .i64 f) := by
  have hta : ∀ w, (Instr.typeAssert (.iface 205 (.int .i64 f)) 20 205 true).run Try.prog w = .ok (.tuple #[.int .i64 f, .bool true]) w := fun _ => by kernel_rfl
  refine callsD_of_wpS Try.func162 rfl fun c₀ cs hu => ?_
  apply wpS_seq
  apply wpS_region
  simp [wpOpsS, go_sem, recoverD, hu, Try.ntmps162, Exit.thenS]
  refine wpS_of_wp ?_
  rw [show (#[Value.pointer (some p)] ++ (Array.replicate 9 undef).setIfInBounds 3 (Value.iface 205 (Value.int IntKind.i64 f))) = #[.pointer (some p), undef, undef, undef, .iface 205 (.int .i64 f), undef, undef, undef, undef, undef] from rfl]
  clear hu
  go_wp2
  simp [bodyPostS, results, Try.results162, go_sem]

set_option maxRecDepth 100000 in
theorem catch_idle (p : Addr) (w : World) :
    CallsD Try.prog 162 #[.pointer (some p)] .returning w fun e u' w' => e = .returned (.tuple #[]) ∧ u' = .returning ∧ w' = w := by
  refine callsD_of_wpS Try.func162 rfl fun c₀ cs hu => ?_
  apply wpS_seq
  apply wpS_region
  simp [wpOpsS, go_sem, recoverD, hu, Try.ntmps162, Exit.thenS]
  refine wpS_of_wp ?_
  rw [show (#[Value.pointer (some p)] ++ (Array.replicate 9 undef).setIfInBounds 3 Value.nilIface) = #[.pointer (some p), undef, undef, undef, .nilIface, undef, undef, undef, undef, undef] from rfl]
  cases c₀
  simp only at hu
  subst hu
  go_wp2
  simp [bodyPostS, results, Try.results162, go_sem]
end Go.Proofs.Ytkoopobfelcgpaa
