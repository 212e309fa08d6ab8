/- layer 5: the leaves -/
import Derived.Test.YtkoopobfelcgpaaBase
namespace Go.Proofs.Ytkoopobfelcgpaa
open Go.RowKit

theorem isnan_any (x : Nat) (w : World) : Calls Try.prog 80 #[.float .f64 x] w fun e w' => e = .returned (.bool (fnan x)) ∧ w = w' := by
  go_enter Try.func80, Try.ntmps80
  go_wp2
  go_ret; exact ⟨rfl, rfl⟩

def regB (n : Int) : Bool := decide (0 ≤ n) && decide (n ≤ 7)
theorem reg_any (n : Int) (w : World) : Calls Try.prog 85 #[.int .i64 n] w fun e w' => e = .returned (.bool (regB n)) ∧ w = w' := by
  go_enter Try.func85, Try.ntmps85
  go_wp2
  all_goals (go_ret; exact ⟨ret_bool (by grind [regB]), rfl⟩)

def withinB (n a b : Int) : Bool := decide (a ≤ n) && decide (n ≤ b)
theorem within_any (n a b : Int) (w : World) : Calls Try.prog 82 #[.int .i64 n, .int .i64 a, .int .i64 b] w fun e w' => e = .returned (.bool (withinB n a b)) ∧ w = w' := by
  go_enter Try.func82, Try.ntmps82
  go_wp2
  all_goals (go_ret; exact ⟨ret_bool (by grind [withinB]), rfl⟩)

theorem float_any (x y : Nat) (w : World) : Calls Try.prog 86 #[.float .f64 x, .float .f64 y] w fun e w' => e = .returned (.bool (fsame x y)) ∧ w = w' := by
  have hx := run_fbits
  go_enter Try.func86, Try.ntmps86
  go_wp2_with (go_at_call 80; refine (isnan_any _ _).mono ?_; rintro e w' ⟨rfl, rfl⟩)
  all_goals (clear hx; go_ret; exact ⟨ret_bool (by grind [fsame]), rfl⟩)

theorem Float_any (x y : Nat) (w : World) : Calls Try.prog 94 #[.float .f64 x, .float .f64 y] w fun e w' => e = .returned (.bool (fsame x y)) ∧ w = w' := by
  have hx := run_fbits
  go_enter Try.func94, Try.ntmps94
  go_wp2
  all_goals (clear hx; go_ret; exact ⟨ret_bool (by grind [fsame, fnan]), rfl⟩)

end Go.Proofs.Ytkoopobfelcgpaa
