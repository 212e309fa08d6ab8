/- layer 5: instructions -/
import Derived.Test.YtkoopobfelcgpaaA1
namespace Go.Proofs.Ytkoopobfelcgpaa
open Go.RowKit

/-- may an instruction be (P5.2)? -/
def insB (op a b c len : Int) : Bool :=
  if op = 0 then true
  else if op = 1 then regB a
  else if op = 2 ∨ op = 11 ∨ op = 13 ∨ op = 14 then regB a && regB b
  else if op = 3 ∨ op = 4 ∨ op = 5 ∨ op = 6 ∨ op = 7 ∨ op = 8 ∨ op = 12 then regB a && (regB b && regB c)
  else if op = 9 then decide (0 ≤ a) && decide (a ≤ len)
  else if op = 10 then regB a && (decide (0 ≤ b) && decide (b ≤ len))
  else false

theorem RIns_any (op a b c len : Int) (w : World) : Calls Try.prog 34 #[.agg #[.int .i64 op, .int .i64 a, .int .i64 b, .int .i64 c], .int .i64 len] w
    fun e w' => e = .returned (.bool (insB op a b c len)) ∧ Gr w w' := by
  go_enter Try.func34, Try.ntmps34
  go_wp2_with (go_at_call 85; refine (reg_any _ _).mono ?_; rintro e w' ⟨rfl, rfl⟩)
  all_goals (go_ret; exact ⟨ret_bool (by grind [insB]), (Gr.refl _).alloc _⟩)

def needsS (op : Int) : ByteArray :=
  if op = 0 then ⟨#[45, 45, 45]⟩
  else if op = 1 then ⟨#[114, 45, 45]⟩
  else if op = 2 ∨ op = 11 ∨ op = 13 ∨ op = 14 then ⟨#[114, 114, 45]⟩
  else if op = 3 ∨ op = 4 ∨ op = 5 ∨ op = 6 ∨ op = 7 ∨ op = 8 ∨ op = 12 then ⟨#[114, 114, 114]⟩
  else if op = 9 then ⟨#[112, 45, 45]⟩
  else if op = 10 then ⟨#[114, 112, 45]⟩
  else ⟨#[]⟩

theorem ret_string {a b : ByteArray} (h : a = b) : Ending.returned (.string a) = .returned (.string b) := by rw [h]
theorem needs_any (op : Int) (w : World) : Calls Try.prog 84 #[.int .i64 op] w fun e w' => e = .returned (.string (needsS op)) ∧ w = w' := by
  go_enter Try.func84, Try.ntmps84
  go_wp2
  all_goals (go_ret; exact ⟨ret_string (by grind [needsS]), rfl⟩)
end Go.Proofs.Ytkoopobfelcgpaa
