/- layer 7: what goes wrong; dice that are rolled -/
import Derived.Test.YtkoopobfelcgpaaH1
set_option linter.unusedSimpArgs false
set_option linter.unusedVariables false
namespace Go.Proofs.Ytkoopobfelcgpaa
open Go.RowKit

/-- how a handler goes wrong: the panic of a fault -/
abbrev faultP (f : Int) : Ending := .panicked [{ v := .iface 205 (.int .i64 f), recovered := false }]
theorem needOk_any (f : Int) (w : World) : Calls Try.prog 179 #[.bool true, .int .i64 f] w fun e w' => e = .returned (.tuple #[]) ∧ w = w' := by
  go_enter Try.func179, Try.ntmps179
  go_wp2
  go_end0
  exact ⟨rfl, rfl⟩
theorem needBad_any (f : Int) (w : World) : Calls Try.prog 179 #[.bool false, .int .i64 f] w fun e w' => e = faultP f ∧ w = w' := by
  go_enter Try.func179, Try.ntmps179
  go_wp2
  exact ⟨rfl, rfl, rfl⟩
theorem divide_any (a b : Int) (hb : ¬ b = 0) (w : World) : Calls Try.prog 190 #[.int .i64 a, .int .i64 b] w fun e w' => e = .returned (.tuple #[.int .i64 (wrap64 (Int.tdiv a b)), .int .i64 (Int.tmod a b)]) ∧ Gr w w' := by
  by_cases h1 : b = -1
  · subst h1
    have HQ := Lib.hid (neg_quo a (-1) rfl)
    have HR := Lib.hid (neg_rem a (-1) rfl)
    go_enter Try.func190, Try.ntmps190
    go_wp2_with (go_at_call 179; refine (needOk_any _ _).mono ?_; rintro e w' ⟨rfl, rfl⟩)
    go_ret2
    exact ⟨by rw [HQ.out, HR.out]; rfl, Gr.refl _⟩
  · have h0 : (b == 0) = false := by simpa using hb
    have h0' : (b != 0) = true := by simpa using hb
    have h2 : (b == -1) = false := by simpa using h1
    go_enter Try.func190, Try.ntmps190
    go_wp2_with (go_at_call 179; refine (needOk_any _ _).mono ?_; rintro e w' ⟨rfl, rfl⟩)
    repeat (go_quiet (fail); try go_wp2)
    go_ret2
    exact ⟨rfl, by repeat (first | exact Gr.refl _ | refine Gr.drew ?_ | refine Gr.drewN ?_ _)⟩
theorem divideBad_any (a : Int) (w : World) : Calls Try.prog 190 #[.int .i64 a, .int .i64 0] w fun e w' => e = faultP 2 ∧ w = w' := by
  go_enter Try.func190, Try.ntmps190
  go_wp2_with (go_at_call 179; refine (needBad_any _ _).mono ?_; rintro e w' ⟨rfl, rfl⟩)
  exact ⟨rfl, rfl, rfl⟩

theorem roll_any (D : Nat) (z n : Int) (w : World) (h : Out 207 w D [.int .u64 z, .int .i64 n]) :
    Calls Try.prog 188 #[.pointer (some ⟨D, 0, none⟩)] w fun e w' => e = .returned (.int .u64 (stepU z n)) ∧ Gr (w.setCell ⟨D, 1, none⟩ (.int .i64 (wrap64 (n + 1)))) w' ∧ Out 207 w' D [.int .u64 z, .int .i64 (wrap64 (n + 1))] := by
  have c0 : w.cell? ⟨D, 0, none⟩ = some (.int .u64 z) := h.cell rfl
  have c1 : w.cell? ⟨D, 1, none⟩ = some (.int .i64 n) := h.cell rfl
  have f1 : w.frozen? ⟨D, 1, none⟩ = false := h.free 1
  have H := Lib.hid h
  clear h
  go_enter Try.func188, Try.ntmps188
  go_wp2
  go_quiet ((go_at_call 178; exact Calls.quiet_of_same ((step_any _ _ _).mono fun _ _ ⟨h1, h2⟩ => ⟨h1, h2.symm⟩)))
  go_wp2
  go_ret
  exact ⟨rfl, (Gr.refl (w.setCell ⟨D, 1, none⟩ (.int .i64 (wrap64 (n + 1))))).drewN nq, (H.out.set 1 (.int .i64 (wrap64 (n + 1))))⟩

theorem nextBad_any (D : Nat) (m : Int) (hm : m < 1) (w : World) : Calls Try.prog 180 #[.pointer (some ⟨D, 0, none⟩), .int .i64 m] w fun e w' => e = .returned (.tuple #[.int .i64 0, .bool false]) ∧ w = w' := by
  have hlt : decide (m < 1) = true := by simpa using hm
  go_enter Try.func180, Try.ntmps180
  go_wp2
  go_ret2
  exact ⟨rfl, rfl⟩
theorem next_any (D : Nat) (z n m : Int) (hm : 1 ≤ m) (hm' : i64' m) (w : World) (h : Out 207 w D [.int .u64 z, .int .i64 n]) :
    Calls Try.prog 180 #[.pointer (some ⟨D, 0, none⟩), .int .i64 m] w fun e w' => e = .returned (.tuple #[.int .i64 (chance (stepU z n) m), .bool true]) ∧ Gr (w.setCell ⟨D, 1, none⟩ (.int .i64 (wrap64 (n + 1)))) w' ∧ Out 207 w' D [.int .u64 z, .int .i64 (wrap64 (n + 1))] := by
  have hlt : decide (m < 1) = false := by simp; omega
  have hmf : ∀ (fn : Fn) (first cap : Array Value) (w : World), (Instr.makeFunc fn first cap).run Try.prog w = .ok (.func fn first cap) w := fun _ _ _ _ => rfl
  go_enter Try.func180, Try.ntmps180
  go_wp2_with (first
    | (go_at_call 188; refine (roll_any D z n _ h).mono ?_; rintro e w' ⟨rfl, hg, ho⟩; have HG := Lib.hid hg; have HO := Lib.hid ho; clear hg ho)
    | (go_at_call 189; refine (below_any _ _ (stepU_u _ _) hm hm' _).mono ?_; rintro e w2 ⟨rfl, rfl⟩))
  go_ret2
  exact ⟨rfl, HG.out, HO.out⟩
end Go.Proofs.Ytkoopobfelcgpaa
