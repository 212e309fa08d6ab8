/- layer 7: dice, what computes -/
import Derived.Test.YtkoopobfelcgpaaK2
import Derived.Laws.BitsAllLaws
set_option linter.unusedSimpArgs false
set_option linter.unusedVariables false
namespace Go.Proofs.Ytkoopobfelcgpaa
open Go.RowKit

def u64i (x : Int) : Prop := 0 ≤ x ∧ x < 18446744073709551616
theorem u64_wrap (x : Int) : u64i (IntKind.u64.wrap x) := by
  unfold u64i IntKind.wrap; simp [IntKind.signed, IntKind.bits]; omega
theorem u64_same {x : Int} (h : u64i x) : IntKind.u64.wrap x = x := by
  unfold u64i at h; unfold IntKind.wrap; simp [IntKind.signed, IntKind.bits]; omega
theorem u64_xor' {a b : Int} (ha : u64i a) (hb : u64i b) : u64i (Go.bits .xor .u64 a b) := by
  rw [u64_xor a b ha.1 ha.2 hb.1 hb.2]
  unfold u64i at *
  have h1 : a.toNat ^^^ b.toNat < 2 ^ 64 := Nat.xor_lt_two_pow (by omega) (by omega)
  omega
theorem u64_quo {a : Int} (d : Int) (hd : 0 < d) (ha : u64i a) : IntKind.u64.wrap (Int.tdiv a d) = a / d := by
  unfold u64i at ha
  rw [Int.tdiv_eq_ediv_of_nonneg ha.1]
  refine u64_same ⟨Int.ediv_nonneg ha.1 (by omega), ?_⟩
  have : a / d ≤ a := Int.ediv_le_self _ ha.1
  omega
theorem u64_div {a : Int} (d : Int) (hd : 0 < d) (ha : u64i a) : u64i (a / d) := by
  rw [← u64_quo d hd ha]; exact u64_wrap _

/-- 64 bits, stirred -/
def stirA (z : Int) : Int := IntKind.u64.wrap (Go.bits .xor .u64 z (z / 1073741824) * 13787848793156543929)
def stirB (z : Int) : Int := IntKind.u64.wrap (Go.bits .xor .u64 z (z / 134217728) * 10723151780598845931)
def stirV (z : Int) : Int := Go.bits .xor .u64 (stirB (stirA z)) (stirB (stirA z) / 2147483648)
theorem stirV_u (z : Int) : u64i (stirV z) := u64_xor' (u64_wrap _) (u64_div _ (by omega) (u64_wrap _))
theorem stir_any (z : Int) (w : World) : Calls Try.prog 187 #[.int .u64 z] w fun e w' => e = .returned (.int .u64 (stirV z)) ∧ w = w' := by
  go_enter Try.func187, Try.ntmps187
  go_wp2
  go_ret
  exact ⟨rfl, rfl⟩
theorem Rstir_any (z : Int) (hz : u64i z) (w : World) : Calls Try.prog 184 #[.int .u64 z] w fun e w' => e = .returned (.int .u64 (stirV z)) ∧ w = w' := by
  have h1 := u64_quo 1073741824 (by omega) hz
  have h2 : IntKind.u64.wrap (Int.tdiv (stirA z) 134217728) = stirA z / 134217728 := u64_quo _ (by omega) (u64_wrap _)
  have h3 : IntKind.u64.wrap (Int.tdiv (stirB (stirA z)) 2147483648) = stirB (stirA z) / 2147483648 := u64_quo _ (by omega) (u64_wrap _)
  unfold stirB at h3
  unfold stirA at h2 h3
  have H1 := Lib.hid h1
  have H2 := Lib.hid h2
  have H3 := Lib.hid h3
  clear h1 h2 h3
  go_enter Try.func184, Try.ntmps184
  go_wp2
  go_ret
  refine ⟨?_, rfl⟩
  unfold stirV stirB stirA
  rw [H1.out, H2.out, H3.out]
  rfl

/-- a word, some steps on -/
def stepU (z n : Int) : Int := stirV (IntKind.u64.wrap (z + IntKind.u64.wrap (IntKind.u64.wrap (IntKind.u64.wrap n + 1) * 11400714819323198485)))
theorem stepU_u (z n : Int) : u64i (stepU z n) := stirV_u _
theorem step_any (z n : Int) (w : World) : Calls Try.prog 178 #[.int .u64 z, .int .i64 n] w fun e w' => e = .returned (.int .u64 (stepU z n)) ∧ w = w' := by
  go_enter Try.func178, Try.ntmps178
  go_wp2_with (go_at_call 187; refine (stir_any _ _).mono ?_; rintro e w' ⟨rfl, rfl⟩)
  go_ret
  exact ⟨rfl, rfl⟩
/-- a process's word -/
def wordU (seed me : Int) : Int := stepU (IntKind.u64.wrap seed) me
theorem Rword_any (seed me : Int) (w : World) : Calls Try.prog 185 #[.int .i64 seed, .int .i64 me] w fun e w' => e = .returned (.int .u64 (wordU seed me)) ∧ w = w' := by
  go_enter Try.func185, Try.ntmps185
  go_wp2_with (go_at_call 184; refine (Rstir_any _ (u64_wrap _) _).mono ?_; rintro e w' ⟨rfl, rfl⟩)
  go_ret
  exact ⟨rfl, rfl⟩
theorem Rroll_any (seed me n : Int) (w : World) : Calls Try.prog 165 #[.int .i64 seed, .int .i64 me, .int .i64 n] w fun e w' => e = .returned (.int .u64 (stepU (wordU seed me) n)) ∧ w = w' := by
  go_enter Try.func165, Try.ntmps165
  go_wp2_with (first
    | (go_at_call 185; refine (Rword_any _ _ _).mono ?_; rintro e w' ⟨rfl, rfl⟩)
    | (go_at_call 184; refine (Rstir_any _ (u64_wrap _) _).mono ?_; rintro e w' ⟨rfl, rfl⟩))
  go_ret
  exact ⟨rfl, rfl⟩

def i64' (n : Int) : Prop := -9223372036854775808 ≤ n ∧ n ≤ 9223372036854775807
theorem wrap64_same {n : Int} (h : i64' n) : wrap64 n = n := by unfold i64' at h; unfold wrap64; omega
theorem wrap64_i64 (n : Int) : i64' (wrap64 n) := by unfold i64' wrap64; omega
/-- a chance from 0 to below n, n not below 1 -/
def chance (x n : Int) : Int := x % n
theorem chance_i64 (x n : Int) (h1 : 1 ≤ n) (h2 : i64' n) : i64' (chance x n) := by
  unfold i64' chance at *
  have := Int.emod_nonneg x (b := n) (by omega)
  have := Int.emod_lt_of_pos x (b := n) (by omega)
  omega
theorem u64_pos {n : Int} (h1 : 1 ≤ n) (h2 : i64' n) : IntKind.u64.wrap n = n := u64_same (by unfold u64i; unfold i64' at h2; omega)
theorem below_any (x n : Int) (hx : u64i x) (h1 : 1 ≤ n) (h2 : i64' n) (w : World) : Calls Try.prog 189 #[.int .u64 x, .int .i64 n] w fun e w' => e = .returned (.int .i64 (chance x n)) ∧ w = w' := by
  have hu := u64_pos h1 h2
  have hne : ¬ IntKind.u64.wrap n = 0 := by rw [hu]; omega
  have hlt : decide (n < 1) = false := by simp; omega
  have hr : wrap64 (Int.tmod x n) = chance x n := by
    have e : Int.tmod x n = x % n := Int.tmod_eq_emod_of_nonneg hx.1
    rw [e]; exact wrap64_same (chance_i64 x n h1 h2)
  have HU := Lib.hid hu
  have HR := Lib.hid hr
  clear hu hr
  go_enter Try.func189, Try.ntmps189
  go_wp2
  go_ret
  exact ⟨by rw [HU.out, HR.out]; rfl, rfl⟩
theorem Rbelow_any (x n : Int) (hx : u64i x) (h1 : 1 ≤ n) (h2 : i64' n) (w : World) : Calls Try.prog 164 #[.int .u64 x, .int .i64 n] w fun e w' => e = .returned (.int .i64 (chance x n)) ∧ w = w' := by
  have hu := u64_pos h1 h2
  have hne : ¬ IntKind.u64.wrap n = 0 := by rw [hu]; omega
  have hlt : decide (n < 1) = false := by simp; omega
  have hr : wrap64 (IntKind.u64.wrap (x - IntKind.u64.wrap (IntKind.u64.wrap (Int.tdiv x n) * n))) = chance x n := by
    have hd := u64_quo n (by omega) hx
    have hm := Int.emod_add_mul_ediv x n
    have h3 := Int.emod_nonneg x (b := n) (by omega)
    have h4 := Int.emod_lt_of_pos x (b := n) (by omega)
    have h5 : 0 ≤ x / n := Int.ediv_nonneg hx.1 (by omega)
    have h6 : 0 ≤ x / n * n := Int.mul_nonneg h5 (by omega)
    have hmc := Int.mul_comm (x / n) n
    rw [hd, u64_same (x := x / n * n) (by unfold u64i at *; omega), show x - x / n * n = x % n by omega, u64_same (x := x % n) (by unfold u64i at *; unfold i64' at h2; omega)]
    exact wrap64_same (chance_i64 x n h1 h2)
  have HU := Lib.hid hu
  have HR := Lib.hid hr
  clear hu hr
  go_enter Try.func164, Try.ntmps164
  go_wp2
  go_ret
  exact ⟨by rw [HU.out, HR.out]; rfl, rfl⟩

/-- quotient and rest -/
theorem rem_is (a b : Int) (hb : ¬ b = 0) (h2 : i64' b) : wrap64 (a - wrap64 (wrap64 (Int.tdiv a b) * b)) = Int.tmod a b := by
  have hm := Int.tmod_add_mul_tdiv a b
  have h3 : i64' (Int.tmod a b) := by
    unfold i64' at *
    have h4 := Int.tmod_lt_of_pos (a := a) (b := b.natAbs) (by omega)
    have h5 := Int.lt_tmod_of_pos (a := a) (b := b.natAbs) (by omega)
    have e : Int.tmod a b.natAbs = Int.tmod a b := by
      rcases Int.natAbs_eq b with e | e
      · rw [← e]
      · conv => rhs; rw [e]
        rw [Int.tmod_neg]
    omega
  generalize Int.tmod a b = r at *
  generalize Int.tdiv a b = q at *
  have e1 : ∃ k : Int, wrap64 q = q + k * 18446744073709551616 := ⟨(wrap64 q - q) / 18446744073709551616, by unfold wrap64; omega⟩
  obtain ⟨k, hk⟩ := e1
  rw [hk]
  have e2 : (q + k * 18446744073709551616) * b = q * b + (k * b) * 18446744073709551616 := by rw [Int.add_mul, Int.mul_right_comm]
  rw [e2]
  have e3 := Int.mul_comm b q
  rw [← wrap64_same h3]
  generalize k * b = u at *
  rw [e3] at hm
  generalize q * b = v at *
  unfold wrap64
  omega
theorem neg_quo (a b : Int) (hb : b = -1) : wrap64 (Int.tdiv a b) = wrap64 (-a) := by subst hb; rw [Int.tdiv_neg, Int.tdiv_one]
theorem neg_rem (a b : Int) (hb : b = -1) : Int.tmod a b = 0 := by subst hb; rw [Int.tmod_neg, Int.tmod_one]
end Go.Proofs.Ytkoopobfelcgpaa
