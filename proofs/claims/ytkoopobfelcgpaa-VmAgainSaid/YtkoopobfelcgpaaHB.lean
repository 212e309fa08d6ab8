/- layer 7: the reference: may it be run? what computes -/
import Derived.Test.YtkoopobfelcgpaaH9
import Derived.Test.YtkoopobfelcgpaaH5
set_option linter.unusedSimpArgs false
set_option linter.unusedVariables false
namespace Go.Proofs.Ytkoopobfelcgpaa
open Go.RowKit

theorem rinsOne_any (x : PIns) (n : Int) (w : World) : Calls Try.prog 34 #[.agg #[.int .i64 x.op, .int .i64 x.a, .int .i64 x.b, .int .i64 x.c], .int .i64 n] w fun e w' => e = .returned (.bool (insP n x)) ∧ Gr w w' := RIns_any _ _ _ _ _ _
set_option maxHeartbeats 1000000 in
theorem RMay_any (p : List PIns) (i : PIn) (vp vw : Value) (w : World) (hp : Sl 4 InsAt w vp p) (hw : Sl 1 IntAt w vw i.words) :
    Calls Try.prog 52 #[vp, inV vw i] w fun e w' => e = .returned (.int .i64 (mayE p i.words.length)) ∧ Gr w w' := by
  obtain ⟨a, cap, rfl, hpc, hpm, -, hpe⟩ := hp
  obtain ⟨aw, cw, rfl, hwc, hwm, -, -⟩ := hw
  unfold maxLen at hpm hwm
  have HP := Lib.hid hpe
  clear hpe
  by_cases h1 : p.length = 0
  · have g0 : decide ((p.length : Int) < 1) = true := decide_eq_true (by omega)
    have hm : mayE p i.words.length = 15 := by simp [mayE, h1]
    have HM := Lib.hid hm
    clear hm
    go_enter Try.func52, Try.ntmps52
    go_wp2
    go_ret
    exact ⟨by rw [HM.out]; rfl, (Gr.refl _).alloc _⟩
  by_cases h2 : 48 < p.length
  · have g0 : decide ((p.length : Int) < 1) = false := decide_eq_false (by omega)
    have g1 : decide (48 < (p.length : Int)) = true := decide_eq_true (by omega)
    have hm : mayE p i.words.length = 15 := by simp [mayE, h2]
    have HM := Lib.hid hm
    clear hm
    go_enter Try.func52, Try.ntmps52
    go_wp2
    go_ret
    exact ⟨by rw [HM.out]; rfl, (Gr.refl _).alloc _⟩
  have g0 : decide ((p.length : Int) < 1) = false := decide_eq_false (by omega)
  have g1 : decide (48 < (p.length : Int)) = false := decide_eq_false (by omega)
  have HN := Lib.hid (show ¬ (p.length = 0 ∨ 48 < p.length) by omega)
  go_enter Try.func52, Try.ntmps52
  go_wp2
  go_loopg [5] p.length (fun g k wr => ∃ j : Nat, g + j = p.length ∧ k = .int .i64 j ∧ (p.take j).all (insP p.length) = true ∧
    Gr (w.alloc (.cells #[.slice aw i.words.length cw, .int .i64 i.pay, .int .i64 i.me, .int .i64 i.lps, .int .i64 i.seed, .int .i64 i.dice] 51)) wr)
  case atStart => exact ⟨0, by omega, rfl, by simp, Gr.refl _⟩
  case round =>
    obtain ⟨j, hj, rfl, hall, hg⟩ := hrel
    have HA := Lib.hid hall; clear hall
    have HG := Lib.hid hg
    have hg0 : Gr w wr := Gr.trans ((Gr.refl w).alloc _) hg
    have cW : wr.cell? ⟨w.heap.size, 0, none⟩ = some (.slice aw i.words.length cw) := hg.cell (by simp)
    clear hg
    by_cases hlt : j < p.length
    · obtain ⟨q, o, rfl, x0, x1, x2, x3⟩ := HP.out j p[j] (by simp [hlt])
      have x0 := hg0.cell x0
      have x1 := hg0.cell x1
      have x2 := hg0.cell x2
      have x3 := hg0.cell x3
      cases hb : insP p.length p[j]
      · have HB := Lib.hid hb
        clear hb
        go_wp2_with (go_at_call 34; refine (Calls.to (rinsOne_any p[j] _ _) (boolv HB.out)).mono ?_; rintro e w1 ⟨rfl, hg1⟩)
        go_ret
        exact ⟨by
          have := all_false (insP p.length) p j p[j] (by simp [hlt]) HB.out
          have e2 : mayE p i.words.length = 15 := by
            unfold mayE; rw [if_neg HN.out]; unfold insP at this; rw [if_pos this]
          rw [e2]; rfl, hg0.trans hg1⟩
      · have HB := Lib.hid hb
        clear hb
        go_wp2_with (go_at_call 34; refine (Calls.to (rinsOne_any p[j] _ _) (boolv HB.out)).mono ?_; rintro e w1 ⟨rfl, hg1⟩)
        go_roundg (gk - 1)
        case measure => omega
        case rel => exact ⟨j + 1, by omega, by go_num, all_take_succ _ p j p[j] (by simp [hlt]) HA.out HB.out, HG.out.trans hg1⟩
    · have hw := all_whole _ p j (by omega) HA.out
      have HW := Lib.hid hw; clear hw
      by_cases h8 : 8 < i.words.length
      · have g2 : decide (8 < (i.words.length : Int)) = true := decide_eq_true (by omega)
        go_wp2
        go_ret
        exact ⟨by
          have e2 : mayE p i.words.length = 2 := by
            unfold mayE; rw [if_neg HN.out, if_neg (by have := HW.out; unfold insP at this; simp [this]), if_pos h8]
          rw [e2]; rfl, hg0⟩
      · have g2 : decide (8 < (i.words.length : Int)) = false := decide_eq_false (by omega)
        go_wp2
        go_ret
        exact ⟨by
          have e2 : mayE p i.words.length = 0 := by
            unfold mayE; rw [if_neg HN.out, if_neg (by have := HW.out; unfold insP at this; simp [this]), if_neg h8]
          rw [e2]; rfl, hg0⟩

theorem quot_any (a b : Int) (hb : ¬ b = 0) (h2 : i64' b) (w : World) : Calls Try.prog 186 #[.int .i64 a, .int .i64 b] w fun e w' => e = .returned (.tuple #[.int .i64 (wrap64 (Int.tdiv a b)), .int .i64 (Int.tmod a b)]) ∧ ∃ m, w' = w.drewN m := by
  by_cases h1 : b = -1
  · subst h1
    have HQ := Lib.hid (neg_quo a (-1) rfl)
    have HR := Lib.hid (neg_rem a (-1) rfl)
    have hz : (0 : Int) - a = -a := by omega
    go_enter Try.func186, Try.ntmps186
    go_wp2
    go_ret2
    exact ⟨by rw [HQ.out, HR.out]; rfl, 0, rfl⟩
  · have h3 : (b == -1) = false := by simpa using h1
    have HR := Lib.hid (rem_is a b hb h2)
    go_enter Try.func186, Try.ntmps186
    go_wp2
    go_quiet (fail)
    go_wp2
    go_ret2
    exact ⟨by rw [HR.out]; rfl, _, rfl⟩
/-- what computes: the value, and a fault -/
theorem two_any (op b c : Int) (hop : 3 ≤ op ∧ op ≤ 8) (hz : (op = 6 ∨ op = 7) → ¬ c = 0) (h2 : i64' c) (w : World) : Calls Try.prog 167 #[.int .i64 op, .int .i64 b, .int .i64 c] w fun e w' => e = .returned (.tuple #[.int .i64 (twoV op b c), .int .i64 0]) ∧ ∃ m, w' = w.drewN m := by
  have h3 : op = 3 ∨ op = 4 ∨ op = 5 ∨ op = 6 ∨ op = 7 ∨ op = 8 := by omega
  rcases h3 with rfl | rfl | rfl | rfl | rfl | rfl
  · go_enter Try.func167, Try.ntmps167
    go_wp2
    go_ret2
    exact ⟨rfl, 0, rfl⟩
  · go_enter Try.func167, Try.ntmps167
    go_wp2
    go_ret2
    exact ⟨rfl, 0, rfl⟩
  · go_enter Try.func167, Try.ntmps167
    go_wp2
    go_ret2
    exact ⟨rfl, 0, rfl⟩
  · have h4 := hz (.inl rfl)
    have h5 : (c == 0) = false := by simpa using h4
    go_enter Try.func167, Try.ntmps167
    go_wp2_with (go_at_call 186; refine (quot_any _ _ h4 h2 _).mono ?_; rintro e w' ⟨rfl, nd, rfl⟩)
    go_ret2
    exact ⟨rfl, _, rfl⟩
  · have h4 := hz (.inr rfl)
    have h5 : (c == 0) = false := by simpa using h4
    go_enter Try.func167, Try.ntmps167
    go_wp2_with (go_at_call 186; refine (quot_any _ _ h4 h2 _).mono ?_; rintro e w' ⟨rfl, nd, rfl⟩)
    go_ret2
    exact ⟨rfl, _, rfl⟩
  · by_cases hl : b < c
    · have hv : twoV 8 b c = 1 := by simp [twoV, hl]
      have HV := Lib.hid hv
      clear hv
      have g0 : decide (b < c) = true := by simpa using hl
      go_enter Try.func167, Try.ntmps167
      go_wp2
      go_ret2
      exact ⟨by rw [HV.out]; rfl, 0, rfl⟩
    · have hv : twoV 8 b c = 0 := by simp [twoV, hl]
      have HV := Lib.hid hv
      clear hv
      have g0 : decide (b < c) = false := by simpa using hl
      go_enter Try.func167, Try.ntmps167
      go_wp2
      go_ret2
      exact ⟨by rw [HV.out]; rfl, 0, rfl⟩
theorem twoBad_any (op b : Int) (hop : op = 6 ∨ op = 7) (w : World) : Calls Try.prog 167 #[.int .i64 op, .int .i64 b, .int .i64 0] w fun e w' => e = .returned (.tuple #[.int .i64 0, .int .i64 2]) ∧ ∃ m, w' = w.drewN m := by
  rcases hop with rfl | rfl
  · go_enter Try.func167, Try.ntmps167
    go_wp2
    go_ret2
    exact ⟨rfl, 0, rfl⟩
  · go_enter Try.func167, Try.ntmps167
    go_wp2
    go_ret2
    exact ⟨rfl, 0, rfl⟩
end Go.Proofs.Ytkoopobfelcgpaa
