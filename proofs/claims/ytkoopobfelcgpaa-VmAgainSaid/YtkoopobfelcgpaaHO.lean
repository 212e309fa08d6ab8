/- layer 7: Steps; the law VmSteps -/
import Derived.Test.YtkoopobfelcgpaaHL
set_option linter.unusedSimpArgs false
set_option linter.unusedVariables false
namespace Go.Proofs.Ytkoopobfelcgpaa
open Go.RowKit

def stepsV (p : List PIns) (i : PIn) : Int := if mayE p i.words.length = 0 then (finV p i).2.n else 0
theorem step_n {p : List PIns} {lps z : Int} {r : VR} (hm : r.may p) : (stepV p lps z r).2.2.n ≤ 120 ∨ (stepV p lps z r).1 = 0 ∧ (stepV p lps z r).2.1 = true := by
  have h1 := hm.n1
  unfold stepV
  split
  · left; exact h1
  split
  · left; exact h1
  rename_i h2
  split
  · left; show r.n + 1 ≤ 120; omega
  split
  · right; exact ⟨rfl, rfl⟩
  · left; show r.n + 1 ≤ 120; omega
theorem run_n {p : List PIns} {lps z : Int} (hok : okIns p) (hi : insI p) : ∀ (k : Nat) (r : VR), r.may p → r.wf → (runV p lps z k r).2.n ≤ 120
  | 0, r, hm, _ => hm.n1
  | k + 1, r, hm, hw => by
    show (if _ then (if _ then _ else _) else _ : Int × VR).2.n ≤ 120
    split
    · rename_i h0
      split
      · rename_i h1
        obtain ⟨a, b, -⟩ := step_inv hok hi hm hw h0 h1
        exact run_n hok hi k _ b a
      · rename_i h1
        rcases step_n (lps := lps) (z := z) hm with h | h
        · exact h
        · exact absurd h.2 h1
    · rename_i h0
      rcases step_n (lps := lps) (z := z) hm with h | h
      · exact h
      · exact absurd h.1 h0
theorem fin_n {p : List PIns} {i : PIn} (hm : mayE p i.words.length = 0) (hi : insI p) (hwf : i.wf) : (finV p i).2.n ≤ 120 :=
  run_n (may_ok hm).1 hi _ _ (start_may p i) (start_wf hwf (may_ok hm).2.1)
section
variable {p : List PIns} {i : PIn} {vp vw : Value} {w : World}
set_option maxHeartbeats 2000000 in
set_option maxRecDepth 100000 in
theorem StepsNot_any (hp : Sl 4 InsAt w vp p) (hw : Sl 1 IntAt w vw i.words) (x : Int) (hm : mayE p i.words.length = x) (hx : ¬ x = 0) :
    Calls Try.prog 51 #[vp, inV vw i] w fun e w' => e = .returned (.int .i64 0) ∧ Gr w w' := by
  have HP := Lib.hid hp
  have HW := Lib.hid hw
  have HM := Lib.hid hm
  obtain ⟨a, m, rfl, -⟩ := hp
  obtain ⟨aw, mw, rfl, -⟩ := hw
  have g0 : (x != 0) = true := by simpa using hx
  clear hm hx
  go_enter Try.func51, Try.ntmps51
  go_wp2_with (go_at_call 128
               refine (maySome_any p i _ _ _ (HP.out.gr InsAt.gr ((Gr.refl w).alloc _)) (HW.out.gr IntAt.gr ((Gr.refl w).alloc _)) x HM.out).mono ?_
               rintro e w1 ⟨rfl, hg1⟩
               have HG := Lib.hid (((Gr.refl w).alloc _).trans hg1)
               clear hg1)
  go_ret
  exact ⟨rfl, HG.out⟩
set_option maxHeartbeats 2000000 in
set_option maxRecDepth 100000 in
theorem StepsOk_any (hp : Sl 4 InsAt w vp p) (hw : Sl 1 IntAt w vw i.words) (hi : insI p) (hwf : i.wf) (hm : mayE p i.words.length = 0) :
    Calls Try.prog 51 #[vp, inV vw i] w fun e w' => e = .returned (.int .i64 (finV p i).2.n) ∧ Gr w w' := by
  have HP := Lib.hid hp
  have HW := Lib.hid hw
  have HM := Lib.hid hm
  have HI := Lib.hid hi
  have HWF := Lib.hid hwf
  obtain ⟨a, m, rfl, -⟩ := hp
  obtain ⟨aw, mw, rfl, -⟩ := hw
  clear hm hi hwf
  go_enter Try.func51, Try.ntmps51
  go_wp2_with (first
    | (go_at_call 128
       refine (maySome_any p i _ _ _ (HP.out.gr InsAt.gr ((Gr.refl w).alloc _)) (HW.out.gr IntAt.gr ((Gr.refl w).alloc _)) 0 HM.out).mono ?_
       rintro e w1 ⟨rfl, hg1⟩
       have hi1 := (Out.new (w := w) (T := 51) (cs := inL (.slice aw i.words.length mw) i)).gr hg1
       have i0 := hi1.cell (i := 0) rfl
       have i1 := hi1.cell (i := 1) rfl
       have i2 := hi1.cell (i := 2) rfl
       have i3 := hi1.cell (i := 3) rfl
       have i4 := hi1.cell (i := 4) rfl
       have i5 := hi1.cell (i := 5) rfl
       have HG1 := Lib.hid (((Gr.refl w).alloc _).trans hg1)
       clear hg1 hi1)
    | (go_at_call 129
       refine (begin_any _ _ i _ ⟨_, _, _, rfl⟩ (HW.out.gr IntAt.gr HG1.out) (may_ok HM.out).2.1).mono ?_
       rintro e w2 ⟨hg2, B, D, vw', vs, rfl, hr2⟩
       have HR2 := Lib.hid hr2
       have HG2 := Lib.hid hg2
       clear hg2 hr2)
    | (go_at_call 130
       refine (allFrom_any (HP.out.gr InsAt.gr HG1.out) HI.out HWF.out HM.out HG2.out HR2.out).mono ?_
       rintro e w3 ⟨rfl, hg3, vs3, hr3⟩
       have cN := hr3.cN
       have HG := Lib.hid (HG1.out.trans hg3)
       clear i0 i1 i2 i3 i4 i5 hg3 hr3))
  go_ret
  exact ⟨rfl, HG.out⟩
theorem Steps_any (hp : Sl 4 InsAt w vp p) (hw : Sl 1 IntAt w vw i.words) (hi : insI p) (hwf : i.wf) :
    Calls Try.prog 51 #[vp, inV vw i] w fun e w' => e = .returned (.int .i64 (stepsV p i)) ∧ Gr w w' := by
  by_cases hm : mayE p i.words.length = 0
  · have e1 : stepsV p i = (finV p i).2.n := by simp [stepsV, hm]
    rw [e1]; exact StepsOk_any hp hw hi hwf hm
  · have e1 : stepsV p i = 0 := by simp [stepsV, hm]
    rw [e1]; exact StepsNot_any hp hw _ rfl hm
end
set_option maxHeartbeats 4000000 in
set_option maxRecDepth 100000 in
theorem VmSteps_any (p : List PIns) (i : PIn) (vp vw : Value) (w : World) (hp : Sl 4 InsAt w vp p) (hw : Sl 1 IntAt w vw i.words) (hi : insI p) (hwf : i.wf) :
    Calls Try.prog 17 #[vp, inV vw i] w fun e w' => e = .returned (.bool true) ∧ Gr w w' := by
  have HP := Lib.hid hp
  have HW := Lib.hid hw
  have HI := Lib.hid hi
  have HWF := Lib.hid hwf
  obtain ⟨a, m, rfl, -⟩ := hp
  obtain ⟨aw, mw, rfl, -⟩ := hw
  clear hi hwf
  have HX := Lib.hid (Out.new (w := w) (T := 51) (cs := inL (.slice aw i.words.length mw) i))
  cases hf : fewB p.length i.words.length
  · have HF := Lib.hid hf
    clear hf
    go_enter Try.func17, Try.ntmps17
    go_wp2_with (first
      | (go_at_call 44; refine (fewTo_any p i _ _ _ (HP.out.gr InsAt.gr ((Gr.refl w).alloc _)) (HW.out.gr IntAt.gr ((Gr.refl w).alloc _)) _ HF.out).mono ?_; rintro e w1 ⟨rfl, hg1⟩; have HG1 := Lib.hid (((Gr.refl w).alloc _).trans hg1); clear hg1)
      | (go_at_call 45; refine (awake7_any _).mono ?_; rintro e w2 ⟨rfl, hg2⟩))
    go_ret
    exact ⟨rfl, HG1.out.trans hg2⟩
  have HF := Lib.hid hf
  clear hf
  have hst := fun (W : World) (g : Gr w W) => Steps_any (HP.out.gr InsAt.gr g) (HW.out.gr IntAt.gr g) HI.out HWF.out
  by_cases hm : mayE p i.words.length = 0
  · have HM := Lib.hid hm
    have hn : stepsV p i = (finV p i).2.n := by simp [stepsV, hm]
    have hle := fin_n hm HI.out HWF.out
    rw [hn] at hst
    obtain ⟨R, hR⟩ : ∃ R, R = finV p i := ⟨_, rfl⟩
    have hof := fun (W : World) (g : Gr w W) => Of_any p i _ _ W (HP.out.gr InsAt.gr g) (HW.out.gr IntAt.gr g) HI.out HWF.out hm
    rw [← hR] at hst hof hle
    have g1 : decide (R.2.n ≤ 120) = true := by simpa using hle
    have HST := Lib.hid hst
    have HOF := Lib.hid hof
    clear hst hof hm hn hR hle
    go_enter Try.func17, Try.ntmps17
    go_wp2_with (first
      | (go_at_call 44; refine (fewTo_any p i _ _ _ (HP.out.gr InsAt.gr ((Gr.refl w).alloc _)) (HW.out.gr IntAt.gr ((Gr.refl w).alloc _)) _ HF.out).mono ?_; rintro e w1 ⟨rfl, hg1⟩
         have HX1 := Lib.hid (HX.out.gr hg1)
         have i0 := HX1.out.cell (i := 0) rfl
         have i1 := HX1.out.cell (i := 1) rfl
         have i2 := HX1.out.cell (i := 2) rfl
         have i3 := HX1.out.cell (i := 3) rfl
         have i4 := HX1.out.cell (i := 4) rfl
         have i5 := HX1.out.cell (i := 5) rfl
         have HG1 := Lib.hid (((Gr.refl w).alloc _).trans hg1); clear hg1)
      | (go_at_call 51; refine (HST.out _ HG1.out).mono ?_; rintro e w2 ⟨rfl, hg2⟩
         clear i0 i1 i2 i3 i4 i5
         have HG2 := Lib.hid (HG1.out.trans hg2)
         have HX2 := Lib.hid (HX1.out.gr hg2)
         have i0 := HX2.out.cell (i := 0) rfl
         have i1 := HX2.out.cell (i := 1) rfl
         have i2 := HX2.out.cell (i := 2) rfl
         have i3 := HX2.out.cell (i := 3) rfl
         have i4 := HX2.out.cell (i := 4) rfl
         have i5 := HX2.out.cell (i := 5) rfl
         clear hg2)
      | (go_at_call 52; refine (rmaySome_any p i _ _ _ (HP.out.gr InsAt.gr HG2.out) (HW.out.gr IntAt.gr HG2.out) 0 HM.out).mono ?_; rintro e w3 ⟨rfl, hg3⟩
         have HG3 := Lib.hid (HG2.out.trans hg3)
         have HX3 := Lib.hid (HX2.out.gr hg3)
         clear i0 i1 i2 i3 i4 i5 hg3)
      | (go_at_call 45; refine (awake7_any _).mono ?_; rintro e w4 ⟨rfl, hg4⟩
         have HG4 := Lib.hid (HG3.out.trans hg4)
         have hx4 := HX3.out.gr hg4
         have i0 := hx4.cell (i := 0) rfl
         have i1 := hx4.cell (i := 1) rfl
         have i2 := hx4.cell (i := 2) rfl
         have i3 := hx4.cell (i := 3) rfl
         have i4 := hx4.cell (i := 4) rfl
         have i5 := hx4.cell (i := 5) rfl
         clear hg4 hx4)
      | (go_at_call 53; refine (HOF.out _ HG4.out).mono ?_; rintro e w5 ⟨hg5, B, gb, vw', vs, rfl, hr5⟩
         have cN := hr5.cN
         have HG5 := Lib.hid (HG4.out.trans hg5)
         clear i0 i1 i2 i3 i4 i5 hg5 hr5))
    go_ret
    exact ⟨by simp, HG5.out⟩
  · have hn : stepsV p i = 0 := by simp [stepsV, hm]
    rw [hn] at hst
    obtain ⟨x, hx⟩ : ∃ x, mayE p i.words.length = x := ⟨_, rfl⟩
    have hx0 : ¬ x = 0 := by rw [← hx]; exact hm
    have g0 : (x != 0) = true := by simpa using hx0
    have HXX := Lib.hid hx
    have HST := Lib.hid hst
    clear hst hm hn hx hx0
    go_enter Try.func17, Try.ntmps17
    go_wp2_with (first
      | (go_at_call 44; refine (fewTo_any p i _ _ _ (HP.out.gr InsAt.gr ((Gr.refl w).alloc _)) (HW.out.gr IntAt.gr ((Gr.refl w).alloc _)) _ HF.out).mono ?_; rintro e w1 ⟨rfl, hg1⟩
         have HX1 := Lib.hid (HX.out.gr hg1)
         have i0 := HX1.out.cell (i := 0) rfl
         have i1 := HX1.out.cell (i := 1) rfl
         have i2 := HX1.out.cell (i := 2) rfl
         have i3 := HX1.out.cell (i := 3) rfl
         have i4 := HX1.out.cell (i := 4) rfl
         have i5 := HX1.out.cell (i := 5) rfl
         have HG1 := Lib.hid (((Gr.refl w).alloc _).trans hg1); clear hg1)
      | (go_at_call 51; refine (HST.out _ HG1.out).mono ?_; rintro e w2 ⟨rfl, hg2⟩
         clear i0 i1 i2 i3 i4 i5
         have HG2 := Lib.hid (HG1.out.trans hg2)
         have HX2 := Lib.hid (HX1.out.gr hg2)
         have i0 := HX2.out.cell (i := 0) rfl
         have i1 := HX2.out.cell (i := 1) rfl
         have i2 := HX2.out.cell (i := 2) rfl
         have i3 := HX2.out.cell (i := 3) rfl
         have i4 := HX2.out.cell (i := 4) rfl
         have i5 := HX2.out.cell (i := 5) rfl
         clear hg2)
      | (go_at_call 52; refine (rmaySome_any p i _ _ _ (HP.out.gr InsAt.gr HG2.out) (HW.out.gr IntAt.gr HG2.out) x HXX.out).mono ?_; rintro e w3 ⟨rfl, hg3⟩
         have HG3 := Lib.hid (HG2.out.trans hg3)
         clear i0 i1 i2 i3 i4 i5 hg3)
      | (go_at_call 45; refine (awake7_any _).mono ?_; rintro e w4 ⟨rfl, hg4⟩
         have HG4 := Lib.hid (HG3.out.trans hg4)
         clear hg4))
    go_ret
    exact ⟨by simp, HG4.out⟩
end Go.Proofs.Ytkoopobfelcgpaa
