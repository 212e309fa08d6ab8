/- layer 7: the laws' walks: VmRuns, VmWhole -/
import Derived.Test.YtkoopobfelcgpaaHK
set_option linter.unusedSimpArgs false
set_option linter.unusedVariables false
namespace Go.Proofs.Ytkoopobfelcgpaa
open Go.RowKit

theorem fewTo_any (p : List PIns) (i : PIn) (vp vw : Value) (w : World) (hp : Sl 4 InsAt w vp p) (hw : Sl 1 IntAt w vw i.words) (b : Bool) (hb : fewB p.length i.words.length = b) :
    Calls Try.prog 44 #[vp, inV vw i] w fun e w' => e = .returned (.bool b) ∧ Gr w w' := by rw [← hb]; exact few_any p i vp vw w hp hw
abbrev outL (v1 v2 : Value) (o : POut) : List Value := [v1, v2, .int .i64 o.dice, .int .i64 o.fault]
abbrev inL (v : Value) (i : PIn) : List Value := [v, .int .i64 i.pay, .int .i64 i.me, .int .i64 i.lps, .int .i64 i.seed, .int .i64 i.dice]
set_option maxHeartbeats 4000000 in
set_option maxRecDepth 100000 in
theorem VmRuns_any (p : List PIns) (i : PIn) (vp vw : Value) (w : World) (hp : Sl 4 InsAt w vp p) (hw : Sl 1 IntAt w vw i.words) (hi : insI p) (hwf : i.wf) :
    Calls Try.prog 13 #[vp, inV vw i] w fun e w' => e = .returned (.bool true) ∧ Gr w w' := by
  have HP := Lib.hid hp
  have HW := Lib.hid hw
  have HI := Lib.hid hi
  have HWF := Lib.hid hwf
  obtain ⟨a, m, rfl, -⟩ := hp
  obtain ⟨aw, mw, rfl, -⟩ := hw
  clear hi hwf
  have HX := Lib.hid (Out.new (w := w) (T := 51) (cs := inL (.slice aw i.words.length mw) i))
  cases hf : fewB p.length i.words.length
  · have HF := Lib.hid hf
    clear hf
    go_enter Try.func13, Try.ntmps13
    go_wp2_with (first
      | (go_at_call 44; refine (fewTo_any p i _ _ _ (HP.out.gr InsAt.gr ((Gr.refl w).alloc _)) (HW.out.gr IntAt.gr ((Gr.refl w).alloc _)) _ HF.out).mono ?_; rintro e w1 ⟨rfl, hg1⟩; have HG1 := Lib.hid (((Gr.refl w).alloc _).trans hg1); clear hg1)
      | (go_at_call 45; refine (awake7_any _).mono ?_; rintro e w2 ⟨rfl, hg2⟩))
    go_ret
    exact ⟨rfl, HG1.out.trans hg2⟩
  · have HF := Lib.hid hf
    clear hf
    obtain ⟨o, ho⟩ : ∃ o, o = (runOut p i).1 := ⟨_, rfl⟩
    obtain ⟨x, hx⟩ : ∃ x, x = (runOut p i).2 := ⟨_, rfl⟩
    have hrun := fun (W : World) (g : Gr w W) => Run_any (HP.out.gr InsAt.gr g) (HW.out.gr IntAt.gr g) HI.out HWF.out
    have hdo := fun (W : World) (g : Gr w W) => RDo_any (HP.out.gr InsAt.gr g) (HW.out.gr IntAt.gr g) HI.out HWF.out
    rw [← ho, ← hx] at hrun hdo
    have HRUN := Lib.hid hrun
    have HDO := Lib.hid hdo
    clear hrun hdo ho hx
    go_enter Try.func13, Try.ntmps13
    go_wp2_with (first
      | (go_at_call 44; refine (fewTo_any p i _ _ _ (HP.out.gr InsAt.gr ((Gr.refl w).alloc _)) (HW.out.gr IntAt.gr ((Gr.refl w).alloc _)) _ HF.out).mono ?_; rintro e w1 ⟨rfl, hg1⟩
         have HX1 := Lib.hid (HX.out.gr hg1)
         have i0 := HX1.out.cell (i := 0) rfl
         have i1 := HX1.out.cell (i := 1) rfl
         have i2 := HX1.out.cell (i := 2) rfl
         have i3 := HX1.out.cell (i := 3) rfl
         have i4 := HX1.out.cell (i := 4) rfl
         have i5 := HX1.out.cell (i := 5) rfl
         have HG1 := Lib.hid (((Gr.refl w).alloc _).trans hg1); clear hg1)
      | (go_at_call 46; refine (HRUN.out _ HG1.out).mono ?_; rintro e w2 ⟨hg2, v1, v2, rfl, ho1, ho2⟩
         have HO := Lib.hid (outAt_own ho1 ho2)
         obtain ⟨b1, d1, rfl⟩ := ho1.shape
         obtain ⟨b2, d2, rfl⟩ := ho2.shape
         clear i0 i1 i2 i3 i4 i5
         have HG2 := Lib.hid (HG1.out.trans hg2)
         have HX2 := Lib.hid ((HX1.out.gr hg2).alloc (.cells #[.slice b1 o.words.length d1, .slice b2 o.sent.length d2, .int .i64 o.dice, .int .i64 o.fault] 55))
         have HO1 := Lib.hid (Out.new (w := w2) (T := 55) (cs := outL (.slice b1 o.words.length d1) (.slice b2 o.sent.length d2) o))
         have i0 := HX2.out.cell (i := 0) rfl
         have i1 := HX2.out.cell (i := 1) rfl
         have i2 := HX2.out.cell (i := 2) rfl
         have i3 := HX2.out.cell (i := 3) rfl
         have i4 := HX2.out.cell (i := 4) rfl
         have i5 := HX2.out.cell (i := 5) rfl
         clear ho1 ho2 hg2)
      | (go_at_call 47; refine (HDO.out _ (HG2.out.alloc _)).mono ?_; rintro e w3 ⟨hg3, v1, v2, rfl, ho1, ho2⟩
         have HO' := Lib.hid (outAt_own ho1 ho2)
         obtain ⟨e1, f1, rfl⟩ := ho1.shape
         obtain ⟨e2, f2, rfl⟩ := ho2.shape
         clear i0 i1 i2 i3 i4 i5
         have HG23 := Lib.hid (((Gr.refl w2).alloc _).trans hg3)
         have HG3 := Lib.hid (HG2.out.trans HG23.out)
         have HO1b := Lib.hid ((HO1.out.gr hg3).alloc (.cells #[.slice e1 o.words.length f1, .slice e2 o.sent.length f2, .int .i64 o.dice, .int .i64 o.fault] 55))
         have HO2 := Lib.hid (Out.new (w := w3) (T := 55) (cs := outL (.slice e1 o.words.length f1) (.slice e2 o.sent.length f2) o))
         clear ho1 ho2 hg3)
      | (go_at_call 45; refine (awake7_any _).mono ?_; rintro e w4 ⟨rfl, hg4⟩
         have HG34 := Lib.hid (((Gr.refl w3).alloc _).trans hg4)
         have HG4 := Lib.hid (HG3.out.trans HG34.out)
         have hp1 := HO1b.out.gr hg4
         have hp2 := HO2.out.gr hg4
         have y0 := hp1.cell (i := 0) rfl
         have y1 := hp1.cell (i := 1) rfl
         have y2 := hp1.cell (i := 2) rfl
         have y3 := hp1.cell (i := 3) rfl
         have z0 := hp2.cell (i := 0) rfl
         have z1 := hp2.cell (i := 1) rfl
         have z2 := hp2.cell (i := 2) rfl
         have z3 := hp2.cell (i := 3) rfl
         clear hg4 hp1 hp2)
      | (go_at_call 48; refine (outSame_any o _ _ _ _ _ (HO.out.gr (HG23.out.trans HG34.out)) (HO'.out.gr HG34.out)).mono ?_; rintro e w5 ⟨rfl, hg5⟩
         have HG5 := Lib.hid (HG4.out.trans hg5)
         clear hg5))
    go_ret
    exact ⟨by simp, HG5.out⟩
end Go.Proofs.Ytkoopobfelcgpaa
