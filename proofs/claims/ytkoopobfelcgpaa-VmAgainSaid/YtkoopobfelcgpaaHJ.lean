/- layer 7: the reference's Do -/
import Derived.Test.YtkoopobfelcgpaaHI
set_option linter.unusedSimpArgs false
set_option linter.unusedVariables false
namespace Go.Proofs.Ytkoopobfelcgpaa
open Go.RowKit
theorem rmaySome_any (p : List PIns) (i : PIn) (vp vw : Value) (w : World) (hp : Sl 4 InsAt w vp p) (hw : Sl 1 IntAt w vw i.words) (x : Int) (hx : mayE p i.words.length = x) :
    Calls Try.prog 52 #[vp, inV vw i] w fun e w' => e = .returned (.int .i64 x) ∧ Gr w w' := by rw [← hx]; exact RMay_any p i vp vw w hp hw
section
variable {p : List PIns} {i : PIn} {vp vw : Value} {w : World}
set_option maxHeartbeats 2000000 in
set_option maxRecDepth 100000 in
theorem RDoNot_any (hp : Sl 4 InsAt w vp p) (hw : Sl 1 IntAt w vw i.words) (x : Int) (hm : mayE p i.words.length = x) (hx : ¬ x = 0) :
    Calls Try.prog 47 #[vp, inV vw i] w fun e w' => e = .returned (.tuple #[outV (.slice none 0 0) (.slice none 0 0) out0, .int .i64 x]) ∧ Gr w w' := by
  have HP := Lib.hid hp
  have HW := Lib.hid hw
  have HM := Lib.hid hm
  obtain ⟨a, m, rfl, -⟩ := hp
  obtain ⟨aw, mw, rfl, -⟩ := hw
  have g0 : (x != 0) = true := by simpa using hx
  have g1 : (x == 0) = false := by simpa using hx
  clear hm hx
  go_enter Try.func47, Try.ntmps47
  go_wp2_with (go_at_call 52
               refine (rmaySome_any p i _ _ _ (HP.out.gr InsAt.gr (((Gr.refl w).alloc _).alloc _)) (HW.out.gr IntAt.gr (((Gr.refl w).alloc _).alloc _)) x HM.out).mono ?_
               rintro e w1 ⟨rfl, hg1⟩
               have hgg : Gr w w1 := (((Gr.refl w).alloc _).alloc _).trans hg1
               have ho := (Out.new (w := w.alloc (.cells #[.slice aw i.words.length mw, .int .i64 i.pay, .int .i64 i.me, .int .i64 i.lps, .int .i64 i.seed, .int .i64 i.dice] 51)) (T := 55) (cs := [.slice none 0 0, .slice none 0 0, .int .i64 0, .int .i64 0])).gr hg1
               rw [World.size_alloc] at ho
               have o0 := ho.cell (i := 0) rfl
               have o1 := ho.cell (i := 1) rfl
               have o2 := ho.cell (i := 2) rfl
               have o3 := ho.cell (i := 3) rfl
               have f0 := ho.free 0
               have f1 := ho.free 1
               have f2 := ho.free 2
               have f3 := ho.free 3
               have HG := Lib.hid hgg
               have HO := Lib.hid ho
               clear hg1 hgg ho)
  have HF := (((HO.out.set 0 (.slice none 0 0)).set 1 (.slice none 0 0)).set 2 (.int .i64 0)).set 3 (.int .i64 0)
  have y0 := HF.cell (i := 0) rfl
  have y1 := HF.cell (i := 1) rfl
  have y2 := HF.cell (i := 2) rfl
  have y3 := HF.cell (i := 3) rfl
  refine bodyPost_ret (v := .tuple #[.agg #[.slice none 0 0, .slice none 0 0, .int .i64 0, .int .i64 0], .int .i64 x]) ?_ rfl ⟨rfl, ?_⟩
  · simp [results, Try.results47, go_sem, y0, y1, y2, y3]
  · exact (((HG.out.setCell (p := ⟨w.heap.size + 1, 0, none⟩) (by simp) _).setCell (p := ⟨w.heap.size + 1, 1, none⟩) (by simp) _).setCell (p := ⟨w.heap.size + 1, 2, none⟩) (by simp) _).setCell (p := ⟨w.heap.size + 1, 3, none⟩) (by simp) _
set_option maxHeartbeats 2000000 in
set_option maxRecDepth 100000 in
theorem RDoFault_any (hp : Sl 4 InsAt w vp p) (hw : Sl 1 IntAt w vw i.words) (hi : insI p) (hwf : i.wf) (hm : mayE p i.words.length = 0) (f : Int) (hf : (finV p i).1 = f) (hx : ¬ f = 0) :
    Calls Try.prog 47 #[vp, inV vw i] w fun e w' => e = .returned (.tuple #[outV (.slice none 0 0) (.slice none 0 0) ⟨[], [], 0, f⟩, .int .i64 0]) ∧ Gr w w' := by
  have HP := Lib.hid hp
  have HW := Lib.hid hw
  have HM := Lib.hid hm
  have HI := Lib.hid hi
  have HWF := Lib.hid hwf
  have HFF := Lib.hid hf
  obtain ⟨a, m, rfl, -⟩ := hp
  obtain ⟨aw, mw, rfl, -⟩ := hw
  have g0 : (f != 0) = true := by simpa using hx
  have g1 : (f == 0) = false := by simpa using hx
  clear hm hx hi hwf hf
  go_enter Try.func47, Try.ntmps47
  go_wp2_with (first
    | (go_at_call 52
       refine (rmaySome_any p i _ _ _ (HP.out.gr InsAt.gr (((Gr.refl w).alloc _).alloc _)) (HW.out.gr IntAt.gr (((Gr.refl w).alloc _).alloc _)) 0 HM.out).mono ?_
       rintro e w1 ⟨rfl, hg1⟩
       have hgg : Gr w w1 := (((Gr.refl w).alloc _).alloc _).trans hg1
       have hi1 := ((Out.new (w := w) (T := 51) (cs := [.slice aw i.words.length mw, .int .i64 i.pay, .int .i64 i.me, .int .i64 i.lps, .int .i64 i.seed, .int .i64 i.dice])).alloc (.cells #[.slice none 0 0, .slice none 0 0, .int .i64 0, .int .i64 0] 55)).gr hg1
       have ho := (Out.new (w := w.alloc (.cells #[.slice aw i.words.length mw, .int .i64 i.pay, .int .i64 i.me, .int .i64 i.lps, .int .i64 i.seed, .int .i64 i.dice] 51)) (T := 55) (cs := [.slice none 0 0, .slice none 0 0, .int .i64 0, .int .i64 0])).gr hg1
       rw [World.size_alloc] at ho
       have i0 := hi1.cell (i := 0) rfl
       have i1 := hi1.cell (i := 1) rfl
       have i2 := hi1.cell (i := 2) rfl
       have i3 := hi1.cell (i := 3) rfl
       have i4 := hi1.cell (i := 4) rfl
       have i5 := hi1.cell (i := 5) rfl
       have HG1 := Lib.hid hgg
       have HO1 := Lib.hid ho
       clear hg1 hgg ho hi1)
    | (go_at_call 53
       refine (Of_any p i _ _ _ (HP.out.gr InsAt.gr HG1.out) (HW.out.gr IntAt.gr HG1.out) HI.out HWF.out HM.out).mono ?_
       rintro e w3 ⟨hg3, B, gb, vw', vs3, rfl, hr3⟩
       have cF := hr3.cF
       rw [HFF.out] at cF
       have ho := HO1.out.gr hg3
       have f0 := ho.free 0
       have f1 := ho.free 1
       have f2 := ho.free 2
       have f3 := ho.free 3
       have o0 := ho.cell (i := 0) rfl
       have o1 := ho.cell (i := 1) rfl
       have o2 := ho.cell (i := 2) rfl
       have o3 := ho.cell (i := 3) rfl
       have HO := Lib.hid ho
       have HG := Lib.hid (HG1.out.trans hg3)
       clear i0 i1 i2 i3 i4 i5 hg3 hr3 ho))
  have HF := (((HO.out.set 0 (.slice none 0 0)).set 1 (.slice none 0 0)).set 2 (.int .i64 0)).set 3 (.int .i64 f)
  have y0 := HF.cell (i := 0) rfl
  have y1 := HF.cell (i := 1) rfl
  have y2 := HF.cell (i := 2) rfl
  have y3 := HF.cell (i := 3) rfl
  refine bodyPost_ret (v := .tuple #[.agg #[.slice none 0 0, .slice none 0 0, .int .i64 0, .int .i64 f], .int .i64 0]) ?_ rfl ⟨rfl, ?_⟩
  · simp [results, Try.results47, go_sem, y0, y1, y2, y3]
  · exact (((HG.out.setCell (p := ⟨w.heap.size + 1, 0, none⟩) (by simp) _).setCell (p := ⟨w.heap.size + 1, 1, none⟩) (by simp) _).setCell (p := ⟨w.heap.size + 1, 2, none⟩) (by simp) _).setCell (p := ⟨w.heap.size + 1, 3, none⟩) (by simp) _
set_option maxHeartbeats 2000000 in
set_option maxRecDepth 100000 in
theorem RDoOk_any (hp : Sl 4 InsAt w vp p) (hw : Sl 1 IntAt w vw i.words) (hi : insI p) (hwf : i.wf) (hm : mayE p i.words.length = 0) (hf : (finV p i).1 = 0) :
    Calls Try.prog 47 #[vp, inV vw i] w fun e w' => Gr w w' ∧ ∃ v1 v2, e = .returned (.tuple #[outV v1 v2 ⟨(finV p i).2.w, (finV p i).2.sent, (finV p i).2.dice, 0⟩, .int .i64 0]) ∧ Own w.heap.size 3 1 intC w' v1 (finV p i).2.w ∧ Own w.heap.size 60 3 sentC w' v2 (finV p i).2.sent := by
  have HP := Lib.hid hp
  have HW := Lib.hid hw
  have HM := Lib.hid hm
  have HI := Lib.hid hi
  have HWF := Lib.hid hwf
  have HFF := Lib.hid hf
  obtain ⟨a, m, rfl, -⟩ := hp
  obtain ⟨aw, mw, rfl, -⟩ := hw
  clear hm hi hwf hf
  go_enter Try.func47, Try.ntmps47
  go_wp2_with (first
    | (go_at_call 52
       refine (rmaySome_any p i _ _ _ (HP.out.gr InsAt.gr (((Gr.refl w).alloc _).alloc _)) (HW.out.gr IntAt.gr (((Gr.refl w).alloc _).alloc _)) 0 HM.out).mono ?_
       rintro e w1 ⟨rfl, hg1⟩
       have hgg : Gr w w1 := (((Gr.refl w).alloc _).alloc _).trans hg1
       have hi1 := ((Out.new (w := w) (T := 51) (cs := [.slice aw i.words.length mw, .int .i64 i.pay, .int .i64 i.me, .int .i64 i.lps, .int .i64 i.seed, .int .i64 i.dice])).alloc (.cells #[.slice none 0 0, .slice none 0 0, .int .i64 0, .int .i64 0] 55)).gr hg1
       have ho := (Out.new (w := w.alloc (.cells #[.slice aw i.words.length mw, .int .i64 i.pay, .int .i64 i.me, .int .i64 i.lps, .int .i64 i.seed, .int .i64 i.dice] 51)) (T := 55) (cs := [.slice none 0 0, .slice none 0 0, .int .i64 0, .int .i64 0])).gr hg1
       rw [World.size_alloc] at ho
       have i0 := hi1.cell (i := 0) rfl
       have i1 := hi1.cell (i := 1) rfl
       have i2 := hi1.cell (i := 2) rfl
       have i3 := hi1.cell (i := 3) rfl
       have i4 := hi1.cell (i := 4) rfl
       have i5 := hi1.cell (i := 5) rfl
       have HG1 := Lib.hid hgg
       have HO1 := Lib.hid ho
       clear hg1 hgg ho hi1)
    | (go_at_call 53
       refine (Of_any p i _ _ _ (HP.out.gr InsAt.gr HG1.out) (HW.out.gr IntAt.gr HG1.out) HI.out HWF.out HM.out).mono ?_
       rintro e w3 ⟨hg3, B, gb, vw', vs3, rfl, hr3⟩
       have cF := hr3.cF
       rw [HFF.out] at cF
       have ho := HO1.out.gr hg3
       have f0 := ho.free 0
       have f1 := ho.free 1
       have f2 := ho.free 2
       have f3 := ho.free 3
       have o0 := ho.cell (i := 0) rfl
       have o1 := ho.cell (i := 1) rfl
       have o2 := ho.cell (i := 2) rfl
       have o3 := ho.cell (i := 3) rfl
       have HO := Lib.hid ho
       have HG := Lib.hid (HG1.out.trans hg3)
       obtain ⟨b1, d1, rfl⟩ := hr3.words.shape
       obtain ⟨b2, d2, rfl⟩ := hr3.sent.shape
       have cW := hr3.cW
       have cS := hr3.cS
       have cD := hr3.cD
       have HR3 := Lib.hid hr3
       clear i0 i1 i2 i3 i4 i5 hg3 hr3 ho))
  have hBO : B ≠ w.heap.size + 1 := HR3.out.out.apart HO.out (by decide)
  go_region_held3 (fun W' => (W'.cell? ⟨B, 1, none⟩ = some (.slice b1 (finV p i).2.w.length d1) ∧ W'.cell? ⟨B, 2, none⟩ = some (.slice b2 (finV p i).2.sent.length d2) ∧ W'.cell? ⟨B, 3, none⟩ = some (.int .i64 (finV p i).2.dice)))
    (first | exact ⟨cW, cS, cD⟩ | exact ⟨cell_set_other (cell_set_other (cell_set_other (cell_set_other cW hBO) hBO) hBO) hBO, cell_set_other (cell_set_other (cell_set_other (cell_set_other cS hBO) hBO) hBO) hBO, cell_set_other (cell_set_other (cell_set_other (cell_set_other cD hBO) hBO) hBO) hBO⟩)
    (fail)
  go_wp2
  have HF := ((((HO.out.set 0 (.slice b1 (finV p i).2.w.length d1)).set 1 (.slice b2 (finV p i).2.sent.length d2)).set 2 (.int .i64 (finV p i).2.dice)).set 3 (.int .i64 0)).drew
  have y0 := HF.cell (i := 0) rfl
  have y1 := HF.cell (i := 1) rfl
  have y2 := HF.cell (i := 2) rfl
  have y3 := HF.cell (i := 3) rfl
  refine bodyPost_ret (v := .tuple #[.agg #[.slice b1 (finV p i).2.w.length d1, .slice b2 (finV p i).2.sent.length d2, .int .i64 (finV p i).2.dice, .int .i64 0], .int .i64 0]) ?_ rfl ⟨?_, _, _, rfl, ?_, ?_⟩
  · simp [results, Try.results47, go_sem, y0, y1, y2, y3]
  · exact ((((HG.out.setCell (p := ⟨w.heap.size + 1, 0, none⟩) (by simp) _).setCell (p := ⟨w.heap.size + 1, 1, none⟩) (by simp) _).setCell (p := ⟨w.heap.size + 1, 2, none⟩) (by simp) _).setCell (p := ⟨w.heap.size + 1, 3, none⟩) (by simp) _).drew
  · exact (Own.set4 (HR3.out.words.lower HG1.out.size) HO.out (by decide) _ _ _ _).gr (Gr.refl _).drew
  · exact (Own.set4 (HR3.out.sent.lower HG1.out.size) HO.out (by decide) _ _ _ _).gr (Gr.refl _).drew

/-- horologeref07.Do: what comes of it is in new memory. -/
theorem RDo_any (hp : Sl 4 InsAt w vp p) (hw : Sl 1 IntAt w vw i.words) (hi : insI p) (hwf : i.wf) :
    Calls Try.prog 47 #[vp, inV vw i] w fun e w' => Gr w w' ∧ ∃ v1 v2, e = .returned (.tuple #[outV v1 v2 (runOut p i).1, .int .i64 (runOut p i).2]) ∧ Own w.heap.size 3 1 intC w' v1 (runOut p i).1.words ∧ Own w.heap.size 60 3 sentC w' v2 (runOut p i).1.sent := by
  by_cases hm : mayE p i.words.length = 0
  · by_cases hf : (finV p i).1 = 0
    · rw [out_at hm hf]
      exact RDoOk_any hp hw hi hwf hm hf
    · rw [out_fault hm hf]
      exact (RDoFault_any hp hw hi hwf hm _ rfl hf).mono fun e w' ⟨h1, h2⟩ => ⟨h2, _, _, h1, Own.nil, Own.nil⟩
  · rw [out_not hm]
    exact (RDoNot_any hp hw _ rfl hm).mono fun e w' ⟨h1, h2⟩ => ⟨h2, _, _, h1, Own.nil, Own.nil⟩
end
end Go.Proofs.Ytkoopobfelcgpaa
