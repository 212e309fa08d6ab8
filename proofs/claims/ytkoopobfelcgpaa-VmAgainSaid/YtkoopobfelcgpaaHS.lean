/- layer 7: must (VmAgain) -/
import Derived.Test.YtkoopobfelcgpaaHQ
set_option linter.unusedSimpArgs false
set_option linter.unusedVariables false
namespace Go.Proofs.Ytkoopobfelcgpaa
open Go.RowKit

set_option maxHeartbeats 4000000 in
set_option maxRecDepth 100000 in
theorem must_any (p : List PIns) (i : PIn) (vp vw : Value) (w : World) (hp : Sl 4 InsAt w vp p) (hw : Sl 1 IntAt w vw i.words) (hi : insI p) (hwf : i.wf) (o : POut) (ho : (runOut p i).1 = o) :
    Calls Try.prog 50 #[vp, inV vw i] w fun e w' => Gr w w' ∧ ∃ v1 v2, e = .returned (outV v1 v2 o) ∧ Own w.heap.size 3 1 intC w' v1 o.words ∧ Own w.heap.size 60 3 sentC w' v2 o.sent := by
  have HDO : Hid (∀ (W : World), Gr w W → Calls Try.prog 47 #[vp, inV vw i] W fun e w' => Gr W w' ∧ ∃ v1 v2, e = .returned (.tuple #[outV v1 v2 o, .int .i64 (runOut p i).2]) ∧ Own W.heap.size 3 1 intC w' v1 o.words ∧ Own W.heap.size 60 3 sentC w' v2 o.sent) :=
    Lib.hid fun W g => by rw [← ho]; exact RDo_any (hp.gr InsAt.gr g) (hw.gr IntAt.gr g) hi hwf
  clear ho hp hw hi hwf
  generalize (runOut p i).2 = x at HDO
  go_enter Try.func50, Try.ntmps50
  go_wp2_with (go_at_call 47; refine (HDO.out _ (((Gr.refl w).alloc _).alloc _)).mono ?_; rintro e w3 ⟨hg3, v1, v2, rfl, ho1, ho2⟩
               have HG3 := Lib.hid ((((Gr.refl w).alloc _).alloc _).trans hg3)
               have HA := Lib.hid ho1
               have HB := Lib.hid ho2
               obtain ⟨b1, d1, rfl⟩ := ho1.shape
               obtain ⟨b2, d2, rfl⟩ := ho2.shape
               have ho := (Out.new (w := w.alloc (.cells #[vw, .int .i64 i.pay, .int .i64 i.me, .int .i64 i.lps, .int .i64 i.seed, .int .i64 i.dice] 51)) (T := 55) (cs := [.slice none 0 0, .slice none 0 0, .int .i64 0, .int .i64 0])).gr hg3
               rw [World.size_alloc] at ho
               have HO := Lib.hid ho
               have hp0 := HO.out.cell (i := 0) rfl
               have hp1 := HO.out.cell (i := 1) rfl
               have hp2 := HO.out.cell (i := 2) rfl
               have hp3 := HO.out.cell (i := 3) rfl
               have hlt := ho.lt
               have hf0 := HO.out.free 0
               have hf1 := HO.out.free 1
               have hf2 := HO.out.free 2
               have hf3 := HO.out.free 3
               clear ho1 ho2 hg3 ho)
  have HF := ((((HO.out.set 0 (.slice b1 o.words.length d1)).set 1 (.slice b2 o.sent.length d2)).set 2 (.int .i64 o.dice)).set 3 (.int .i64 o.fault)).alloc (.cells #[.slice b1 o.words.length d1, .slice b2 o.sent.length d2, .int .i64 o.dice, .int .i64 o.fault] 55)
  have y0 := HF.cell (i := 0) rfl
  have y1 := HF.cell (i := 1) rfl
  have y2 := HF.cell (i := 2) rfl
  have y3 := HF.cell (i := 3) rfl
  refine bodyPost_ret (v := .agg #[.slice b1 o.words.length d1, .slice b2 o.sent.length d2, .int .i64 o.dice, .int .i64 o.fault]) ?_ rfl ⟨?_, _, _, rfl, ?_, ?_⟩
  · simp [results, Try.results50, go_sem, y0, y1, y2, y3]
  · exact ((((HG3.out.setCell (p := ⟨w.heap.size + 1, 0, none⟩) (by simp) _).setCell (p := ⟨w.heap.size + 1, 1, none⟩) (by simp) _).setCell (p := ⟨w.heap.size + 1, 2, none⟩) (by simp) _).setCell (p := ⟨w.heap.size + 1, 3, none⟩) (by simp) _).alloc _
  · exact (Own.set4 (HA.out.lower (((Gr.refl w).alloc _).alloc _).size) HO.out (by decide) _ _ _ _).gr ((Gr.refl _).alloc _)
  · exact (Own.set4 (HB.out.lower (((Gr.refl w).alloc _).alloc _).size) HO.out (by decide) _ _ _ _).gr ((Gr.refl _).alloc _)
end Go.Proofs.Ytkoopobfelcgpaa
