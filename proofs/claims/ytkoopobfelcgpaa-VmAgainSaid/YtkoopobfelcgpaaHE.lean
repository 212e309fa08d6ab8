/- layer 7: Run, Steps -/
import Derived.Test.YtkoopobfelcgpaaHA
import Derived.Test.YtkoopobfelcgpaaWLast
import Derived.Deep.RegionHeld3
set_option linter.unusedSimpArgs false
set_option linter.unusedVariables false
namespace Go.Proofs.Ytkoopobfelcgpaa
open Go.RowKit Go.Proofs.YtkoopobfelcgpaaW.PrintLast

/-- what comes of a handler -/
structure POut where
  words : List Int
  sent : List PSent
  dice : Int
  fault : Int
abbrev outV (v1 v2 : Value) (o : POut) : Value := .agg #[v1, v2, .int .i64 o.dice, .int .i64 o.fault]
def out0 : POut := ⟨[], [], 0, 0⟩
def finV (p : List PIns) (i : PIn) : Int × VR := runV p i.lps (wordU i.seed i.me) 122 i.start
def runOut (p : List PIns) (i : PIn) : POut × Int :=
  if mayE p i.words.length = 0 then (if (finV p i).1 = 0 then (⟨(finV p i).2.w, (finV p i).2.sent, (finV p i).2.dice, 0⟩, 0) else (⟨[], [], 0, (finV p i).1⟩, 0)) else (out0, mayE p i.words.length)
structure PIn.wf (i : PIn) : Prop where
  words : ∀ n ∈ i.words, i64' n
  pay : i64' i.pay
  me : i64' i.me
  lps : i64' i.lps
  seed : i64' i.seed
  dice : i64' i.dice
theorem may_ok {p : List PIns} {n : Nat} (h : mayE p n = 0) : okIns p ∧ n ≤ 8 ∧ 1 ≤ p.length ∧ p.length ≤ 48 := by
  unfold mayE at h
  split at h
  · cases h
  rename_i h1
  split at h
  · cases h
  rename_i h2
  split at h
  · cases h
  rename_i h3
  refine ⟨?_, by omega, by omega, by omega⟩
  intro x hx
  have : (p.all fun x => insB x.op x.a x.b x.c p.length) = true := by simpa using h2
  exact List.all_eq_true.1 this x hx
theorem start_may (p : List PIns) (i : PIn) : i.start.may p := ⟨by simp [PIn.start], by simp [PIn.start], by simp [PIn.start], by simp [PIn.start]⟩
theorem start_wf {i : PIn} (h : i.wf) (h8 : i.words.length ≤ 8) : i.start.wf := by
  refine ⟨rfl, ?_, h.words⟩
  intro y hy
  simp only [PIn.start, List.mem_cons, List.not_mem_nil, or_false] at hy
  have z : i64' 0 := by unfold i64'; omega
  rcases hy with rfl | rfl | rfl | rfl | rfl | rfl | rfl | rfl
  · exact h.pay
  · exact h.me
  · exact h.lps
  · unfold i64'; omega
  all_goals exact z
theorem count_any (D : Nat) (z n : Int) (w : World) (h : Out 207 w D [.int .u64 z, .int .i64 n]) : Calls Try.prog 131 #[.pointer (some ⟨D, 0, none⟩)] w fun e w' => e = .returned (.int .i64 n) ∧ w = w' := by
  have c1 : w.cell? ⟨D, 1, none⟩ = some (.int .i64 n) := h.cell rfl
  go_enter Try.func131, Try.ntmps131
  go_wp2
  go_ret
  exact ⟨rfl, rfl⟩
theorem Own.lower {α : Type} {base base' e sz : Nat} {cells : α → List Value} {w : World} {v : Value} {l : List α} (h : Own base e sz cells w v l) (hb : base' ≤ base) : Own base' e sz cells w v l := by
  obtain ⟨hx, ⟨rfl, hn⟩ | ⟨g, cap, cur, rfl, hg, hr⟩⟩ := h
  · exact ⟨hx, .inl ⟨rfl, hn⟩⟩
  · exact ⟨hx, .inr ⟨g, cap, cur, rfl, Nat.le_trans hb hg, hr⟩⟩
theorem maySome_any (p : List PIns) (i : PIn) (vp vw : Value) (w : World) (hp : Sl 4 InsAt w vp p) (hw : Sl 1 IntAt w vw i.words) (x : Int) (hx : mayE p i.words.length = x) :
    Calls Try.prog 128 #[vp, inV vw i] w fun e w' => e = .returned (.int .i64 x) ∧ Gr w w' := by rw [← hx]; exact may_any p i vp vw w hp hw
section
variable {p : List PIns} {i : PIn} {vp vw : Value} {w : World}
set_option maxHeartbeats 2000000 in
set_option maxRecDepth 100000 in
theorem RunNot_any (hp : Sl 4 InsAt w vp p) (hw : Sl 1 IntAt w vw i.words) (x : Int) (hm : mayE p i.words.length = x) (hx : ¬ x = 0) :
    Calls Try.prog 46 #[vp, inV vw i] w fun e w' => e = .returned (.tuple #[outV (.slice none 0 0) (.slice none 0 0) out0, .int .i64 x]) ∧ Gr w w' := by
  have HP := Lib.hid hp
  have HW := Lib.hid hw
  have HM := Lib.hid hm
  obtain ⟨a, m, rfl, -⟩ := hp
  obtain ⟨aw, mw, rfl, -⟩ := hw
  have g0 : (x != 0) = true := by simpa using hx
  have g1 : (x == 0) = false := by simpa using hx
  clear hm hx
  go_enter Try.func46, Try.ntmps46
  go_wp2_with (go_at_call 128
               refine (maySome_any p i _ _ _ (HP.out.gr InsAt.gr (((Gr.refl w).alloc _).alloc _)) (HW.out.gr IntAt.gr (((Gr.refl w).alloc _).alloc _)) x HM.out).mono ?_
               rintro e w1 ⟨rfl, hg1⟩
               have hgg : Gr w w1 := (((Gr.refl w).alloc _).alloc _).trans hg1
               have ho := (Out.new (w := w.alloc (.cells #[.slice aw i.words.length mw, .int .i64 i.pay, .int .i64 i.me, .int .i64 i.lps, .int .i64 i.seed, .int .i64 i.dice] 51)) (T := 55) (cs := [.slice none 0 0, .slice none 0 0, .int .i64 0, .int .i64 0])).gr hg1
               rw [World.size_alloc] at ho
               have o0 := ho.cell (i := 0) rfl
               have o1 := ho.cell (i := 1) rfl
               have o2 := ho.cell (i := 2) rfl
               have o3 := ho.cell (i := 3) rfl
               have f0 := ho.free 0
               have f1 := ho.free 1
               have f2 := ho.free 2
               have f3 := ho.free 3
               have HG := Lib.hid hgg
               have HO := Lib.hid ho
               clear hg1 hgg ho)
  have HF := (((HO.out.set 0 (.slice none 0 0)).set 1 (.slice none 0 0)).set 2 (.int .i64 0)).set 3 (.int .i64 0)
  have y0 := HF.cell (i := 0) rfl
  have y1 := HF.cell (i := 1) rfl
  have y2 := HF.cell (i := 2) rfl
  have y3 := HF.cell (i := 3) rfl
  refine bodyPost_ret (v := .tuple #[.agg #[.slice none 0 0, .slice none 0 0, .int .i64 0, .int .i64 0], .int .i64 x]) ?_ rfl ⟨rfl, ?_⟩
  · simp [results, Try.results46, go_sem, y0, y1, y2, y3]
  · exact (((HG.out.setCell (p := ⟨w.heap.size + 1, 0, none⟩) (by simp) _).setCell (p := ⟨w.heap.size + 1, 1, none⟩) (by simp) _).setCell (p := ⟨w.heap.size + 1, 2, none⟩) (by simp) _).setCell (p := ⟨w.heap.size + 1, 3, none⟩) (by simp) _
/-- the program's steps, from the run's beginning -/
theorem allFrom_any {B D : Nat} {vw' vs : Value} {w1 : World} (hp : Sl 4 InsAt w vp p) (hi : insI p) (hwf : i.wf) (hm : mayE p i.words.length = 0) (hg : Gr w w1) (h : RunAt none w.heap.size w1 B vp i.lps (wordU i.seed i.me) i.start D vw' vs) :
    Calls Try.prog 130 #[.pointer (some ⟨B, 0, none⟩)] w1 fun e w' => e = .returned (.int .i64 (finV p i).1) ∧ Gr w w' ∧ ∃ vs', RunAt none w.heap.size w' B vp i.lps (wordU i.seed i.me) (finV p i).2 D vw' vs' :=
  all_any h hg hp (start_may p i) (may_ok hm).1 hi (start_wf hwf (may_ok hm).2.1)
theorem allTo_any {B D : Nat} {vw' vs : Value} {w1 : World} (hp : Sl 4 InsAt w vp p) (hi : insI p) (hwf : i.wf) (hm : mayE p i.words.length = 0) (hg : Gr w w1) (h : RunAt none w.heap.size w1 B vp i.lps (wordU i.seed i.me) i.start D vw' vs) (f : Int) (hf : (finV p i).1 = f) :
    Calls Try.prog 130 #[.pointer (some ⟨B, 0, none⟩)] w1 fun e w' => e = .returned (.int .i64 f) ∧ Gr w w' ∧ ∃ vs', RunAt none w.heap.size w' B vp i.lps (wordU i.seed i.me) (finV p i).2 D vw' vs' := by
  rw [← hf]; exact allFrom_any hp hi hwf hm hg h
set_option maxHeartbeats 2000000 in
set_option maxRecDepth 100000 in
theorem RunFault_any (hp : Sl 4 InsAt w vp p) (hw : Sl 1 IntAt w vw i.words) (hi : insI p) (hwf : i.wf) (hm : mayE p i.words.length = 0) (f : Int) (hf : (finV p i).1 = f) (hx : ¬ f = 0) :
    Calls Try.prog 46 #[vp, inV vw i] w fun e w' => e = .returned (.tuple #[outV (.slice none 0 0) (.slice none 0 0) ⟨[], [], 0, f⟩, .int .i64 0]) ∧ Gr w w' := by
  have HP := Lib.hid hp
  have HW := Lib.hid hw
  have HM := Lib.hid hm
  have HI := Lib.hid hi
  have HWF := Lib.hid hwf
  have HFF := Lib.hid hf
  obtain ⟨a, m, rfl, -⟩ := hp
  obtain ⟨aw, mw, rfl, -⟩ := hw
  have g0 : (f != 0) = true := by simpa using hx
  have g1 : (f == 0) = false := by simpa using hx
  clear hm hx hi hwf hf
  go_enter Try.func46, Try.ntmps46
  go_wp2_with (first
    | (go_at_call 128
       refine (maySome_any p i _ _ _ (HP.out.gr InsAt.gr (((Gr.refl w).alloc _).alloc _)) (HW.out.gr IntAt.gr (((Gr.refl w).alloc _).alloc _)) 0 HM.out).mono ?_
       rintro e w1 ⟨rfl, hg1⟩
       have hgg : Gr w w1 := (((Gr.refl w).alloc _).alloc _).trans hg1
       have hi1 := ((Out.new (w := w) (T := 51) (cs := [.slice aw i.words.length mw, .int .i64 i.pay, .int .i64 i.me, .int .i64 i.lps, .int .i64 i.seed, .int .i64 i.dice])).alloc (.cells #[.slice none 0 0, .slice none 0 0, .int .i64 0, .int .i64 0] 55)).gr hg1
       have ho := (Out.new (w := w.alloc (.cells #[.slice aw i.words.length mw, .int .i64 i.pay, .int .i64 i.me, .int .i64 i.lps, .int .i64 i.seed, .int .i64 i.dice] 51)) (T := 55) (cs := [.slice none 0 0, .slice none 0 0, .int .i64 0, .int .i64 0])).gr hg1
       rw [World.size_alloc] at ho
       have i0 := hi1.cell (i := 0) rfl
       have i1 := hi1.cell (i := 1) rfl
       have i2 := hi1.cell (i := 2) rfl
       have i3 := hi1.cell (i := 3) rfl
       have i4 := hi1.cell (i := 4) rfl
       have i5 := hi1.cell (i := 5) rfl
       have HG1 := Lib.hid hgg
       have HO1 := Lib.hid ho
       clear hg1 hgg ho hi1)
    | (go_at_call 129
       refine (begin_any _ _ i _ ⟨_, _, _, rfl⟩ (HW.out.gr IntAt.gr HG1.out) (may_ok HM.out).2.1).mono ?_
       rintro e w2 ⟨hg2, B, D, vw', vs, rfl, hr2⟩
       have HR2 := Lib.hid hr2
       have HG2 := Lib.hid hg2
       clear hg2 hr2)
    | (go_at_call 130
       refine (allTo_any (HP.out.gr InsAt.gr HG1.out) HI.out HWF.out HM.out HG2.out HR2.out f HFF.out).mono ?_
       rintro e w3 ⟨rfl, hg3, vs3, hr3⟩
       have ho := HO1.out.gr hg3
       have f0 := ho.free 0
       have f1 := ho.free 1
       have f2 := ho.free 2
       have f3 := ho.free 3
       have o0 := ho.cell (i := 0) rfl
       have o1 := ho.cell (i := 1) rfl
       have o2 := ho.cell (i := 2) rfl
       have o3 := ho.cell (i := 3) rfl
       have HO := Lib.hid ho
       have HG := Lib.hid (HG1.out.trans hg3)
       clear i0 i1 i2 i3 i4 i5 hg3 hr3 ho))
  have HF := (((HO.out.set 0 (.slice none 0 0)).set 1 (.slice none 0 0)).set 2 (.int .i64 0)).set 3 (.int .i64 f)
  have y0 := HF.cell (i := 0) rfl
  have y1 := HF.cell (i := 1) rfl
  have y2 := HF.cell (i := 2) rfl
  have y3 := HF.cell (i := 3) rfl
  refine bodyPost_ret (v := .tuple #[.agg #[.slice none 0 0, .slice none 0 0, .int .i64 0, .int .i64 f], .int .i64 0]) ?_ rfl ⟨rfl, ?_⟩
  · simp [results, Try.results46, go_sem, y0, y1, y2, y3]
  · exact (((HG.out.setCell (p := ⟨w.heap.size + 1, 0, none⟩) (by simp) _).setCell (p := ⟨w.heap.size + 1, 1, none⟩) (by simp) _).setCell (p := ⟨w.heap.size + 1, 2, none⟩) (by simp) _).setCell (p := ⟨w.heap.size + 1, 3, none⟩) (by simp) _
theorem Own.set4 {α : Type} {base e sz O : Nat} {cells : α → List Value} {w : World} {v : Value} {l : List α} {cs : List Value} (h : Own base e sz cells w v l) (ho : Out 55 w O cs) (hne : e ≠ 55) (u0 u1 u2 u3 : Value) :
    Own base e sz cells ((((w.setCell ⟨O, 0, none⟩ u0).setCell ⟨O, 1, none⟩ u1).setCell ⟨O, 2, none⟩ u2).setCell ⟨O, 3, none⟩ u3) v l :=
  (((h.set ho.is hne u0).set (ho.set 0 u0).is hne u1).set ((ho.set 0 u0).set 1 u1).is hne u2).set (((ho.set 0 u0).set 1 u1).set 2 u2).is hne u3
set_option maxHeartbeats 2000000 in
set_option maxRecDepth 100000 in
theorem RunOk_any (hp : Sl 4 InsAt w vp p) (hw : Sl 1 IntAt w vw i.words) (hi : insI p) (hwf : i.wf) (hm : mayE p i.words.length = 0) (hf : (finV p i).1 = 0) :
    Calls Try.prog 46 #[vp, inV vw i] w fun e w' => Gr w w' ∧ ∃ v1 v2, e = .returned (.tuple #[outV v1 v2 ⟨(finV p i).2.w, (finV p i).2.sent, (finV p i).2.dice, 0⟩, .int .i64 0]) ∧ Own w.heap.size 3 1 intC w' v1 (finV p i).2.w ∧ Own w.heap.size 60 3 sentC w' v2 (finV p i).2.sent := by
  have HP := Lib.hid hp
  have HW := Lib.hid hw
  have HM := Lib.hid hm
  have HI := Lib.hid hi
  have HWF := Lib.hid hwf
  have HFF := Lib.hid hf
  obtain ⟨a, m, rfl, -⟩ := hp
  obtain ⟨aw, mw, rfl, -⟩ := hw
  clear hm hi hwf hf
  go_enter Try.func46, Try.ntmps46
  go_wp2_with (first
    | (go_at_call 128
       refine (maySome_any p i _ _ _ (HP.out.gr InsAt.gr (((Gr.refl w).alloc _).alloc _)) (HW.out.gr IntAt.gr (((Gr.refl w).alloc _).alloc _)) 0 HM.out).mono ?_
       rintro e w1 ⟨rfl, hg1⟩
       have hgg : Gr w w1 := (((Gr.refl w).alloc _).alloc _).trans hg1
       have hi1 := ((Out.new (w := w) (T := 51) (cs := [.slice aw i.words.length mw, .int .i64 i.pay, .int .i64 i.me, .int .i64 i.lps, .int .i64 i.seed, .int .i64 i.dice])).alloc (.cells #[.slice none 0 0, .slice none 0 0, .int .i64 0, .int .i64 0] 55)).gr hg1
       have ho := (Out.new (w := w.alloc (.cells #[.slice aw i.words.length mw, .int .i64 i.pay, .int .i64 i.me, .int .i64 i.lps, .int .i64 i.seed, .int .i64 i.dice] 51)) (T := 55) (cs := [.slice none 0 0, .slice none 0 0, .int .i64 0, .int .i64 0])).gr hg1
       rw [World.size_alloc] at ho
       have i0 := hi1.cell (i := 0) rfl
       have i1 := hi1.cell (i := 1) rfl
       have i2 := hi1.cell (i := 2) rfl
       have i3 := hi1.cell (i := 3) rfl
       have i4 := hi1.cell (i := 4) rfl
       have i5 := hi1.cell (i := 5) rfl
       have HG1 := Lib.hid hgg
       have HO1 := Lib.hid ho
       clear hg1 hgg ho hi1)
    | (go_at_call 129
       refine (begin_any _ _ i _ ⟨_, _, _, rfl⟩ (HW.out.gr IntAt.gr HG1.out) (may_ok HM.out).2.1).mono ?_
       rintro e w2 ⟨hg2, B, D, vw', vs, rfl, hr2⟩
       have HR2 := Lib.hid hr2
       have HG2 := Lib.hid hg2
       clear hg2 hr2)
    | (go_at_call 130
       refine (allTo_any (HP.out.gr InsAt.gr HG1.out) HI.out HWF.out HM.out HG2.out HR2.out 0 HFF.out).mono ?_
       rintro e w3 ⟨rfl, hg3, vs3, hr3⟩
       have ho := HO1.out.gr hg3
       have f0 := ho.free 0
       have f1 := ho.free 1
       have f2 := ho.free 2
       have f3 := ho.free 3
       have o0 := ho.cell (i := 0) rfl
       have o1 := ho.cell (i := 1) rfl
       have o2 := ho.cell (i := 2) rfl
       have o3 := ho.cell (i := 3) rfl
       have HO := Lib.hid ho
       have HG := Lib.hid (HG1.out.trans hg3)
       obtain ⟨b1, d1, rfl⟩ := hr3.words.shape
       obtain ⟨b2, d2, rfl⟩ := hr3.sent.shape
       have cW := hr3.cW
       have cS := hr3.cS
       have cD := hr3.cD
       have HR3 := Lib.hid hr3
       clear i0 i1 i2 i3 i4 i5 hg3 hr3 ho))
  have hBO : B ≠ w.heap.size + 1 := HR3.out.out.apart HO.out (by decide)
  go_region_held3 (fun W' => (W'.cell? ⟨B, 9, none⟩ = some (.slice b1 (finV p i).2.w.length d1) ∧ W'.cell? ⟨B, 12, none⟩ = some (.slice b2 (finV p i).2.sent.length d2) ∧ W'.cell? ⟨B, 11, none⟩ = some (.pointer (some ⟨D, 0, none⟩))))
    (first | exact ⟨cW, cS, cD⟩ | exact ⟨cell_set_other (cell_set_other (cell_set_other (cell_set_other cW hBO) hBO) hBO) hBO, cell_set_other (cell_set_other (cell_set_other (cell_set_other cS hBO) hBO) hBO) hBO, cell_set_other (cell_set_other (cell_set_other (cell_set_other cD hBO) hBO) hBO) hBO⟩)
    (first
      | (go_at_call 131; refine (count_any D _ _ _ (HR3.out.dice.gr (Gr.refl _).drew)).mono ?_; rintro e w' ⟨rfl, rfl⟩))
  go_wp2
  have HF := ((((HO.out.set 0 (.slice b1 (finV p i).2.w.length d1)).set 1 (.slice b2 (finV p i).2.sent.length d2)).set 2 (.int .i64 (finV p i).2.dice)).set 3 (.int .i64 0)).drew
  have y0 := HF.cell (i := 0) rfl
  have y1 := HF.cell (i := 1) rfl
  have y2 := HF.cell (i := 2) rfl
  have y3 := HF.cell (i := 3) rfl
  refine bodyPost_ret (v := .tuple #[.agg #[.slice b1 (finV p i).2.w.length d1, .slice b2 (finV p i).2.sent.length d2, .int .i64 (finV p i).2.dice, .int .i64 0], .int .i64 0]) ?_ rfl ⟨?_, _, _, rfl, ?_, ?_⟩
  · simp [results, Try.results46, go_sem, y0, y1, y2, y3]
  · exact ((((HG.out.setCell (p := ⟨w.heap.size + 1, 0, none⟩) (by simp) _).setCell (p := ⟨w.heap.size + 1, 1, none⟩) (by simp) _).setCell (p := ⟨w.heap.size + 1, 2, none⟩) (by simp) _).setCell (p := ⟨w.heap.size + 1, 3, none⟩) (by simp) _).drew
  · exact (Own.set4 (HR3.out.words.lower HG1.out.size) HO.out (by decide) _ _ _ _).gr (Gr.refl _).drew
  · exact (Own.set4 (HR3.out.sent.lower HG1.out.size) HO.out (by decide) _ _ _ _).gr (Gr.refl _).drew

theorem out_at {p : List PIns} {i : PIn} (hm : mayE p i.words.length = 0) (hf : (finV p i).1 = 0) : runOut p i = (⟨(finV p i).2.w, (finV p i).2.sent, (finV p i).2.dice, 0⟩, 0) := by simp [runOut, hm, hf]
theorem out_fault {p : List PIns} {i : PIn} (hm : mayE p i.words.length = 0) (hf : ¬ (finV p i).1 = 0) : runOut p i = (⟨[], [], 0, (finV p i).1⟩, 0) := by simp [runOut, hm, hf]
theorem out_not {p : List PIns} {i : PIn} (hm : ¬ mayE p i.words.length = 0) : runOut p i = (out0, mayE p i.words.length) := by simp [runOut, hm]
/-- vm.Run: what comes of it is in new memory. -/
theorem Run_any (hp : Sl 4 InsAt w vp p) (hw : Sl 1 IntAt w vw i.words) (hi : insI p) (hwf : i.wf) :
    Calls Try.prog 46 #[vp, inV vw i] w fun e w' => Gr w w' ∧ ∃ v1 v2, e = .returned (.tuple #[outV v1 v2 (runOut p i).1, .int .i64 (runOut p i).2]) ∧ Own w.heap.size 3 1 intC w' v1 (runOut p i).1.words ∧ Own w.heap.size 60 3 sentC w' v2 (runOut p i).1.sent := by
  by_cases hm : mayE p i.words.length = 0
  · by_cases hf : (finV p i).1 = 0
    · rw [out_at hm hf]
      exact RunOk_any hp hw hi hwf hm hf
    · rw [out_fault hm hf]
      exact (RunFault_any hp hw hi hwf hm _ rfl hf).mono fun e w' ⟨h1, h2⟩ => ⟨h2, _, _, h1, Own.nil, Own.nil⟩
  · rw [out_not hm]
    exact (RunNot_any hp hw _ rfl hm).mono fun e w' ⟨h1, h2⟩ => ⟨h2, _, _, h1, Own.nil, Own.nil⟩
end
end Go.Proofs.Ytkoopobfelcgpaa
