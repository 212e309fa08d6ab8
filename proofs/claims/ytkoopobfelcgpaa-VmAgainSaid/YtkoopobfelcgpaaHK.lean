/- layer 7: few, Same, awake -/
import Derived.Test.YtkoopobfelcgpaaHJ
set_option linter.unusedSimpArgs false
set_option linter.unusedVariables false
namespace Go.Proofs.Ytkoopobfelcgpaa
open Go.RowKit

/-- an output in memory -/
structure OutAt (w : World) (v1 v2 : Value) (o : POut) : Prop where
  words : Sl 1 IntAt w v1 o.words
  sent : Sl 3 (FlatAt sentC) w v2 o.sent
theorem OutAt.gr {w w' : World} {v1 v2 : Value} {o : POut} (h : OutAt w v1 v2 o) (g : Gr w w') : OutAt w' v1 v2 o := ⟨h.words.gr IntAt.gr g, h.sent.gr (FlatAt.gr sentC) g⟩
theorem Own.ints {b : Nat} {w : World} {v : Value} {l : List Int} (h : Own b 3 1 intC w v l) : Sl 1 IntAt w v l := by
  obtain ⟨a, cap, e, h1, h2, h3, h4⟩ := Own.sl (sz := 1) (cells := intC) (fun _ => rfl) h
  refine ⟨a, cap, e, h1, h2, h3, fun i x hx => ?_⟩
  obtain ⟨b, o, ea, hR⟩ := h4 i x hx
  exact ⟨b, o, ea, hR 0 _ rfl⟩
theorem outAt_own {b : Nat} {w : World} {v1 v2 : Value} {o : POut} (h1 : Own b 3 1 intC w v1 o.words) (h2 : Own b 60 3 sentC w v2 o.sent) : OutAt w v1 v2 o := ⟨h1.ints, Own.sl (sz := 3) (cells := sentC) (fun _ => rfl) h2⟩

def fewB (n m : Nat) : Bool := decide (n ≤ 100) && decide (m ≤ 60)
theorem few_any (p : List PIns) (i : PIn) (vp vw : Value) (w : World) (hp : Sl 4 InsAt w vp p) (hw : Sl 1 IntAt w vw i.words) :
    Calls Try.prog 44 #[vp, inV vw i] w fun e w' => e = .returned (.bool (fewB p.length i.words.length)) ∧ Gr w w' := by
  obtain ⟨a, m, rfl, -⟩ := hp
  obtain ⟨aw, mw, rfl, -⟩ := hw
  by_cases h1 : p.length ≤ 100
  · have g0 : decide ((p.length : Int) ≤ 100) = true := decide_eq_true (by omega)
    by_cases h2 : i.words.length ≤ 60
    · have g1 : decide ((i.words.length : Int) ≤ 60) = true := decide_eq_true (by omega)
      have hf : fewB p.length i.words.length = true := by simp [fewB, h1, h2]
      have HF := Lib.hid hf
      clear hf h1 h2
      go_enter Try.func44, Try.ntmps44
      go_wp2
      go_ret
      exact ⟨by rw [HF.out]; rfl, (Gr.refl _).alloc _⟩
    · have g1 : decide ((i.words.length : Int) ≤ 60) = false := decide_eq_false (by omega)
      have hf : fewB p.length i.words.length = false := by simp [fewB, h2]
      have HF := Lib.hid hf
      clear hf h1 h2
      go_enter Try.func44, Try.ntmps44
      go_wp2
      go_ret
      exact ⟨by rw [HF.out]; rfl, (Gr.refl _).alloc _⟩
  · have g0 : decide ((p.length : Int) ≤ 100) = false := decide_eq_false (by omega)
    have hf : fewB p.length i.words.length = false := by simp [fewB, h1]
    have HF := Lib.hid hf
    clear hf h1
    go_enter Try.func44, Try.ntmps44
    go_wp2
    go_ret
    exact ⟨by rw [HF.out]; rfl, (Gr.refl _).alloc _⟩

theorem intsSelf_any (l : List Int) (v u : Value) (w : World) (h : Sl 1 IntAt w v l) (h' : Sl 1 IntAt w u l) : Calls Try.prog 49 #[v, u] w fun e w' => e = .returned (.bool true) ∧ Gr w w' := by
  refine (Ints_any l l v u w h h').mono ?_
  rintro e w' ⟨rfl, m, rfl⟩
  exact ⟨by rw [eqL_refl (fun x => by simp [intEq])], (Gr.refl _).drewN m⟩
set_option maxHeartbeats 2000000 in
theorem outSame_any (o : POut) (v1 v2 u1 u2 : Value) (w : World) (h : OutAt w v1 v2 o) (h' : OutAt w u1 u2 o) :
    Calls Try.prog 48 #[outV v1 v2 o, outV u1 u2 o] w fun e w' => e = .returned (.bool true) ∧ Gr w w' := by
  have H := Lib.hid h
  have H' := Lib.hid h'
  obtain ⟨a1, c1, rfl, -⟩ := h.words
  obtain ⟨a2, c2, rfl, hn2, hm2, -, he⟩ := h.sent
  obtain ⟨b1, d1, rfl, -⟩ := h'.words
  obtain ⟨b2, d2, rfl, -, -, -, he'⟩ := h'.sent
  unfold maxLen at hm2
  have HE := Lib.hid he
  have HE' := Lib.hid he'
  clear h h' he he'
  go_enter Try.func48, Try.ntmps48
  go_wp2_with (go_at_call 49
               refine (intsSelf_any o.words _ _ _ (H.out.words.gr IntAt.gr (((Gr.refl w).alloc _).alloc _)) (H'.out.words.gr IntAt.gr (((Gr.refl w).alloc _).alloc _))).mono ?_
               rintro e w1 ⟨rfl, hg1⟩
               have ho1 := ((Out.new (w := w) (T := 55) (cs := [.slice a1 o.words.length c1, .slice a2 o.sent.length c2, .int .i64 o.dice, .int .i64 o.fault])).alloc (.cells #[.slice b1 o.words.length d1, .slice b2 o.sent.length d2, .int .i64 o.dice, .int .i64 o.fault] 55)).gr hg1
               have ho2 := (Out.new (w := w.alloc (.cells #[.slice a1 o.words.length c1, .slice a2 o.sent.length c2, .int .i64 o.dice, .int .i64 o.fault] 55)) (T := 55) (cs := [.slice b1 o.words.length d1, .slice b2 o.sent.length d2, .int .i64 o.dice, .int .i64 o.fault])).gr hg1
               rw [World.size_alloc] at ho2
               have p1 := ho1.cell (i := 1) rfl
               have p2 := ho1.cell (i := 2) rfl
               have p3 := ho1.cell (i := 3) rfl
               have q1 := ho2.cell (i := 1) rfl
               have q2 := ho2.cell (i := 2) rfl
               have q3 := ho2.cell (i := 3) rfl
               have HG1 := Lib.hid ((((Gr.refl w).alloc _).alloc _).trans hg1)
               have HO1 := Lib.hid ho1
               have HO2 := Lib.hid ho2
               clear hg1 ho1 ho2)
  go_loopg [5] o.sent.length (fun g k wr => ∃ j : Nat, g + j = o.sent.length ∧ k = .int .i64 j ∧ Gr w1 wr)
  case atStart => exact ⟨0, by omega, rfl, Gr.refl _⟩
  case round =>
    obtain ⟨j, hj, rfl, hg⟩ := hrel
    have HG := Lib.hid hg
    clear hg p1 p2 p3 q1 q2 q3
    have p1 := (HO1.out.gr HG.out).cell (i := 1) rfl
    have q1 := (HO2.out.gr HG.out).cell (i := 1) rfl
    by_cases hlt : j < o.sent.length
    · obtain ⟨b, f, rfl, hR⟩ := HE.out j o.sent[j] (by simp [hlt])
      obtain ⟨b', f', rfl, hR'⟩ := HE'.out j o.sent[j] (by simp [hlt])
      have gg := HG1.out.trans HG.out
      have x0 := gg.cell (hR 0 _ rfl)
      have x1 := gg.cell (hR 1 _ rfl)
      have x2 := gg.cell (hR 2 _ rfl)
      have y0 := gg.cell (hR' 0 _ rfl)
      have y1 := gg.cell (hR' 1 _ rfl)
      have y2 := gg.cell (hR' 2 _ rfl)
      simp only [Nat.add_zero] at x0 y0
      have hk0 : (0 : Int) ≤ j := by omega
      have hk1 : (j : Int) < o.sent.length := by omega
      clear hR hR' gg
      go_wp2
      go_quiet (fail)
      go_wp2
      go_roundg (gk - 1)
      case measure => omega
      case rel => exact ⟨j + 1, by omega, by go_num, HG.out.drewN _⟩
    · go_wp2
      go_ret
      exact ⟨rfl, HG1.out.trans HG.out⟩

/-! ### what must come at any rate -/
def p7 : List PIns := [⟨13, 4, 5, 0⟩, ⟨3, 4, 4, 0⟩, ⟨14, 5, 4, 0⟩]
def i7 : PIn := ⟨[3], 4, 0, 1, 0, 0⟩
def q7 : List PIns := [⟨9, 0, 0, 0⟩]
def j7 : PIn := ⟨[], 0, 0, 0, 0, 0⟩
theorem run7 : runOut p7 i7 = (⟨[7], [], 0, 0⟩, 0) := by kernel_rfl
theorem run7q : runOut q7 j7 = (⟨[], [], 0, 1⟩, 0) := by kernel_rfl
theorem run7n : runOut [] j7 = (out0, 15) := by kernel_rfl
theorem i64z : i64' 0 := by unfold i64'; omega
theorem runA_any (vp vw : Value) (w : World) (hp : Sl 4 InsAt w vp p7) (hw : Sl 1 IntAt w vw [3]) :
    Calls Try.prog 46 #[vp, .agg #[vw, .int .i64 4, .int .i64 0, .int .i64 1, .int .i64 0, .int .i64 0]] w fun e w' => Gr w w' ∧ ∃ b d v2, e = .returned (.tuple #[.agg #[.slice (some ⟨b, 0, none⟩) 1 d, v2, .int .i64 0, .int .i64 0], .int .i64 0]) ∧ w'.cell? ⟨b, 0, none⟩ = some (.int .i64 7) ∧ ∃ a m c, v2 = .slice a m c := by
  have h := Run_any (p := p7) (i := i7) (vp := vp) (vw := vw) (w := w) hp hw (by intro x hx; simp [p7] at hx; rcases hx with rfl | rfl | rfl <;> (refine ⟨?_, ?_, ?_⟩ <;> (unfold i64'; simp))) ⟨by intro n hn; simp [i7] at hn; subst hn; unfold i64'; simp, by unfold i64'; simp [i7], by unfold i64'; simp [i7], by unfold i64'; simp [i7], by unfold i64'; simp [i7], by unfold i64'; simp [i7]⟩
  rw [run7] at h
  refine h.mono ?_
  rintro e w' ⟨hg, v1, v2, rfl, h1, h2⟩
  obtain ⟨a, c, e1, h3, h4, h5, h6⟩ := h1.ints
  obtain ⟨b, o, ea, hc⟩ := h6 0 7 rfl
  obtain ⟨a2, c2, e2⟩ := h2.shape
  obtain ⟨-, ⟨e3, -⟩ | ⟨g, cap, cur, e3, -⟩⟩ := h1
  · rw [e1] at e3; injection e3 with e3; rw [ea] at e3; cases e3
  · subst e3
    injection e1 with e1 _ _
    rw [← e1] at ea
    injection ea with ea
    injection ea with ea eo
    subst ea eo
    exact ⟨hg, g, cap, v2, rfl, hc, a2, _, c2, e2⟩
theorem runB_any (vp : Value) (w : World) (hp : Sl 4 InsAt w vp q7) :
    Calls Try.prog 46 #[vp, .agg #[.slice none 0 0, .int .i64 0, .int .i64 0, .int .i64 0, .int .i64 0, .int .i64 0]] w fun e w' => Gr w w' ∧ ∃ a1 m1 c1 a2 m2 c2, e = .returned (.tuple #[.agg #[.slice a1 m1 c1, .slice a2 m2 c2, .int .i64 0, .int .i64 1], .int .i64 0]) := by
  have h := Run_any (p := q7) (i := j7) (vp := vp) (vw := .slice none 0 0) (w := w) hp Sl_nil (by intro x hx; simp [q7] at hx; subst hx; (refine ⟨?_, ?_, ?_⟩ <;> (unfold i64'; simp))) ⟨by intro n hn; simp [j7] at hn, i64z, i64z, i64z, i64z, i64z⟩
  rw [run7q] at h
  refine h.mono ?_
  rintro e w' ⟨hg, v1, v2, rfl, h1, h2⟩
  obtain ⟨a1, c1, rfl⟩ := h1.shape
  obtain ⟨a2, c2, rfl⟩ := h2.shape
  exact ⟨hg, _, _, _, _, _, _, rfl⟩
theorem runC_any (w : World) :
    Calls Try.prog 46 #[.slice none 0 0, .agg #[.slice none 0 0, .int .i64 0, .int .i64 0, .int .i64 0, .int .i64 0, .int .i64 0]] w fun e w' => Gr w w' ∧ ∃ a1 m1 c1 a2 m2 c2, e = .returned (.tuple #[.agg #[.slice a1 m1 c1, .slice a2 m2 c2, .int .i64 0, .int .i64 0], .int .i64 15]) := by
  have h := Run_any (p := []) (i := j7) (vp := .slice none 0 0) (vw := .slice none 0 0) (w := w) Sl_nil Sl_nil (by intro x hx; simp at hx) ⟨by intro n hn; simp [j7] at hn, i64z, i64z, i64z, i64z, i64z⟩
  rw [run7n] at h
  refine h.mono ?_
  rintro e w' ⟨hg, v1, v2, rfl, h1, h2⟩
  obtain ⟨a1, c1, rfl⟩ := h1.shape
  obtain ⟨a2, c2, rfl⟩ := h2.shape
  exact ⟨hg, _, _, _, _, _, _, rfl⟩
theorem p7_at {w : World} {b : Nat} (h : Out 34 w b [.int .i64 13, .int .i64 4, .int .i64 5, .int .i64 0, .int .i64 3, .int .i64 4, .int .i64 4, .int .i64 0, .int .i64 14, .int .i64 5, .int .i64 4, .int .i64 0]) : Sl 4 InsAt w (.slice (some ⟨b, 0, none⟩) 3 3) p7 :=
  ⟨_, 3, rfl, Nat.le_refl _, by unfold maxLen; omega, (fun e => by cases e), fun i x hx => ⟨b, 0, rfl, by
    match i with
    | 0 => simp [p7] at hx; subst hx; exact ⟨h.cell rfl, h.cell rfl, h.cell rfl, h.cell rfl⟩
    | 1 => simp [p7] at hx; subst hx; exact ⟨h.cell rfl, h.cell rfl, h.cell rfl, h.cell rfl⟩
    | 2 => simp [p7] at hx; subst hx; exact ⟨h.cell rfl, h.cell rfl, h.cell rfl, h.cell rfl⟩
    | i + 3 => simp [p7] at hx⟩⟩
set_option maxHeartbeats 2000000 in
set_option maxRecDepth 100000 in
theorem awake7_any (w : World) : Calls Try.prog 45 #[] w fun e w' => e = .returned (.bool true) ∧ Gr w w' := by
  go_enter Try.func45, Try.ntmps45
  go_wp2_with fail
  refine (runA_any _ _ _ (p7_at ((Out.new (w := w) (T := 34) (cs := [.int .i64 13, .int .i64 4, .int .i64 5, .int .i64 0, .int .i64 3, .int .i64 4, .int .i64 4, .int .i64 0, .int .i64 14, .int .i64 5, .int .i64 4, .int .i64 0])).alloc _)) (Sl_one (by show World.cell? _ _ = _; go_cell))).mono ?_
  rintro e w1 ⟨hg1, b, d, v2, rfl, hc, a2, m2, c2, rfl⟩
  have HG1 := Lib.hid ((((Gr.refl w).alloc _).alloc _).trans hg1)
  have HC := Lib.hid hc
  have HO1 := Lib.hid (Out.new (w := w1) (T := 55) (cs := [.slice (some ⟨b, 0, none⟩) 1 d, .slice a2 m2 c2, .int .i64 0, .int .i64 0]))
  clear hg1 hc
  go_wp2_with fail
  have hq := Out.new (w := w1.alloc (.cells #[.slice (some ⟨b, 0, none⟩) 1 d, .slice a2 m2 c2, .int .i64 0, .int .i64 0] 55)) (T := 34) (cs := [.int .i64 9, .int .i64 0, .int .i64 0, .int .i64 0])
  rw [World.size_alloc] at hq
  refine (runB_any _ _ (Sl_one ⟨hq.cell rfl, hq.cell rfl, hq.cell rfl, hq.cell rfl⟩)).mono ?_
  rintro e w2 ⟨hg2, b1, m1, d1, b2, m3, d2, rfl⟩
  have HG2 := Lib.hid ((((Gr.refl w1).alloc _).alloc _).trans hg2)
  have HO1b := Lib.hid ((HO1.out.alloc (.cells #[.int .i64 9, .int .i64 0, .int .i64 0, .int .i64 0] 34)).gr hg2)
  have HO2 := Lib.hid (Out.new (w := w2) (T := 55) (cs := [.slice b1 m1 d1, .slice b2 m3 d2, .int .i64 0, .int .i64 1]))
  clear hg2 hq
  go_wp2_with fail
  refine (runC_any _).mono ?_
  rintro e w3 ⟨hg3, b3, m4, d3, b4, m5, d4, rfl⟩
  have HG3 := Lib.hid (((Gr.refl w2).alloc _).trans hg3)
  have HO1c := Lib.hid ((HO1b.out.alloc (.cells #[.slice b1 m1 d1, .slice b2 m3 d2, .int .i64 0, .int .i64 1] 55)).gr hg3)
  have HO2c := Lib.hid (HO2.out.gr hg3)
  have o0 := HO1c.out.cell (i := 0) rfl
  have l0 := HO1c.out.lt
  have o3 := HO2c.out.cell (i := 3) rfl
  have l3 := HO2c.out.lt
  have c7 := (HG2.out.trans HG3.out).cell HC.out
  have l7 := lt_of_cell c7
  simp only [] at l7
  clear hg3
  go_wp2
  go_ret
  exact ⟨rfl, ((HG1.out.trans HG2.out).trans HG3.out).alloc _⟩
end Go.Proofs.Ytkoopobfelcgpaa
