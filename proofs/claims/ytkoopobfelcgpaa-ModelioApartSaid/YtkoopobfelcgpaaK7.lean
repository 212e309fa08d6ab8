/- K7: the texts G3 G4, merged by tools/merge.py -/
import Derived.Test.YtkoopobfelcgpaaK6

section -- G3
/- layer 6: the plain law of ModelioApart -/
set_option linter.unusedSimpArgs false
set_option linter.unusedVariables false
namespace Go.Proofs.Ytkoopobfelcgpaa
open Go.RowKit

theorem eqL_eq {α : Type} {p : α → α → Bool} : ∀ l r : List α, (∀ x ∈ l, ∀ y, p x y = true → x = y) → eqL p l r = true → l = r
  | [], [], _, _ => rfl
  | [], _ :: _, _, h => by simp [eqL] at h
  | _ :: _, [], _, h => by simp [eqL] at h
  | x :: l, y :: r, hp, h => by
    simp only [eqL, List.length_cons, Nat.add_right_cancel_iff, List.zip_cons_cons, List.all_cons, Bool.and_eq_true, decide_eq_true_eq] at h
    have h1 := hp x (by simp) y h.2.1
    have h2 := eqL_eq l r (fun x hx => hp x (by simp [hx])) (by simp only [eqL, Bool.and_eq_true, decide_eq_true_eq]; exact ⟨h.1, h.2.2⟩)
    rw [h1, h2]
theorem fsame_eq {x y : Nat} (hx : fnan x = false) (h : fsame x y = true) : x = y := by simpa [fsame, hx] using h
theorem sameB_eq {a b : PModel} (hc : checkB a = true) (h : sameB a b = true) : a = b := by
  simp only [sameB, Bool.and_eq_true, decide_eq_true_eq] at h
  obtain ⟨h1, h2, h3, h4, h5, h6⟩ := h
  simp only [checkB, Bool.and_eq_true, Bool.not_eq_true', List.all_eq_true] at hc
  obtain ⟨⟨-, c1⟩, c2, -, -, c5⟩ := hc
  cases a; cases b
  simp only at h1 h2 h3 h4 h5 h6 c1 c2 c5
  subst h1
  have e2 := fsame_eq c1 h2
  have e3 := eqL_eq _ _ (fun x hx y hy => fsame_eq (by have := c2 x hx; simp only [delayB, Bool.and_eq_true, Bool.not_eq_true'] at this; exact this.1) hy) h3
  have e4 := eqL_eq _ _ (fun x hx y hy => by
    have := c5 x hx
    simp only [initB, Bool.and_eq_true, Bool.not_eq_true'] at this
    simp only [initSame, Bool.and_eq_true, decide_eq_true_eq] at hy
    have e := fsame_eq this.1 hy.1
    cases x; cases y; simp_all) h4
  have e5 := eqL_eq _ _ (fun x _ y hy => eqL_eq _ _ (fun x _ y hy => by simpa [insEq] using hy) hy) h5
  have e6 := eqL_eq _ _ (fun x _ y hy => by
    simp only [lpSame, Bool.and_eq_true, decide_eq_true_eq] at hy
    have e := eqL_eq _ _ (fun x _ y hy => by simpa [intEq] using hy) hy.2
    cases x; cases y; simp_all) h6
  subst e2 e3 e4 e5 e6
  rfl
theorem apart_law (a b : PModel) (ha : a.w) (hb : b.w) (ca : checkB a = true) (cb : checkB b = true) : decide (putS a = putS b) = sameB a b := by
  have e1 : putS a = S8 (lay a) := by unfold putS; rw [if_pos ca]
  have e2 : putS b = S8 (lay b) := by unfold putS; rw [if_pos cb]
  rw [e1, e2]
  by_cases h : a = b
  · subst h; rw [sameB_refl]; simp
  · have h1 : sameB a b = false := by
      cases g : sameB a b
      · rfl
      · exact absurd (sameB_eq ca g) h
    rw [h1]
    simp only [decide_eq_false_iff_not]
    intro e
    have ga := get_lay a ha ca
    rw [e, get_lay b hb cb] at ga
    injection ga with ga _
    exact h ga.symm
end Go.Proofs.Ytkoopobfelcgpaa
end -- G3

section -- G4
/- layer 6: the laws' walks: ModelioApart -/
set_option linter.unusedSimpArgs false
set_option linter.unusedVariables false
namespace Go.Proofs.Ytkoopobfelcgpaa
open Go.RowKit

theorem bytes_beq (a b : ByteArray) : (a.toList == b.toList) = decide (a = b) := by
  rw [ByteArray.toList_eq, ByteArray.toList_eq]
  by_cases h : a = b
  · subst h; simp
  · have h1 : ¬ a.data.toList = b.data.toList := fun e => h (by
      have e2 : a.data = b.data := Array.ext' e
      cases a; cases b; simp_all)
    have h2 : ¬ a.data = b.data := fun e => h1 (by rw [e])
    simp [h, h2]
theorem putT_any (m : PModel) (vd vp vl vi : Value) (w : World) (h : ModelAt w vd vp vl vi m) (hc : checkB m = true) :
    Calls Try.prog 40 #[.agg #[.int .i64 m.seed, .float .f64 m.fin, vd, vp, vl, vi]] w fun e w' => e = .returned (.tuple #[.string (putS m), .int .i64 0]) ∧ Gr w w' := by
  have h1 := Put_any m vd vp vl vi w h
  have e4 : checkE m = 0 := by unfold checkE; rw [if_pos hc]
  rw [e4] at h1
  exact h1
set_option maxHeartbeats 16000000 in
set_option maxRecDepth 100000 in
theorem ModelioApart1_any (m n : PModel) (vd vp vl vi ud up ul ui : Value) (w : World) (h : ModelAt w vd vp vl vi m) (h' : ModelAt w ud up ul ui n) (hw : m.w) (hw' : n.w) (hl : lightB 10 20 60 60 100 60 m = false) :
    Calls Try.prog 12 #[.agg #[.int .i64 m.seed, .float .f64 m.fin, vd, vp, vl, vi], .agg #[.int .i64 n.seed, .float .f64 n.fin, ud, up, ul, ui]] w
      fun e w' => e = .returned (.bool true) ∧ Gr w w' := by
  have Q := Lib.hid h
  have Q' := Lib.hid h'
  have HWF := Lib.hid hw
  have HWF' := Lib.hid hw'
  obtain ⟨ad, cd, rfl, -⟩ := h.delays
  obtain ⟨ap, cp, rfl, -⟩ := h.programs
  obtain ⟨al, cl, rfl, -⟩ := h.lps
  obtain ⟨ai, ci, rfl, -⟩ := h.init
  obtain ⟨ad', cd', rfl, -⟩ := h'.delays
  obtain ⟨ap', cp', rfl, -⟩ := h'.programs
  obtain ⟨al', cl', rfl, -⟩ := h'.lps
  obtain ⟨ai', ci', rfl, -⟩ := h'.init
  clear h h' hw hw'
  have HL := Lib.hid hl
  clear hl
  go_enter Try.func12, Try.ntmps12
  go_wp2_with (first
    | (go_at_call 38; with_reducible refine (Calls.to (light6_any m _ _ _ _ _ (Q.out.gr (((Gr.refl w).alloc _).alloc _))) (boolv HL.out)).mono ?_; rintro e w1 ⟨rfl, hg⟩
       have HG1 := Lib.hid hg
       obtain ⟨k1, s1, ⟨p0, p1, p2, p3, p4, p5⟩, ⟨q0, q1, q2, q3, q4, q5⟩⟩ := box66 HG1.out
       clear hg s1)
    | (go_at_call 39; refine (awake6_any _).mono ?_; rintro e w2 ⟨rfl, hg⟩
       have HG2 := Lib.hid (HG1.out.trans hg)
       obtain ⟨k2, s2, -, -⟩ := box66 HG2.out
       clear hg s2))
  go_ret
  exact ⟨rfl, k2⟩
set_option maxHeartbeats 16000000 in
set_option maxRecDepth 100000 in
theorem ModelioApart2_any (m n : PModel) (vd vp vl vi ud up ul ui : Value) (w : World) (h : ModelAt w vd vp vl vi m) (h' : ModelAt w ud up ul ui n) (hw : m.w) (hw' : n.w) (hl : lightB 10 20 60 60 100 60 m = true) (hl' : lightB 10 20 60 60 100 60 n = false) :
    Calls Try.prog 12 #[.agg #[.int .i64 m.seed, .float .f64 m.fin, vd, vp, vl, vi], .agg #[.int .i64 n.seed, .float .f64 n.fin, ud, up, ul, ui]] w
      fun e w' => e = .returned (.bool true) ∧ Gr w w' := by
  have Q := Lib.hid h
  have Q' := Lib.hid h'
  have HWF := Lib.hid hw
  have HWF' := Lib.hid hw'
  obtain ⟨ad, cd, rfl, -⟩ := h.delays
  obtain ⟨ap, cp, rfl, -⟩ := h.programs
  obtain ⟨al, cl, rfl, -⟩ := h.lps
  obtain ⟨ai, ci, rfl, -⟩ := h.init
  obtain ⟨ad', cd', rfl, -⟩ := h'.delays
  obtain ⟨ap', cp', rfl, -⟩ := h'.programs
  obtain ⟨al', cl', rfl, -⟩ := h'.lps
  obtain ⟨ai', ci', rfl, -⟩ := h'.init
  clear h h' hw hw'
  have HL := Lib.hid hl
  clear hl
  have HL' := Lib.hid hl'
  clear hl'
  go_enter Try.func12, Try.ntmps12
  go_wp2_with (first
    | (go_at_call 38; with_reducible refine (Calls.to (light6_any m _ _ _ _ _ (Q.out.gr (((Gr.refl w).alloc _).alloc _))) (boolv HL.out)).mono ?_; rintro e w1 ⟨rfl, hg⟩
       have HG1 := Lib.hid hg
       obtain ⟨k1, s1, ⟨p0, p1, p2, p3, p4, p5⟩, ⟨q0, q1, q2, q3, q4, q5⟩⟩ := box66 HG1.out
       clear hg s1)
    | (go_at_call 38; with_reducible refine (Calls.to (light6_any n _ _ _ _ _ (Q'.out.gr k1)) (boolv HL'.out)).mono ?_; rintro e w2 ⟨rfl, hg⟩
       have HG2 := Lib.hid (HG1.out.trans hg)
       clear p0 p1 p2 p3 p4 p5 q0 q1 q2 q3 q4 q5
       obtain ⟨k2, s2, ⟨p0, p1, p2, p3, p4, p5⟩, ⟨q0, q1, q2, q3, q4, q5⟩⟩ := box66 HG2.out
       clear hg s2)
    | (go_at_call 39; refine (awake6_any _).mono ?_; rintro e w3 ⟨rfl, hg⟩
       have HG3 := Lib.hid (HG2.out.trans hg)
       obtain ⟨k3, s3, -, -⟩ := box66 HG3.out
       clear hg s3))
  go_ret
  exact ⟨rfl, k3⟩
set_option maxHeartbeats 16000000 in
set_option maxRecDepth 100000 in
theorem ModelioApart3_any (m n : PModel) (vd vp vl vi ud up ul ui : Value) (w : World) (h : ModelAt w vd vp vl vi m) (h' : ModelAt w ud up ul ui n) (hw : m.w) (hw' : n.w) (hl : lightB 10 20 60 60 100 60 m = true) (hl' : lightB 10 20 60 60 100 60 n = true) (hc : checkB m = false) (hc' : checkB n = false) :
    Calls Try.prog 12 #[.agg #[.int .i64 m.seed, .float .f64 m.fin, vd, vp, vl, vi], .agg #[.int .i64 n.seed, .float .f64 n.fin, ud, up, ul, ui]] w
      fun e w' => e = .returned (.bool true) ∧ Gr w w' := by
  have Q := Lib.hid h
  have Q' := Lib.hid h'
  have HWF := Lib.hid hw
  have HWF' := Lib.hid hw'
  obtain ⟨ad, cd, rfl, -⟩ := h.delays
  obtain ⟨ap, cp, rfl, -⟩ := h.programs
  obtain ⟨al, cl, rfl, -⟩ := h.lps
  obtain ⟨ai, ci, rfl, -⟩ := h.init
  obtain ⟨ad', cd', rfl, -⟩ := h'.delays
  obtain ⟨ap', cp', rfl, -⟩ := h'.programs
  obtain ⟨al', cl', rfl, -⟩ := h'.lps
  obtain ⟨ai', ci', rfl, -⟩ := h'.init
  clear h h' hw hw'
  have HL := Lib.hid hl
  clear hl
  have HL' := Lib.hid hl'
  clear hl'
  have HC := Lib.hid hc
  clear hc
  have HC' := Lib.hid hc'
  clear hc'
  go_enter Try.func12, Try.ntmps12
  go_wp2_with (first
    | (go_at_call 38; with_reducible refine (Calls.to (light6_any m _ _ _ _ _ (Q.out.gr (((Gr.refl w).alloc _).alloc _))) (boolv HL.out)).mono ?_; rintro e w1 ⟨rfl, hg⟩
       have HG1 := Lib.hid hg
       obtain ⟨k1, s1, ⟨p0, p1, p2, p3, p4, p5⟩, ⟨q0, q1, q2, q3, q4, q5⟩⟩ := box66 HG1.out
       clear hg s1)
    | (go_at_call 38; with_reducible refine (Calls.to (light6_any n _ _ _ _ _ (Q'.out.gr k1)) (boolv HL'.out)).mono ?_; rintro e w2 ⟨rfl, hg⟩
       have HG2 := Lib.hid (HG1.out.trans hg)
       clear p0 p1 p2 p3 p4 p5 q0 q1 q2 q3 q4 q5
       obtain ⟨k2, s2, ⟨p0, p1, p2, p3, p4, p5⟩, ⟨q0, q1, q2, q3, q4, q5⟩⟩ := box66 HG2.out
       clear hg s2)
    | (go_at_call 40; with_reducible refine (putBad_any m _ _ _ _ _ (Q.out.gr k2) HC.out).mono ?_; rintro e w3 ⟨rfl, hg⟩
       have HG3 := Lib.hid (HG2.out.trans hg)
       clear p0 p1 p2 p3 p4 p5 q0 q1 q2 q3 q4 q5
       obtain ⟨k3, s3, ⟨p0, p1, p2, p3, p4, p5⟩, ⟨q0, q1, q2, q3, q4, q5⟩⟩ := box66 HG3.out
       clear hg s3)
    | (go_at_call 40; with_reducible refine (putBad_any n _ _ _ _ _ (Q'.out.gr k3) HC'.out).mono ?_; rintro e w4 ⟨rfl, hg⟩
       have HG4 := Lib.hid (HG3.out.trans hg)
       clear p0 p1 p2 p3 p4 p5 q0 q1 q2 q3 q4 q5
       obtain ⟨k4, s4, ⟨p0, p1, p2, p3, p4, p5⟩, ⟨q0, q1, q2, q3, q4, q5⟩⟩ := box66 HG4.out
       clear hg s4)
    | (go_at_call 39; with_reducible refine (awake6_any _).mono ?_; rintro e w5 ⟨rfl, hg⟩
       have HG5 := Lib.hid (HG4.out.trans hg)
       clear p0 p1 p2 p3 p4 p5 q0 q1 q2 q3 q4 q5
       obtain ⟨k5, s5, ⟨p0, p1, p2, p3, p4, p5⟩, ⟨q0, q1, q2, q3, q4, q5⟩⟩ := box66 HG5.out
       clear hg s5))
  go_ret
  exact ⟨by simp, k5⟩
set_option maxHeartbeats 16000000 in
set_option maxRecDepth 100000 in
theorem ModelioApart4_any (m n : PModel) (vd vp vl vi ud up ul ui : Value) (w : World) (h : ModelAt w vd vp vl vi m) (h' : ModelAt w ud up ul ui n) (hw : m.w) (hw' : n.w) (hl : lightB 10 20 60 60 100 60 m = true) (hl' : lightB 10 20 60 60 100 60 n = true) (hc : checkB m = false) (hc' : checkB n = true) :
    Calls Try.prog 12 #[.agg #[.int .i64 m.seed, .float .f64 m.fin, vd, vp, vl, vi], .agg #[.int .i64 n.seed, .float .f64 n.fin, ud, up, ul, ui]] w
      fun e w' => e = .returned (.bool true) ∧ Gr w w' := by
  have Q := Lib.hid h
  have Q' := Lib.hid h'
  have HWF := Lib.hid hw
  have HWF' := Lib.hid hw'
  obtain ⟨ad, cd, rfl, -⟩ := h.delays
  obtain ⟨ap, cp, rfl, -⟩ := h.programs
  obtain ⟨al, cl, rfl, -⟩ := h.lps
  obtain ⟨ai, ci, rfl, -⟩ := h.init
  obtain ⟨ad', cd', rfl, -⟩ := h'.delays
  obtain ⟨ap', cp', rfl, -⟩ := h'.programs
  obtain ⟨al', cl', rfl, -⟩ := h'.lps
  obtain ⟨ai', ci', rfl, -⟩ := h'.init
  clear h h' hw hw'
  have HL := Lib.hid hl
  clear hl
  have HL' := Lib.hid hl'
  clear hl'
  have HC := Lib.hid hc
  clear hc
  have HC' := Lib.hid hc'
  clear hc'
  go_enter Try.func12, Try.ntmps12
  go_wp2_with (first
    | (go_at_call 38; with_reducible refine (Calls.to (light6_any m _ _ _ _ _ (Q.out.gr (((Gr.refl w).alloc _).alloc _))) (boolv HL.out)).mono ?_; rintro e w1 ⟨rfl, hg⟩
       have HG1 := Lib.hid hg
       obtain ⟨k1, s1, ⟨p0, p1, p2, p3, p4, p5⟩, ⟨q0, q1, q2, q3, q4, q5⟩⟩ := box66 HG1.out
       clear hg s1)
    | (go_at_call 38; with_reducible refine (Calls.to (light6_any n _ _ _ _ _ (Q'.out.gr k1)) (boolv HL'.out)).mono ?_; rintro e w2 ⟨rfl, hg⟩
       have HG2 := Lib.hid (HG1.out.trans hg)
       clear p0 p1 p2 p3 p4 p5 q0 q1 q2 q3 q4 q5
       obtain ⟨k2, s2, ⟨p0, p1, p2, p3, p4, p5⟩, ⟨q0, q1, q2, q3, q4, q5⟩⟩ := box66 HG2.out
       clear hg s2)
    | (go_at_call 40; with_reducible refine (putBad_any m _ _ _ _ _ (Q.out.gr k2) HC.out).mono ?_; rintro e w3 ⟨rfl, hg⟩
       have HG3 := Lib.hid (HG2.out.trans hg)
       clear p0 p1 p2 p3 p4 p5 q0 q1 q2 q3 q4 q5
       obtain ⟨k3, s3, ⟨p0, p1, p2, p3, p4, p5⟩, ⟨q0, q1, q2, q3, q4, q5⟩⟩ := box66 HG3.out
       clear hg s3)
    | (go_at_call 40; with_reducible refine (putT_any n _ _ _ _ _ (Q'.out.gr k3) HC'.out).mono ?_; rintro e w4 ⟨rfl, hg⟩
       have HG4 := Lib.hid (HG3.out.trans hg)
       clear p0 p1 p2 p3 p4 p5 q0 q1 q2 q3 q4 q5
       obtain ⟨k4, s4, ⟨p0, p1, p2, p3, p4, p5⟩, ⟨q0, q1, q2, q3, q4, q5⟩⟩ := box66 HG4.out
       clear hg s4)
    | (go_at_call 39; with_reducible refine (awake6_any _).mono ?_; rintro e w5 ⟨rfl, hg⟩
       have HG5 := Lib.hid (HG4.out.trans hg)
       clear p0 p1 p2 p3 p4 p5 q0 q1 q2 q3 q4 q5
       obtain ⟨k5, s5, ⟨p0, p1, p2, p3, p4, p5⟩, ⟨q0, q1, q2, q3, q4, q5⟩⟩ := box66 HG5.out
       clear hg s5))
  go_ret
  exact ⟨by simp, k5⟩
set_option maxHeartbeats 16000000 in
set_option maxRecDepth 100000 in
theorem ModelioApart5_any (m n : PModel) (vd vp vl vi ud up ul ui : Value) (w : World) (h : ModelAt w vd vp vl vi m) (h' : ModelAt w ud up ul ui n) (hw : m.w) (hw' : n.w) (hl : lightB 10 20 60 60 100 60 m = true) (hl' : lightB 10 20 60 60 100 60 n = true) (hc : checkB m = true) (hc' : checkB n = false) :
    Calls Try.prog 12 #[.agg #[.int .i64 m.seed, .float .f64 m.fin, vd, vp, vl, vi], .agg #[.int .i64 n.seed, .float .f64 n.fin, ud, up, ul, ui]] w
      fun e w' => e = .returned (.bool true) ∧ Gr w w' := by
  have Q := Lib.hid h
  have Q' := Lib.hid h'
  have HWF := Lib.hid hw
  have HWF' := Lib.hid hw'
  obtain ⟨ad, cd, rfl, -⟩ := h.delays
  obtain ⟨ap, cp, rfl, -⟩ := h.programs
  obtain ⟨al, cl, rfl, -⟩ := h.lps
  obtain ⟨ai, ci, rfl, -⟩ := h.init
  obtain ⟨ad', cd', rfl, -⟩ := h'.delays
  obtain ⟨ap', cp', rfl, -⟩ := h'.programs
  obtain ⟨al', cl', rfl, -⟩ := h'.lps
  obtain ⟨ai', ci', rfl, -⟩ := h'.init
  clear h h' hw hw'
  have HL := Lib.hid hl
  clear hl
  have HL' := Lib.hid hl'
  clear hl'
  have HC := Lib.hid hc
  clear hc
  have HC' := Lib.hid hc'
  clear hc'
  go_enter Try.func12, Try.ntmps12
  go_wp2_with (first
    | (go_at_call 38; with_reducible refine (Calls.to (light6_any m _ _ _ _ _ (Q.out.gr (((Gr.refl w).alloc _).alloc _))) (boolv HL.out)).mono ?_; rintro e w1 ⟨rfl, hg⟩
       have HG1 := Lib.hid hg
       obtain ⟨k1, s1, ⟨p0, p1, p2, p3, p4, p5⟩, ⟨q0, q1, q2, q3, q4, q5⟩⟩ := box66 HG1.out
       clear hg s1)
    | (go_at_call 38; with_reducible refine (Calls.to (light6_any n _ _ _ _ _ (Q'.out.gr k1)) (boolv HL'.out)).mono ?_; rintro e w2 ⟨rfl, hg⟩
       have HG2 := Lib.hid (HG1.out.trans hg)
       clear p0 p1 p2 p3 p4 p5 q0 q1 q2 q3 q4 q5
       obtain ⟨k2, s2, ⟨p0, p1, p2, p3, p4, p5⟩, ⟨q0, q1, q2, q3, q4, q5⟩⟩ := box66 HG2.out
       clear hg s2)
    | (go_at_call 40; with_reducible refine (putT_any m _ _ _ _ _ (Q.out.gr k2) HC.out).mono ?_; rintro e w3 ⟨rfl, hg⟩
       have HG3 := Lib.hid (HG2.out.trans hg)
       clear p0 p1 p2 p3 p4 p5 q0 q1 q2 q3 q4 q5
       obtain ⟨k3, s3, ⟨p0, p1, p2, p3, p4, p5⟩, ⟨q0, q1, q2, q3, q4, q5⟩⟩ := box66 HG3.out
       clear hg s3)
    | (go_at_call 40; with_reducible refine (putBad_any n _ _ _ _ _ (Q'.out.gr k3) HC'.out).mono ?_; rintro e w4 ⟨rfl, hg⟩
       have HG4 := Lib.hid (HG3.out.trans hg)
       clear p0 p1 p2 p3 p4 p5 q0 q1 q2 q3 q4 q5
       obtain ⟨k4, s4, ⟨p0, p1, p2, p3, p4, p5⟩, ⟨q0, q1, q2, q3, q4, q5⟩⟩ := box66 HG4.out
       clear hg s4)
    | (go_at_call 39; with_reducible refine (awake6_any _).mono ?_; rintro e w5 ⟨rfl, hg⟩
       have HG5 := Lib.hid (HG4.out.trans hg)
       clear p0 p1 p2 p3 p4 p5 q0 q1 q2 q3 q4 q5
       obtain ⟨k5, s5, ⟨p0, p1, p2, p3, p4, p5⟩, ⟨q0, q1, q2, q3, q4, q5⟩⟩ := box66 HG5.out
       clear hg s5))
  go_ret
  exact ⟨by simp, k5⟩
set_option maxHeartbeats 16000000 in
set_option maxRecDepth 100000 in
theorem ModelioApart6_any (m n : PModel) (vd vp vl vi ud up ul ui : Value) (w : World) (h : ModelAt w vd vp vl vi m) (h' : ModelAt w ud up ul ui n) (hw : m.w) (hw' : n.w) (hl : lightB 10 20 60 60 100 60 m = true) (hl' : lightB 10 20 60 60 100 60 n = true) (hc : checkB m = true) (hc' : checkB n = true) :
    Calls Try.prog 12 #[.agg #[.int .i64 m.seed, .float .f64 m.fin, vd, vp, vl, vi], .agg #[.int .i64 n.seed, .float .f64 n.fin, ud, up, ul, ui]] w
      fun e w' => e = .returned (.bool true) ∧ Gr w w' := by
  have Q := Lib.hid h
  have Q' := Lib.hid h'
  have HWF := Lib.hid hw
  have HWF' := Lib.hid hw'
  obtain ⟨ad, cd, rfl, -⟩ := h.delays
  obtain ⟨ap, cp, rfl, -⟩ := h.programs
  obtain ⟨al, cl, rfl, -⟩ := h.lps
  obtain ⟨ai, ci, rfl, -⟩ := h.init
  obtain ⟨ad', cd', rfl, -⟩ := h'.delays
  obtain ⟨ap', cp', rfl, -⟩ := h'.programs
  obtain ⟨al', cl', rfl, -⟩ := h'.lps
  obtain ⟨ai', ci', rfl, -⟩ := h'.init
  clear h h' hw hw'
  have HL := Lib.hid hl
  clear hl
  have HL' := Lib.hid hl'
  clear hl'
  have HC := Lib.hid hc
  clear hc
  have HC' := Lib.hid hc'
  clear hc'
  have HA := Lib.hid (apart_law m n HWF.out HWF'.out HC.out HC'.out)
  go_enter Try.func12, Try.ntmps12
  go_wp2_with (first
    | (go_at_call 38; with_reducible refine (Calls.to (light6_any m _ _ _ _ _ (Q.out.gr (((Gr.refl w).alloc _).alloc _))) (boolv HL.out)).mono ?_; rintro e w1 ⟨rfl, hg⟩
       have HG1 := Lib.hid hg
       obtain ⟨k1, s1, ⟨p0, p1, p2, p3, p4, p5⟩, ⟨q0, q1, q2, q3, q4, q5⟩⟩ := box66 HG1.out
       clear hg s1)
    | (go_at_call 38; with_reducible refine (Calls.to (light6_any n _ _ _ _ _ (Q'.out.gr k1)) (boolv HL'.out)).mono ?_; rintro e w2 ⟨rfl, hg⟩
       have HG2 := Lib.hid (HG1.out.trans hg)
       clear p0 p1 p2 p3 p4 p5 q0 q1 q2 q3 q4 q5
       obtain ⟨k2, s2, ⟨p0, p1, p2, p3, p4, p5⟩, ⟨q0, q1, q2, q3, q4, q5⟩⟩ := box66 HG2.out
       clear hg s2)
    | (go_at_call 40; with_reducible refine (putT_any m _ _ _ _ _ (Q.out.gr k2) HC.out).mono ?_; rintro e w3 ⟨rfl, hg⟩
       have HG3 := Lib.hid (HG2.out.trans hg)
       clear p0 p1 p2 p3 p4 p5 q0 q1 q2 q3 q4 q5
       obtain ⟨k3, s3, ⟨p0, p1, p2, p3, p4, p5⟩, ⟨q0, q1, q2, q3, q4, q5⟩⟩ := box66 HG3.out
       clear hg s3)
    | (go_at_call 40; with_reducible refine (putT_any n _ _ _ _ _ (Q'.out.gr k3) HC'.out).mono ?_; rintro e w4 ⟨rfl, hg⟩
       have HG4 := Lib.hid (HG3.out.trans hg)
       clear p0 p1 p2 p3 p4 p5 q0 q1 q2 q3 q4 q5
       obtain ⟨k4, s4, ⟨p0, p1, p2, p3, p4, p5⟩, ⟨q0, q1, q2, q3, q4, q5⟩⟩ := box66 HG4.out
       clear hg s4)
    | (go_at_call 39; with_reducible refine (awake6_any _).mono ?_; rintro e w5 ⟨rfl, hg⟩
       have HG5 := Lib.hid (HG4.out.trans hg)
       clear p0 p1 p2 p3 p4 p5 q0 q1 q2 q3 q4 q5
       obtain ⟨k5, s5, ⟨p0, p1, p2, p3, p4, p5⟩, ⟨q0, q1, q2, q3, q4, q5⟩⟩ := box66 HG5.out
       clear hg s5)
    | (go_at_call 36; with_reducible refine (RSame_any m n _ _ _ _ _ _ _ _ _ (Q.out.gr k5) (Q'.out.gr k5)).mono ?_; rintro e w6 ⟨rfl, hg⟩
       have HG6 := Lib.hid (HG5.out.trans hg)
       clear p0 p1 p2 p3 p4 p5 q0 q1 q2 q3 q4 q5
       obtain ⟨k6, s6, ⟨p0, p1, p2, p3, p4, p5⟩, ⟨q0, q1, q2, q3, q4, q5⟩⟩ := box66 HG6.out
       clear hg s6))
  go_ret
  exact ⟨by have := HA.out; have h2 := bytes_beq (putS m) (putS n); simp_all, k6⟩
theorem ModelioApart_any (m n : PModel) (vd vp vl vi ud up ul ui : Value) (w : World) (h : ModelAt w vd vp vl vi m) (h' : ModelAt w ud up ul ui n) (hw : m.w) (hw' : n.w) :
    Calls Try.prog 12 #[.agg #[.int .i64 m.seed, .float .f64 m.fin, vd, vp, vl, vi], .agg #[.int .i64 n.seed, .float .f64 n.fin, ud, up, ul, ui]] w
      fun e w' => e = .returned (.bool true) ∧ Gr w w' := by
  cases hl : lightB 10 20 60 60 100 60 m
  case false => exact ModelioApart1_any m n vd vp vl vi ud up ul ui w h h' hw hw' hl
  case true =>
    cases hl' : lightB 10 20 60 60 100 60 n
    case false => exact ModelioApart2_any m n vd vp vl vi ud up ul ui w h h' hw hw' hl hl'
    case true =>
      cases hc : checkB m
      case false =>
        cases hc' : checkB n
        case false => exact ModelioApart3_any m n vd vp vl vi ud up ul ui w h h' hw hw' hl hl' hc hc'
        case true => exact ModelioApart4_any m n vd vp vl vi ud up ul ui w h h' hw hw' hl hl' hc hc'
      case true =>
        cases hc' : checkB n
        case false => exact ModelioApart5_any m n vd vp vl vi ud up ul ui w h h' hw hw' hl hl' hc hc'
        case true => exact ModelioApart6_any m n vd vp vl vi ud up ul ui w h h' hw hw' hl hl' hc hc'
end Go.Proofs.Ytkoopobfelcgpaa
end -- G4
