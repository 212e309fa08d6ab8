/- layer 5: model.Same as a whole -/
import Derived.Test.YtkoopobfelcgpaaA10
namespace Go.Proofs.Ytkoopobfelcgpaa
open Go.RowKit

/-- Two boxes of six cells, in whatever came of their world. -/
theorem box66 {w W : World} {a0 a1 a2 a3 a4 a5 b0 b1 b2 b3 b4 b5 : Value} {t u : TypeId} (hW : Gr ((w.alloc (.cells #[a0, a1, a2, a3, a4, a5] t)).alloc (.cells #[b0, b1, b2, b3, b4, b5] u)) W) :
    Gr w W ∧ w.heap.size + 1 < W.heap.size ∧ (W.cell? ⟨w.heap.size, 0, none⟩ = some a0 ∧ W.cell? ⟨w.heap.size, 1, none⟩ = some a1 ∧ W.cell? ⟨w.heap.size, 2, none⟩ = some a2 ∧ W.cell? ⟨w.heap.size, 3, none⟩ = some a3 ∧ W.cell? ⟨w.heap.size, 4, none⟩ = some a4 ∧ W.cell? ⟨w.heap.size, 5, none⟩ = some a5) ∧
      (W.cell? ⟨w.heap.size + 1, 0, none⟩ = some b0 ∧ W.cell? ⟨w.heap.size + 1, 1, none⟩ = some b1 ∧ W.cell? ⟨w.heap.size + 1, 2, none⟩ = some b2 ∧ W.cell? ⟨w.heap.size + 1, 3, none⟩ = some b3 ∧ W.cell? ⟨w.heap.size + 1, 4, none⟩ = some b4 ∧ W.cell? ⟨w.heap.size + 1, 5, none⟩ = some b5) :=
  ⟨(((Gr.refl w).alloc _).alloc _).trans hW, Nat.lt_of_lt_of_le (by simp) hW.size, ⟨hW.cell (by simp), hW.cell (by simp), hW.cell (by simp), hW.cell (by simp), hW.cell (by simp), hW.cell (by simp)⟩,
    ⟨hW.cell (by simp), hW.cell (by simp), hW.cell (by simp), hW.cell (by simp), hW.cell (by simp), hW.cell (by simp)⟩⟩

set_option maxHeartbeats 4000000 in
set_option maxRecDepth 100000 in
theorem Same_any (m n : PModel) (vd vp vl vi ud up ul ui : Value) (w : World) (h : ModelAt w vd vp vl vi m) (h' : ModelAt w ud up ul ui n) :
    Calls Try.prog 35 #[.agg #[.int .i64 m.seed, .float .f64 m.fin, vd, vp, vl, vi], .agg #[.int .i64 n.seed, .float .f64 n.fin, ud, up, ul, ui]] w
      fun e w' => e = .returned (.bool (sameB m n)) ∧ Gr w w' := by
  have Q := Lib.hid h
  have Q' := Lib.hid h'
  obtain ⟨ad, cd, rfl, -⟩ := h.delays
  obtain ⟨ap, cp, rfl, -⟩ := h.programs
  obtain ⟨al, cl, rfl, -⟩ := h.lps
  obtain ⟨ai, ci, rfl, -⟩ := h.init
  obtain ⟨ad', cd', rfl, -⟩ := h'.delays
  obtain ⟨ap', cp', rfl, -⟩ := h'.programs
  obtain ⟨al', cl', rfl, -⟩ := h'.lps
  obtain ⟨ai', ci', rfl, -⟩ := h'.init
  clear h h'
  by_cases e1 : m.seed = n.seed
  case neg =>
    have e1' : (m.seed != n.seed) = true := by rw [bne_iff_ne]; exact e1
    have E := Lib.hid e1
    clear e1
    go_enter Try.func35, Try.ntmps35
    go_wp2
    go_ret
    exact ⟨ret_bool (by have := E.out; simp [sameB, this]), ((Gr.refl _).alloc _).alloc _⟩
  have e1' : (m.seed != n.seed) = false := by rw [bne_eq_false_iff_eq]; exact e1
  have E1 := Lib.hid e1
  clear e1
  go_enter Try.func35, Try.ntmps35
  go_wp2_with (first
    | (go_at_call 86; refine (float_any _ _ _).mono ?_; rintro e w' ⟨rfl, rfl⟩)
    | (go_at_call 87; refine (EqualFloats_any _ _ _ _ _ (by exact Q.out.delays.gr FloatAt.gr (((Gr.refl _).alloc _).alloc _)) (by exact Q'.out.delays.gr FloatAt.gr (((Gr.refl _).alloc _).alloc _))).mono ?_
       rintro e W1 ⟨rfl, g1⟩; obtain ⟨k1, s1, ⟨p0, p1, p2, p3, p4, p5⟩, ⟨q0, q1, q2, q3, q4, q5⟩⟩ := box66 g1)
    | (go_at_call 88; refine (EqualInits_any _ _ _ _ _ (by exact Q.out.init.gr InitAt.gr k1) (by exact Q'.out.init.gr InitAt.gr k1)).mono ?_
       rintro e W2 ⟨rfl, g2⟩; clear p0 p1 p2 p3 p4 p5 q0 q1 q2 q3 q4 q5; obtain ⟨k2, s2, ⟨p0, p1, p2, p3, p4, p5⟩, ⟨q0, q1, q2, q3, q4, q5⟩⟩ := box66 (g1.trans g2))
    | (go_at_call 90; refine (EqualPrograms_any _ _ _ _ _ (by exact Q.out.programs.gr (SlAt.gr InsAt.gr) k2) (by exact Q'.out.programs.gr (SlAt.gr InsAt.gr) k2)).mono ?_
       rintro e W3 ⟨rfl, g3⟩; clear p0 p1 p2 p3 p4 p5 q0 q1 q2 q3 q4 q5; obtain ⟨k3, s3, ⟨p0, p1, p2, p3, p4, p5⟩, ⟨q0, q1, q2, q3, q4, q5⟩⟩ := box66 ((g1.trans g2).trans g3))
    | (go_at_call 92; refine (EqualLPs_any _ _ _ _ _ (by exact Q.out.lps.gr LPAt.gr k3) (by exact Q'.out.lps.gr LPAt.gr k3)).mono ?_
       rintro e W4 ⟨rfl, g4⟩; have k4 := k3.trans g4))
  all_goals
    go_ret
    exact ⟨ret_bool (by have := E1.out; grind [sameB]), by first | exact k4 | exact k3 | exact k2 | exact k1 | exact ((Gr.refl _).alloc _).alloc _⟩
end Go.Proofs.Ytkoopobfelcgpaa
