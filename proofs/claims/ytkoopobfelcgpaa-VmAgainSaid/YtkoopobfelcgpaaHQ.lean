/- layer 7: the law VmDivides -/
import Derived.Test.YtkoopobfelcgpaaHP
set_option linter.unusedSimpArgs false
set_option linter.unusedVariables false
namespace Go.Proofs.Ytkoopobfelcgpaa
open Go.RowKit

def pD (a b : Int) : List PIns := [⟨1, 4, a, 0⟩, ⟨1, 5, b, 0⟩, ⟨6, 6, 4, 5⟩, ⟨7, 7, 4, 5⟩, ⟨1, 4, 0, 0⟩, ⟨14, 4, 6, 0⟩, ⟨1, 4, 1, 0⟩, ⟨14, 4, 7, 0⟩]
def iD : PIn := ⟨[0, 0], 0, 0, 1, 0, 0⟩
theorem mayD (a b : Int) : mayE (pD a b) iD.words.length = 0 := rfl
def vD (a b q r x4 w0 w1 : Int) (pc n : Int) : VR := { g := [0, 0, 1, 2, x4, b, q, r], w := [w0, w1], sent := [], dice := 0, pc := pc, n := n }
theorem runV_step {p : List PIns} {lps z : Int} {k : Nat} {r r' : VR} (h : stepV p lps z r = (0, true, r')) : runV p lps z (k + 1) r = runV p lps z k r' := by
  show (if _ then (if _ then _ else _) else _ : Int × VR) = _
  rw [h]; simp
theorem runV_end {p : List PIns} {lps z : Int} {k : Nat} {r r' : VR} {f : Int} (h : stepV p lps z r = (f, false, r')) : runV p lps z (k + 1) r = (f, r') := by
  show (if _ then (if _ then _ else _) else _ : Int × VR) = _
  rw [h]; simp
  intro h1; rw [h1]
theorem stD0 (a b z : Int) : stepV (pD a b) 1 z iD.start = (0, true, vD a 0 0 0 a 0 0 1 1) := rfl
theorem stD1 (a b z : Int) : stepV (pD a b) 1 z (vD a 0 0 0 a 0 0 1 1) = (0, true, vD a b 0 0 a 0 0 2 2) := rfl
theorem stD2 (a b z : Int) (hb : ¬ b = 0) : stepV (pD a b) 1 z (vD a b 0 0 a 0 0 2 2) = (0, true, vD a b (wrap64 (Int.tdiv a b)) 0 a 0 0 3 3) := by
  simp [stepV, pD, vD, actV, VR.next, VR.reg, twoV, hb]
theorem stD2z (a b z : Int) (hb : b = 0) : stepV (pD a b) 1 z (vD a b 0 0 a 0 0 2 2) = (2, false, vD a b 0 0 a 0 0 3 3) := by
  simp [stepV, pD, vD, actV, VR.next, VR.reg, twoV, hb]
theorem stD3 (a b q z : Int) (hb : ¬ b = 0) : stepV (pD a b) 1 z (vD a b q 0 a 0 0 3 3) = (0, true, vD a b q (Int.tmod a b) a 0 0 4 4) := by
  simp [stepV, pD, vD, actV, VR.next, VR.reg, twoV, hb]
theorem stD4 (a b q r z : Int) : stepV (pD a b) 1 z (vD a b q r a 0 0 4 4) = (0, true, vD a b q r 0 0 0 5 5) := rfl
theorem stD5 (a b q r z : Int) : stepV (pD a b) 1 z (vD a b q r 0 0 0 5 5) = (0, true, vD a b q r 0 q 0 6 6) := rfl
theorem stD6 (a b q r z : Int) : stepV (pD a b) 1 z (vD a b q r 0 q 0 6 6) = (0, true, vD a b q r 1 q 0 7 7) := rfl
theorem stD7 (a b q r z : Int) : stepV (pD a b) 1 z (vD a b q r 1 q 0 7 7) = (0, true, vD a b q r 1 q r 8 8) := rfl
theorem stD8 (a b q r z : Int) : stepV (pD a b) 1 z (vD a b q r 1 q r 8 8) = (0, false, vD a b q r 1 q r 8 8) := rfl
theorem finD (a b : Int) (hb : ¬ b = 0) : finV (pD a b) iD = (0, vD a b (wrap64 (Int.tdiv a b)) (Int.tmod a b) 1 (wrap64 (Int.tdiv a b)) (Int.tmod a b) 8 8) := by
  unfold finV
  rw [show (122 : Nat) = 113 + 1 + 1 + 1 + 1 + 1 + 1 + 1 + 1 + 1 from rfl]
  rw [show iD.lps = 1 from rfl, runV_step (stD0 a b _), runV_step (stD1 a b _), runV_step (stD2 a b _ hb), runV_step (stD3 a b _ _ hb), runV_step (stD4 a b _ _ _), runV_step (stD5 a b _ _ _), runV_step (stD6 a b _ _ _), runV_step (stD7 a b _ _ _), runV_end (stD8 a b _ _ _)]
theorem finDz (a b : Int) (hb : b = 0) : finV (pD a b) iD = (2, vD a b 0 0 a 0 0 3 3) := by
  unfold finV
  rw [show (122 : Nat) = 119 + 1 + 1 + 1 from rfl]
  rw [show iD.lps = 1 from rfl, runV_step (stD0 a b _), runV_step (stD1 a b _), runV_end (stD2z a b _ hb)]
theorem outD (a b : Int) (hb : ¬ b = 0) : runOut (pD a b) iD = (⟨[wrap64 (Int.tdiv a b), Int.tmod a b], [], 0, 0⟩, 0) := by
  rw [out_at (mayD a b) (by rw [finD a b hb]), finD a b hb]; rfl
theorem outDz (a b : Int) (hb : b = 0) : runOut (pD a b) iD = (⟨[], [], 0, 2⟩, 0) := by
  rw [out_fault (mayD a b) (by rw [finDz a b hb]; simp), finDz a b hb]
theorem divides_law (a b : Int) (ha : i64' a) (hb : ¬ b = 0) : wrap64 (wrap64 (wrap64 (Int.tdiv a b) * b) + Int.tmod a b) = a := by
  have hm := Int.tmod_add_mul_tdiv a b
  obtain ⟨k, hk⟩ : ∃ k : Int, wrap64 (Int.tdiv a b) = Int.tdiv a b + k * 18446744073709551616 := ⟨(wrap64 (Int.tdiv a b) - Int.tdiv a b) / 18446744073709551616, by unfold wrap64; omega⟩
  rw [hk]
  have e2 : (Int.tdiv a b + k * 18446744073709551616) * b = Int.tdiv a b * b + (k * b) * 18446744073709551616 := by rw [Int.add_mul, Int.mul_right_comm]
  rw [e2]
  have e3 := Int.mul_comm b (Int.tdiv a b)
  rw [e3] at hm
  generalize k * b = u at *
  generalize Int.tdiv a b * b = v at *
  generalize Int.tmod a b = r at *
  unfold i64' at ha
  unfold wrap64
  omega
theorem sign_law (a b : Int) (hr : ¬ Int.tmod a b = 0) : decide (Int.tmod a b < 0) = decide (a < 0) := by
  by_cases ha : 0 ≤ a
  · have h2 := Int.tmod_nonneg b ha
    rw [decide_eq_false (by omega), decide_eq_false (by omega)]
  · have h2 := Int.tmod_nonneg b (show 0 ≤ -a by omega)
    rw [Int.neg_tmod] at h2
    rw [decide_eq_true (by omega), decide_eq_true (by omega)]
theorem pD_at {w : World} {c : Nat} {a b : Int} (h : Out 34 w c [.int .i64 1, .int .i64 4, .int .i64 a, .int .i64 0, .int .i64 1, .int .i64 5, .int .i64 b, .int .i64 0, .int .i64 6, .int .i64 6, .int .i64 4, .int .i64 5, .int .i64 7, .int .i64 7, .int .i64 4, .int .i64 5, .int .i64 1, .int .i64 4, .int .i64 0, .int .i64 0, .int .i64 14, .int .i64 4, .int .i64 6, .int .i64 0, .int .i64 1, .int .i64 4, .int .i64 1, .int .i64 0, .int .i64 14, .int .i64 4, .int .i64 7, .int .i64 0]) : Sl 4 InsAt w (.slice (some ⟨c, 0, none⟩) 8 8) (pD a b) :=
  ⟨_, 8, rfl, Nat.le_refl _, by unfold maxLen; omega, (fun e => by cases e), fun i x hx => ⟨c, 0, rfl, by
    match i with
    | 0 => simp [pD] at hx; subst hx; exact ⟨h.cell rfl, h.cell rfl, h.cell rfl, h.cell rfl⟩
    | 1 => simp [pD] at hx; subst hx; exact ⟨h.cell rfl, h.cell rfl, h.cell rfl, h.cell rfl⟩
    | 2 => simp [pD] at hx; subst hx; exact ⟨h.cell rfl, h.cell rfl, h.cell rfl, h.cell rfl⟩
    | 3 => simp [pD] at hx; subst hx; exact ⟨h.cell rfl, h.cell rfl, h.cell rfl, h.cell rfl⟩
    | 4 => simp [pD] at hx; subst hx; exact ⟨h.cell rfl, h.cell rfl, h.cell rfl, h.cell rfl⟩
    | 5 => simp [pD] at hx; subst hx; exact ⟨h.cell rfl, h.cell rfl, h.cell rfl, h.cell rfl⟩
    | 6 => simp [pD] at hx; subst hx; exact ⟨h.cell rfl, h.cell rfl, h.cell rfl, h.cell rfl⟩
    | 7 => simp [pD] at hx; subst hx; exact ⟨h.cell rfl, h.cell rfl, h.cell rfl, h.cell rfl⟩
    | i + 8 => simp [pD] at hx⟩⟩
theorem Sl_two {w : World} {c : Nat} {x y : Int} (h0 : IntAt w c 0 x) (h1 : IntAt w c 1 y) : Sl 1 IntAt w (.slice (some ⟨c, 0, none⟩) 2 2) [x, y] :=
  ⟨_, 2, rfl, Nat.le_refl _, by unfold maxLen; omega, (fun e => by cases e), fun i z hz => ⟨c, 0, rfl, by
    match i with
    | 0 => simp at hz; subst hz; exact h0
    | 1 => simp at hz; subst hz; exact h1
    | i + 2 => simp at hz⟩⟩
theorem i64n (n : Int) (h : -9223372036854775808 ≤ n ∧ n ≤ 9223372036854775807) : i64' n := h
theorem insD {a b : Int} (ha : i64' a) (hb : i64' b) : insI (pD a b) := by
  intro x hx
  simp [pD] at hx
  rcases hx with rfl | rfl | rfl | rfl | rfl | rfl | rfl | rfl <;> (refine ⟨?_, ?_, ?_⟩ <;> first | exact ha | exact hb | exact i64n _ (by simp))
theorem wfD : iD.wf := ⟨by intro n hn; simp [iD] at hn; subst hn; exact i64z, i64z, i64z, i64n _ (by simp [iD]), i64z, i64z⟩
set_option maxHeartbeats 4000000 in
set_option maxRecDepth 100000 in
theorem VmDivides_any (a b : Int) (ha : i64' a) (hb : i64' b) (w : World) : Calls Try.prog 16 #[.int .i64 a, .int .i64 b] w fun e w' => e = .returned (.bool true) ∧ Gr w w' := by
  have HA := Lib.hid ha
  have HB := Lib.hid hb
  clear ha hb
  by_cases hz : b = 0
  · have HO := Lib.hid (outDz a b hz)
    have g0 : (b == 0) = true := by simpa using hz
    clear hz
    go_enter Try.func16, Try.ntmps16
    go_wp2_with (first
      | (go_at_call 46; refine (RunTo_any (p := pD a b) (i := iD) (pD_at ((Out.new (w := w) (T := 34) (cs := [.int .i64 1, .int .i64 4, .int .i64 a, .int .i64 0, .int .i64 1, .int .i64 5, .int .i64 b, .int .i64 0, .int .i64 6, .int .i64 6, .int .i64 4, .int .i64 5, .int .i64 7, .int .i64 7, .int .i64 4, .int .i64 5, .int .i64 1, .int .i64 4, .int .i64 0, .int .i64 0, .int .i64 14, .int .i64 4, .int .i64 6, .int .i64 0, .int .i64 1, .int .i64 4, .int .i64 1, .int .i64 0, .int .i64 14, .int .i64 4, .int .i64 7, .int .i64 0])).alloc _)) (Sl_two (by show World.cell? _ _ = _; go_cell) (by show World.cell? _ _ = _; go_cell)) (insD HA.out HB.out) wfD _ _ (by rw [HO.out]) (by rw [HO.out])).mono ?_; rintro e w2 ⟨hg2, v1, v2, rfl, ho1, ho2⟩
         obtain ⟨b1, d1, rfl⟩ := ho1.shape
         obtain ⟨b2, d2, rfl⟩ := ho2.shape
         have HG2 := Lib.hid ((((Gr.refl w).alloc _).alloc _).trans hg2)
         have HO1 := Lib.hid (Out.new (w := w2) (T := 55) (cs := [.slice b1 0 d1, .slice b2 0 d2, .int .i64 0, .int .i64 2]))
         clear ho1 ho2 hg2)
      | (go_at_call 45; refine (awake7_any _).mono ?_; rintro e w4 ⟨rfl, hg4⟩
         have hp1 := HO1.out.gr hg4
         have y3 := hp1.cell (i := 3) rfl
         have HG4 := Lib.hid ((HG2.out.alloc _).trans hg4)
         clear hg4 hp1))
    go_ret
    exact ⟨by simp, HG4.out⟩
  · have HO := Lib.hid (outD a b hz)
    have g0 : (b == 0) = false := by simpa using hz
    have hd := divides_law a b HA.out hz
    have hs := sign_law a b
    have HZ := Lib.hid hz
    clear hz
    generalize wrap64 (Int.tdiv a b) = q at HO hd
    have HD := Lib.hid hd
    have HS := Lib.hid hs
    clear hd hs
    go_enter Try.func16, Try.ntmps16
    go_wp2_with (first
      | (go_at_call 46; refine (RunTo_any (p := pD a b) (i := iD) (pD_at ((Out.new (w := w) (T := 34) (cs := [.int .i64 1, .int .i64 4, .int .i64 a, .int .i64 0, .int .i64 1, .int .i64 5, .int .i64 b, .int .i64 0, .int .i64 6, .int .i64 6, .int .i64 4, .int .i64 5, .int .i64 7, .int .i64 7, .int .i64 4, .int .i64 5, .int .i64 1, .int .i64 4, .int .i64 0, .int .i64 0, .int .i64 14, .int .i64 4, .int .i64 6, .int .i64 0, .int .i64 1, .int .i64 4, .int .i64 1, .int .i64 0, .int .i64 14, .int .i64 4, .int .i64 7, .int .i64 0])).alloc _)) (Sl_two (by show World.cell? _ _ = _; go_cell) (by show World.cell? _ _ = _; go_cell)) (insD HA.out HB.out) wfD _ _ (by rw [HO.out]) (by rw [HO.out])).mono ?_; rintro e w2 ⟨hg2, v1, v2, rfl, ho1, ho2⟩
         have HI1 := Lib.hid ho1.ints
         obtain ⟨b1, d1, rfl⟩ := ho1.shape
         obtain ⟨b2, d2, rfl⟩ := ho2.shape
         have HG2 := Lib.hid ((((Gr.refl w).alloc _).alloc _).trans hg2)
         have HO1 := Lib.hid (Out.new (w := w2) (T := 55) (cs := [.slice b1 2 d1, .slice b2 0 d2, .int .i64 0, .int .i64 0]))
         clear ho1 ho2 hg2))
    obtain ⟨a1, o1, rfl, hr0⟩ := HI1.out.elem 0 (by simp)
    obtain ⟨a2, o2, e2, hr1⟩ := HI1.out.elem 1 (by simp)
    injection e2 with e2; injection e2 with e2 e3; subst e2 e3
    have y0 := HO1.out.cell (i := 0) rfl
    have c0 : (w2.alloc (Obj.cells #[.slice (some ⟨a1, o1, none⟩) 2 d1, .slice b2 0 d2, .int .i64 0, .int .i64 0] 55)).cell? ⟨a1, o1, none⟩ = some (.int .i64 q) := (((Gr.refl w2).alloc _).cell hr0)
    have c1 : (w2.alloc (Obj.cells #[.slice (some ⟨a1, o1, none⟩) 2 d1, .slice b2 0 d2, .int .i64 0, .int .i64 0] 55)).cell? ⟨a1, o1 + 1, none⟩ = some (.int .i64 (Int.tmod a b)) := (((Gr.refl w2).alloc _).cell hr1)
    have HG3 := Lib.hid (HG2.out.alloc (Obj.cells #[.slice (some ⟨a1, o1, none⟩) 2 d1, .slice b2 0 d2, .int .i64 0, .int .i64 0] 55))
    clear hr0 hr1
    go_quiet (fail)
    have HG4 := Lib.hid (HG3.out.drewN nq)
    generalize (World.drewN (w2.alloc _) nq) = W4 at *
    have HD1 := HD.out
    have HZ1 := HZ.out
    by_cases hr : Int.tmod a b = 0
    · have g1 : (Int.tmod a b == 0) = true := by simpa using hr
      have g3 : wrap64 (wrap64 (q * b)) = a := by have h5 := HD1; rw [hr, Int.add_zero] at h5; exact h5
      by_cases h1 : b = -1
      · have g2 : (b == -1) = true := by simpa using h1
        have g4 : wrap64 (wrap64 (-q)) = a := by have h5 := g3; rw [h1, Int.mul_neg, Int.mul_one] at h5; exact h5
        go_wp2_with (go_at_call 45; refine (awake7_any _).mono ?_; rintro e w5 ⟨rfl, hg5⟩
                     have HG5 := Lib.hid (HG4.out.trans hg5)
                     clear hg5)
        go_ret
        exact ⟨by simp, HG5.out⟩
      · have g2 : (b == -1) = false := by simpa using h1
        go_wp2_with (go_at_call 45; refine (awake7_any _).mono ?_; rintro e w5 ⟨rfl, hg5⟩
                     have HG5 := Lib.hid (HG4.out.trans hg5)
                     clear hg5)
        go_ret
        exact ⟨by simp, HG5.out⟩
    · have g1 : (Int.tmod a b == 0) = false := by simpa using hr
      have hs := HS.out hr
      by_cases h1 : b = -1
      · exact absurd (by rw [h1]; simp) hr
      · have g2 : (b == -1) = false := by simpa using h1
        go_wp2_with (go_at_call 45; refine (awake7_any _).mono ?_; rintro e w5 ⟨rfl, hg5⟩
                     have HG5 := Lib.hid (HG4.out.trans hg5)
                     clear hg5)
        go_ret
        exact ⟨by simp, HG5.out⟩
end Go.Proofs.Ytkoopobfelcgpaa
