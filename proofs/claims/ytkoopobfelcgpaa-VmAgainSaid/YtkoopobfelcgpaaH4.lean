/- layer 7: what computes -/
import Derived.Test.YtkoopobfelcgpaaH3
set_option linter.unusedSimpArgs false
set_option linter.unusedVariables false
namespace Go.Proofs.Ytkoopobfelcgpaa
open Go.RowKit

/-- what computes: by the numbers in B and C -/
def twoV (op b c : Int) : Int :=
  if op = 3 then wrap64 (b + c) else if op = 4 then wrap64 (b - c) else if op = 5 then wrap64 (b * c)
  else if op = 6 then wrap64 (Int.tdiv b c) else if op = 7 then Int.tmod b c else if b < c then 1 else 0
section
variable {F : Option Nat} {b : Nat} {w : World} {B : Nat} {vp : Value} {lps z : Int} {r : VR} {D : Nat} {vw vs : Value}
theorem RunAt.setReg2 (h : RunAt F b w B vp lps z r D vw vs) (k : Int) (h0 : 0 ≤ k) (h7 : k ≤ 7) (x y : Int) : RunAt F b ((w.setCell ⟨B, 1 + k.toNat, none⟩ (.int .i64 x)).setCell ⟨B, 1 + k.toNat, none⟩ (.int .i64 y)) B vp lps z { r with g := r.g.set k.toNat y } D vw vs := by
  have h1 := (h.setReg k h0 h7 x).setReg k h0 h7 y
  simp only [List.set_set] at h1
  exact h1
abbrev VR.out (r : VR) (k v : Int) : VR := { r with g := r.g.set k.toNat v }
set_option maxHeartbeats 1000000 in
theorem compute345_any (h : RunAt F b w B vp lps z r D vw vs) (op xa xb xc : Int) (hop : op = 3 ∨ op = 4 ∨ op = 5) (ha : mayReg xa) (hb : mayReg xb) (hc : mayReg xc) {w0 : World} (hb0 : b = w0.heap.size) (hw0 : Gr w0 w) :
    Calls Try.prog 183 #[.pointer (some ⟨B, 0, none⟩), .agg #[.int .i64 op, .int .i64 xa, .int .i64 xb, .int .i64 xc]] w fun e w' => e = .returned (.tuple #[]) ∧ Gr w0 w' ∧ RunAt F b w' B vp lps z (r.out xa (twoV op (r.reg xb) (r.reg xc))) D vw vs := by
  obtain ⟨a0, a7⟩ := ha
  obtain ⟨b0, b7⟩ := hb
  obtain ⟨c0, c7⟩ := hc
  have hk : xa < 8 := by omega
  have hk1 : xb < 8 := by omega
  have hk2 : xc < 8 := by omega
  have h' := h.gr ((Gr.refl w).alloc (.cells #[.int .i64 op, .int .i64 xa, .int .i64 xb, .int .i64 xc] 34))
  have ca := h'.cR xa a0 a7
  have cb := h'.cR xb b0 b7
  have cc := h'.cR xc c0 c7
  have fa := h'.free (1 + xa.toNat)
  have H := Lib.hid h'
  have hlt := h.lt
  have hbB : w0.heap.size ≤ B := by have := h.bB; omega
  have HW := Lib.hid (hw0.alloc (.cells #[.int .i64 op, .int .i64 xa, .int .i64 xb, .int .i64 xc] 34))
  clear h h' hw0
  rcases hop with rfl | rfl | rfl
  all_goals
    go_enter Try.func183, Try.ntmps183
    go_wp2
    go_quiet (fail)
    go_wp2
    go_quiet (fail)
    go_wp2
  all_goals go_end0
  · exact ⟨rfl, (HW.out.drewN _).setCell hbB _, (H.out.gr ((Gr.refl _).drewN _)).setReg xa a0 a7 _⟩
  · exact ⟨rfl, (HW.out.drewN _).setCell hbB _, (H.out.gr ((Gr.refl _).drewN _)).setReg xa a0 a7 _⟩
  · exact ⟨rfl, (HW.out.drewN _).setCell hbB _, (H.out.gr ((Gr.refl _).drewN _)).setReg xa a0 a7 _⟩
set_option maxHeartbeats 1000000 in
theorem compute8_any (h : RunAt F b w B vp lps z r D vw vs) (xa xb xc : Int)  (ha : mayReg xa) (hb : mayReg xb) (hc : mayReg xc) {w0 : World} (hb0 : b = w0.heap.size) (hw0 : Gr w0 w) :
    Calls Try.prog 183 #[.pointer (some ⟨B, 0, none⟩), .agg #[.int .i64 8, .int .i64 xa, .int .i64 xb, .int .i64 xc]] w fun e w' => e = .returned (.tuple #[]) ∧ Gr w0 w' ∧ RunAt F b w' B vp lps z (r.out xa (twoV 8 (r.reg xb) (r.reg xc))) D vw vs := by
  obtain ⟨a0, a7⟩ := ha
  obtain ⟨b0, b7⟩ := hb
  obtain ⟨c0, c7⟩ := hc
  have hk : xa < 8 := by omega
  have hk1 : xb < 8 := by omega
  have hk2 : xc < 8 := by omega
  have h' := h.gr ((Gr.refl w).alloc (.cells #[.int .i64 8, .int .i64 xa, .int .i64 xb, .int .i64 xc] 34))
  have ca := h'.cR xa a0 a7
  have cb := h'.cR xb b0 b7
  have cc := h'.cR xc c0 c7
  have fa := h'.free (1 + xa.toNat)
  have H := Lib.hid h'
  have hlt := h.lt
  have hbB : w0.heap.size ≤ B := by have := h.bB; omega
  have HW := Lib.hid (hw0.alloc (.cells #[.int .i64 8, .int .i64 xa, .int .i64 xb, .int .i64 xc] 34))
  clear h h' hw0
  by_cases hl : r.reg xb < r.reg xc
  · have g0 : decide (r.reg xb < r.reg xc) = true := by simpa using hl
    have hv : twoV 8 (r.reg xb) (r.reg xc) = 1 := by simp [twoV, hl]
    have HV := Lib.hid hv
    clear hv
    go_enter Try.func183, Try.ntmps183
    go_wp2
    go_quiet (fail)
    go_wp2
    go_quiet (fail)
    go_wp2
    go_end0
    refine ⟨rfl, ((HW.out.drewN _).setCell hbB _).setCell hbB _, ?_⟩
    rw [HV.out]
    exact (H.out.gr ((Gr.refl _).drewN _)).setReg2 xa a0 a7 0 1
  · have g0 : decide (r.reg xb < r.reg xc) = false := by simpa using hl
    have hv : twoV 8 (r.reg xb) (r.reg xc) = 0 := by simp [twoV, hl]
    have HV := Lib.hid hv
    clear hv
    go_enter Try.func183, Try.ntmps183
    go_wp2
    go_quiet (fail)
    go_wp2
    go_quiet (fail)
    go_wp2
    go_end0
    refine ⟨rfl, (HW.out.drewN _).setCell hbB _, ?_⟩
    rw [HV.out]
    exact (H.out.gr ((Gr.refl _).drewN _)).setReg xa a0 a7 0
set_option maxHeartbeats 1000000 in
theorem compute6_any (h : RunAt F b w B vp lps z r D vw vs) (xa xb xc : Int) (hz : ¬ r.reg xc = 0) (ha : mayReg xa) (hb : mayReg xb) (hc : mayReg xc) {w0 : World} (hb0 : b = w0.heap.size) (hw0 : Gr w0 w) :
    Calls Try.prog 183 #[.pointer (some ⟨B, 0, none⟩), .agg #[.int .i64 6, .int .i64 xa, .int .i64 xb, .int .i64 xc]] w fun e w' => e = .returned (.tuple #[]) ∧ Gr w0 w' ∧ RunAt F b w' B vp lps z (r.out xa (twoV 6 (r.reg xb) (r.reg xc))) D vw vs := by
  obtain ⟨a0, a7⟩ := ha
  obtain ⟨b0, b7⟩ := hb
  obtain ⟨c0, c7⟩ := hc
  have hk : xa < 8 := by omega
  have hk1 : xb < 8 := by omega
  have hk2 : xc < 8 := by omega
  have h' := h.gr ((Gr.refl w).alloc (.cells #[.int .i64 6, .int .i64 xa, .int .i64 xb, .int .i64 xc] 34))
  have ca := h'.cR xa a0 a7
  have cb := h'.cR xb b0 b7
  have cc := h'.cR xc c0 c7
  have fa := h'.free (1 + xa.toNat)
  have H := Lib.hid h'
  have hlt := h.lt
  have hbB : w0.heap.size ≤ B := by have := h.bB; omega
  have HW := Lib.hid (hw0.alloc (.cells #[.int .i64 6, .int .i64 xa, .int .i64 xb, .int .i64 xc] 34))
  clear h h' hw0
  go_enter Try.func183, Try.ntmps183
  go_wp2
  go_quiet (fail)
  go_wp2
  go_quiet (fail)
  go_wp2_with (go_at_call 190
               refine (divide_any _ _ hz _).mono ?_
               rintro e w1 ⟨rfl, hg1⟩
               have ca1 := hg1.cell ca
               have fa1 := ((H.out.gr ((Gr.refl _).drewN _)).gr hg1).free (1 + xa.toNat)
               have HG1 := Lib.hid hg1
               clear ca cb cc fa hg1)
  go_end0
  exact ⟨rfl, ((HW.out.drewN _).trans HG1.out).setCell hbB _, ((H.out.gr ((Gr.refl _).drewN _)).gr HG1.out).setReg xa a0 a7 _⟩
set_option maxHeartbeats 1000000 in
theorem compute6Bad_any (h : RunAt F b w B vp lps z r D vw vs) (xa xb xc : Int) (hz : r.reg xc = 0) (ha : mayReg xa) (hb : mayReg xb) (hc : mayReg xc) {w0 : World} (hb0 : b = w0.heap.size) (hw0 : Gr w0 w) :
    Calls Try.prog 183 #[.pointer (some ⟨B, 0, none⟩), .agg #[.int .i64 6, .int .i64 xa, .int .i64 xb, .int .i64 xc]] w fun e w' => e = faultP 2 ∧ Gr w w' := by
  obtain ⟨a0, a7⟩ := ha
  obtain ⟨b0, b7⟩ := hb
  obtain ⟨c0, c7⟩ := hc
  have hk : xa < 8 := by omega
  have hk1 : xb < 8 := by omega
  have hk2 : xc < 8 := by omega
  have h' := h.gr ((Gr.refl w).alloc (.cells #[.int .i64 6, .int .i64 xa, .int .i64 xb, .int .i64 xc] 34))
  have ca := h'.cR xa a0 a7
  have cb := h'.cR xb b0 b7
  have cc := h'.cR xc c0 c7
  have fa := h'.free (1 + xa.toNat)
  have H := Lib.hid h'
  have hlt := h.lt
  have hbB : w0.heap.size ≤ B := by have := h.bB; omega
  have HW := Lib.hid (hw0.alloc (.cells #[.int .i64 6, .int .i64 xa, .int .i64 xb, .int .i64 xc] 34))
  clear h h' hw0
  rw [hz] at cc
  go_enter Try.func183, Try.ntmps183
  go_wp2
  go_quiet (fail)
  go_wp2
  go_quiet (fail)
  go_wp2_with (go_at_call 190; refine (divideBad_any _ _).mono ?_; rintro e w1 ⟨rfl, rfl⟩)
  exact ⟨rfl, rfl, by repeat (first | exact Gr.refl _ | refine Gr.drewN ?_ _ | refine Gr.drew ?_ | refine Gr.alloc ?_ _)⟩
set_option maxHeartbeats 1000000 in
theorem compute7_any (h : RunAt F b w B vp lps z r D vw vs) (xa xb xc : Int) (hz : ¬ r.reg xc = 0) (ha : mayReg xa) (hb : mayReg xb) (hc : mayReg xc) {w0 : World} (hb0 : b = w0.heap.size) (hw0 : Gr w0 w) :
    Calls Try.prog 183 #[.pointer (some ⟨B, 0, none⟩), .agg #[.int .i64 7, .int .i64 xa, .int .i64 xb, .int .i64 xc]] w fun e w' => e = .returned (.tuple #[]) ∧ Gr w0 w' ∧ RunAt F b w' B vp lps z (r.out xa (twoV 7 (r.reg xb) (r.reg xc))) D vw vs := by
  obtain ⟨a0, a7⟩ := ha
  obtain ⟨b0, b7⟩ := hb
  obtain ⟨c0, c7⟩ := hc
  have hk : xa < 8 := by omega
  have hk1 : xb < 8 := by omega
  have hk2 : xc < 8 := by omega
  have h' := h.gr ((Gr.refl w).alloc (.cells #[.int .i64 7, .int .i64 xa, .int .i64 xb, .int .i64 xc] 34))
  have ca := h'.cR xa a0 a7
  have cb := h'.cR xb b0 b7
  have cc := h'.cR xc c0 c7
  have fa := h'.free (1 + xa.toNat)
  have H := Lib.hid h'
  have hlt := h.lt
  have hbB : w0.heap.size ≤ B := by have := h.bB; omega
  have HW := Lib.hid (hw0.alloc (.cells #[.int .i64 7, .int .i64 xa, .int .i64 xb, .int .i64 xc] 34))
  clear h h' hw0
  go_enter Try.func183, Try.ntmps183
  go_wp2
  go_quiet (fail)
  go_wp2
  go_quiet (fail)
  go_wp2_with (go_at_call 190
               refine (divide_any _ _ hz _).mono ?_
               rintro e w1 ⟨rfl, hg1⟩
               have ca1 := hg1.cell ca
               have fa1 := ((H.out.gr ((Gr.refl _).drewN _)).gr hg1).free (1 + xa.toNat)
               have HG1 := Lib.hid hg1
               clear ca cb cc fa hg1)
  go_end0
  exact ⟨rfl, ((HW.out.drewN _).trans HG1.out).setCell hbB _, ((H.out.gr ((Gr.refl _).drewN _)).gr HG1.out).setReg xa a0 a7 _⟩
set_option maxHeartbeats 1000000 in
theorem compute7Bad_any (h : RunAt F b w B vp lps z r D vw vs) (xa xb xc : Int) (hz : r.reg xc = 0) (ha : mayReg xa) (hb : mayReg xb) (hc : mayReg xc) {w0 : World} (hb0 : b = w0.heap.size) (hw0 : Gr w0 w) :
    Calls Try.prog 183 #[.pointer (some ⟨B, 0, none⟩), .agg #[.int .i64 7, .int .i64 xa, .int .i64 xb, .int .i64 xc]] w fun e w' => e = faultP 2 ∧ Gr w w' := by
  obtain ⟨a0, a7⟩ := ha
  obtain ⟨b0, b7⟩ := hb
  obtain ⟨c0, c7⟩ := hc
  have hk : xa < 8 := by omega
  have hk1 : xb < 8 := by omega
  have hk2 : xc < 8 := by omega
  have h' := h.gr ((Gr.refl w).alloc (.cells #[.int .i64 7, .int .i64 xa, .int .i64 xb, .int .i64 xc] 34))
  have ca := h'.cR xa a0 a7
  have cb := h'.cR xb b0 b7
  have cc := h'.cR xc c0 c7
  have fa := h'.free (1 + xa.toNat)
  have H := Lib.hid h'
  have hlt := h.lt
  have hbB : w0.heap.size ≤ B := by have := h.bB; omega
  have HW := Lib.hid (hw0.alloc (.cells #[.int .i64 7, .int .i64 xa, .int .i64 xb, .int .i64 xc] 34))
  clear h h' hw0
  rw [hz] at cc
  go_enter Try.func183, Try.ntmps183
  go_wp2
  go_quiet (fail)
  go_wp2
  go_quiet (fail)
  go_wp2_with (go_at_call 190; refine (divideBad_any _ _).mono ?_; rintro e w1 ⟨rfl, rfl⟩)
  exact ⟨rfl, rfl, by repeat (first | exact Gr.refl _ | refine Gr.drewN ?_ _ | refine Gr.drew ?_ | refine Gr.alloc ?_ _)⟩
/-- op is one that computes -/
theorem compute_any (h : RunAt F b w B vp lps z r D vw vs) (op xa xb xc : Int) (hop : 3 ≤ op ∧ op ≤ 8) (hz : (op = 6 ∨ op = 7) → ¬ r.reg xc = 0) (ha : mayReg xa) (hb : mayReg xb) (hc : mayReg xc) {w0 : World} (hb0 : b = w0.heap.size) (hw0 : Gr w0 w) :
    Calls Try.prog 183 #[.pointer (some ⟨B, 0, none⟩), .agg #[.int .i64 op, .int .i64 xa, .int .i64 xb, .int .i64 xc]] w fun e w' => e = .returned (.tuple #[]) ∧ Gr w0 w' ∧ RunAt F b w' B vp lps z (r.out xa (twoV op (r.reg xb) (r.reg xc))) D vw vs := by
  have h3 : (op = 3 ∨ op = 4 ∨ op = 5) ∨ op = 6 ∨ op = 7 ∨ op = 8 := by omega
  rcases h3 with h3 | h3 | h3 | h3
  · exact compute345_any h op xa xb xc h3 ha hb hc hb0 hw0
  · have h4 := hz (.inl h3); subst h3; exact compute6_any h xa xb xc h4 ha hb hc hb0 hw0
  · have h4 := hz (.inr h3); subst h3; exact compute7_any h xa xb xc h4 ha hb hc hb0 hw0
  · subst h3; exact compute8_any h xa xb xc ha hb hc hb0 hw0
theorem computeBad_any (h : RunAt F b w B vp lps z r D vw vs) (op xa xb xc : Int) (hop : op = 6 ∨ op = 7) (hz : r.reg xc = 0) (ha : mayReg xa) (hb : mayReg xb) (hc : mayReg xc) {w0 : World} (hb0 : b = w0.heap.size) (hw0 : Gr w0 w) :
    Calls Try.prog 183 #[.pointer (some ⟨B, 0, none⟩), .agg #[.int .i64 op, .int .i64 xa, .int .i64 xb, .int .i64 xc]] w fun e w' => e = faultP 2 ∧ Gr w w' := by
  rcases hop with rfl | rfl
  · exact compute6Bad_any h xa xb xc hz ha hb hc hb0 hw0
  · exact compute7Bad_any h xa xb xc hz ha hb hc hb0 hw0
end
end Go.Proofs.Ytkoopobfelcgpaa
