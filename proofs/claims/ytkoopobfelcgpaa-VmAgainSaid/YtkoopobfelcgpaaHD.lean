/- layer 7: the reference's instructions -/
import Derived.Test.YtkoopobfelcgpaaHC
set_option linter.unusedSimpArgs false
set_option linter.unusedVariables false
namespace Go.Proofs.Ytkoopobfelcgpaa
open Go.RowKit Go.Proofs.YtkoopobfelcgpaaW.PrintLast
section
variable {w : World} {B : Nat} {r : VR} {f : Int} {gb : Nat} {vw vs : Value} {w0 : World}
set_option maxRecDepth 100000 in
set_option maxHeartbeats 1000000 in
theorem oneSet_any (h : RRun w0.heap.size w B r f gb vw vs) (hw0 : Gr w0 w) (ai : Option Addr) (mi ci : Nat) (i : PIn) (xa xb xc : Int) (ha : mayReg xa) :
    Calls Try.prog 132 #[.pointer (some ⟨B, 0, none⟩), .agg #[.int .i64 1, .int .i64 xa, .int .i64 xb, .int .i64 xc], inV (.slice ai mi ci) i] w fun e w' => e = .returned (.int .i64 0) ∧ Gr w0 w' ∧ RRun w0.heap.size w' B (r.out xa xb) f gb vw vs := by
  have HX := Lib.hid ((Out.new (w := w) (T := 34) (cs := [.int .i64 1, .int .i64 xa, .int .i64 xb, .int .i64 xc])).alloc (.cells #[.slice ai mi ci, .int .i64 i.pay, .int .i64 i.me, .int .i64 i.lps, .int .i64 i.seed, .int .i64 i.dice] 51))
  have hi0 := Out.new (w := w.alloc (.cells #[.int .i64 1, .int .i64 xa, .int .i64 xb, .int .i64 xc] 34)) (T := 51) (cs := [.slice ai mi ci, .int .i64 i.pay, .int .i64 i.me, .int .i64 i.lps, .int .i64 i.seed, .int .i64 i.dice])
  rw [World.size_alloc] at hi0
  have HI := Lib.hid hi0
  clear hi0
  have H0 := Lib.hid h
  have HW0 := Lib.hid hw0
  have H1 := Lib.hid (h.gr (((Gr.refl w).alloc (.cells #[.int .i64 1, .int .i64 xa, .int .i64 xb, .int .i64 xc] 34)).alloc (.cells #[.slice ai mi ci, .int .i64 i.pay, .int .i64 i.me, .int .i64 i.lps, .int .i64 i.seed, .int .i64 i.dice] 51)))
  have HW1 := Lib.hid ((hw0.alloc (.cells #[.int .i64 1, .int .i64 xa, .int .i64 xb, .int .i64 xc] 34)).alloc (.cells #[.slice ai mi ci, .int .i64 i.pay, .int .i64 i.me, .int .i64 i.lps, .int .i64 i.seed, .int .i64 i.dice] 51))
  have hbB : w0.heap.size ≤ B := h.bB
  have hbG : w0.heap.size ≤ gb := h.bG
  have hlB := h.lt
  have hlG := h.ltG
  clear h hw0
  go_enter Try.func132, Try.ntmps132
  go_wp2
  generalize ((w.alloc (.cells #[.int .i64 1, .int .i64 xa, .int .i64 xb, .int .i64 xc] 34)).alloc (.cells #[.slice ai mi ci, .int .i64 i.pay, .int .i64 i.me, .int .i64 i.lps, .int .i64 i.seed, .int .i64 i.dice] 51)) = W2 at H1 HW1 HX HI ⊢
  have x0 := HX.out.cell (i := 0) rfl
  have x1 := HX.out.cell (i := 1) rfl
  have x2 := HX.out.cell (i := 2) rfl
  have x3 := HX.out.cell (i := 3) rfl
  have cG := H1.out.cG
  obtain ⟨a0, a7⟩ := ha
  have ha8 : xa < 8 := by omega
  have ra := H1.out.cR xa a0 a7
  have fa := H1.out.freeG xa.toNat
  go_region
  go_wp2
  go_ret
  exact ⟨rfl, HW1.out.drew.setCell hbG _, (H1.out.gr (Gr.refl _).drew).setReg xa _⟩
set_option maxRecDepth 100000 in
set_option maxHeartbeats 1000000 in
theorem oneMove_any (h : RRun w0.heap.size w B r f gb vw vs) (hw0 : Gr w0 w) (ai : Option Addr) (mi ci : Nat) (i : PIn) (xa xb xc : Int) (ha : mayReg xa) (hb : mayReg xb) :
    Calls Try.prog 132 #[.pointer (some ⟨B, 0, none⟩), .agg #[.int .i64 2, .int .i64 xa, .int .i64 xb, .int .i64 xc], inV (.slice ai mi ci) i] w fun e w' => e = .returned (.int .i64 0) ∧ Gr w0 w' ∧ RRun w0.heap.size w' B (r.out xa (r.reg xb)) f gb vw vs := by
  have HX := Lib.hid ((Out.new (w := w) (T := 34) (cs := [.int .i64 2, .int .i64 xa, .int .i64 xb, .int .i64 xc])).alloc (.cells #[.slice ai mi ci, .int .i64 i.pay, .int .i64 i.me, .int .i64 i.lps, .int .i64 i.seed, .int .i64 i.dice] 51))
  have hi0 := Out.new (w := w.alloc (.cells #[.int .i64 2, .int .i64 xa, .int .i64 xb, .int .i64 xc] 34)) (T := 51) (cs := [.slice ai mi ci, .int .i64 i.pay, .int .i64 i.me, .int .i64 i.lps, .int .i64 i.seed, .int .i64 i.dice])
  rw [World.size_alloc] at hi0
  have HI := Lib.hid hi0
  clear hi0
  have H0 := Lib.hid h
  have HW0 := Lib.hid hw0
  have H1 := Lib.hid (h.gr (((Gr.refl w).alloc (.cells #[.int .i64 2, .int .i64 xa, .int .i64 xb, .int .i64 xc] 34)).alloc (.cells #[.slice ai mi ci, .int .i64 i.pay, .int .i64 i.me, .int .i64 i.lps, .int .i64 i.seed, .int .i64 i.dice] 51)))
  have HW1 := Lib.hid ((hw0.alloc (.cells #[.int .i64 2, .int .i64 xa, .int .i64 xb, .int .i64 xc] 34)).alloc (.cells #[.slice ai mi ci, .int .i64 i.pay, .int .i64 i.me, .int .i64 i.lps, .int .i64 i.seed, .int .i64 i.dice] 51))
  have hbB : w0.heap.size ≤ B := h.bB
  have hbG : w0.heap.size ≤ gb := h.bG
  have hlB := h.lt
  have hlG := h.ltG
  clear h hw0
  go_enter Try.func132, Try.ntmps132
  go_wp2
  generalize ((w.alloc (.cells #[.int .i64 2, .int .i64 xa, .int .i64 xb, .int .i64 xc] 34)).alloc (.cells #[.slice ai mi ci, .int .i64 i.pay, .int .i64 i.me, .int .i64 i.lps, .int .i64 i.seed, .int .i64 i.dice] 51)) = W2 at H1 HW1 HX HI ⊢
  have x0 := HX.out.cell (i := 0) rfl
  have x1 := HX.out.cell (i := 1) rfl
  have x2 := HX.out.cell (i := 2) rfl
  have x3 := HX.out.cell (i := 3) rfl
  have cG := H1.out.cG
  obtain ⟨a0, a7⟩ := ha
  have ha8 : xa < 8 := by omega
  have ra := H1.out.cR xa a0 a7
  obtain ⟨b0, b7⟩ := hb
  have hb8 : xb < 8 := by omega
  have rb := H1.out.cR xb b0 b7
  have fa := H1.out.freeG xa.toNat
  go_region
  go_wp2
  go_ret
  exact ⟨rfl, HW1.out.drew.setCell hbG _, (H1.out.gr (Gr.refl _).drew).setReg xa _⟩
set_option maxRecDepth 100000 in
set_option maxHeartbeats 1000000 in
theorem oneJump_any (h : RRun w0.heap.size w B r f gb vw vs) (hw0 : Gr w0 w) (ai : Option Addr) (mi ci : Nat) (i : PIn) (xa xb xc : Int)  :
    Calls Try.prog 132 #[.pointer (some ⟨B, 0, none⟩), .agg #[.int .i64 9, .int .i64 xa, .int .i64 xb, .int .i64 xc], inV (.slice ai mi ci) i] w fun e w' => e = .returned (.int .i64 0) ∧ Gr w0 w' ∧ RRun w0.heap.size w' B ({ r with pc := xa }) f gb vw vs := by
  have HX := Lib.hid ((Out.new (w := w) (T := 34) (cs := [.int .i64 9, .int .i64 xa, .int .i64 xb, .int .i64 xc])).alloc (.cells #[.slice ai mi ci, .int .i64 i.pay, .int .i64 i.me, .int .i64 i.lps, .int .i64 i.seed, .int .i64 i.dice] 51))
  have hi0 := Out.new (w := w.alloc (.cells #[.int .i64 9, .int .i64 xa, .int .i64 xb, .int .i64 xc] 34)) (T := 51) (cs := [.slice ai mi ci, .int .i64 i.pay, .int .i64 i.me, .int .i64 i.lps, .int .i64 i.seed, .int .i64 i.dice])
  rw [World.size_alloc] at hi0
  have HI := Lib.hid hi0
  clear hi0
  have H0 := Lib.hid h
  have HW0 := Lib.hid hw0
  have H1 := Lib.hid (h.gr (((Gr.refl w).alloc (.cells #[.int .i64 9, .int .i64 xa, .int .i64 xb, .int .i64 xc] 34)).alloc (.cells #[.slice ai mi ci, .int .i64 i.pay, .int .i64 i.me, .int .i64 i.lps, .int .i64 i.seed, .int .i64 i.dice] 51)))
  have HW1 := Lib.hid ((hw0.alloc (.cells #[.int .i64 9, .int .i64 xa, .int .i64 xb, .int .i64 xc] 34)).alloc (.cells #[.slice ai mi ci, .int .i64 i.pay, .int .i64 i.me, .int .i64 i.lps, .int .i64 i.seed, .int .i64 i.dice] 51))
  have hbB : w0.heap.size ≤ B := h.bB
  have hbG : w0.heap.size ≤ gb := h.bG
  have hlB := h.lt
  have hlG := h.ltG
  clear h hw0
  have cP := H0.out.cP
  have fP := H0.out.free 4
  go_enter Try.func132, Try.ntmps132
  go_wp2
  go_ret
  exact ⟨rfl, ((HW0.out.setCell (p := ⟨B, 4, none⟩) hbB _).alloc _).alloc _, (H0.out.setPc xa).gr (((Gr.refl _).alloc _).alloc _)⟩
set_option maxRecDepth 100000 in
set_option maxHeartbeats 1000000 in
theorem oneZeroYes_any (h : RRun w0.heap.size w B r f gb vw vs) (hw0 : Gr w0 w) (ai : Option Addr) (mi ci : Nat) (i : PIn) (xa xb xc : Int) (ha : mayReg xa) (hz : r.reg xa = 0) :
    Calls Try.prog 132 #[.pointer (some ⟨B, 0, none⟩), .agg #[.int .i64 10, .int .i64 xa, .int .i64 xb, .int .i64 xc], inV (.slice ai mi ci) i] w fun e w' => e = .returned (.int .i64 0) ∧ Gr w0 w' ∧ RRun w0.heap.size w' B ({ r with pc := xb }) f gb vw vs := by
  have HX := Lib.hid ((Out.new (w := w) (T := 34) (cs := [.int .i64 10, .int .i64 xa, .int .i64 xb, .int .i64 xc])).alloc (.cells #[.slice ai mi ci, .int .i64 i.pay, .int .i64 i.me, .int .i64 i.lps, .int .i64 i.seed, .int .i64 i.dice] 51))
  have hi0 := Out.new (w := w.alloc (.cells #[.int .i64 10, .int .i64 xa, .int .i64 xb, .int .i64 xc] 34)) (T := 51) (cs := [.slice ai mi ci, .int .i64 i.pay, .int .i64 i.me, .int .i64 i.lps, .int .i64 i.seed, .int .i64 i.dice])
  rw [World.size_alloc] at hi0
  have HI := Lib.hid hi0
  clear hi0
  have H0 := Lib.hid h
  have HW0 := Lib.hid hw0
  have H1 := Lib.hid (h.gr (((Gr.refl w).alloc (.cells #[.int .i64 10, .int .i64 xa, .int .i64 xb, .int .i64 xc] 34)).alloc (.cells #[.slice ai mi ci, .int .i64 i.pay, .int .i64 i.me, .int .i64 i.lps, .int .i64 i.seed, .int .i64 i.dice] 51)))
  have HW1 := Lib.hid ((hw0.alloc (.cells #[.int .i64 10, .int .i64 xa, .int .i64 xb, .int .i64 xc] 34)).alloc (.cells #[.slice ai mi ci, .int .i64 i.pay, .int .i64 i.me, .int .i64 i.lps, .int .i64 i.seed, .int .i64 i.dice] 51))
  have hbB : w0.heap.size ≤ B := h.bB
  have hbG : w0.heap.size ≤ gb := h.bG
  have hlB := h.lt
  have hlG := h.ltG
  clear h hw0
  go_enter Try.func132, Try.ntmps132
  go_wp2
  generalize ((w.alloc (.cells #[.int .i64 10, .int .i64 xa, .int .i64 xb, .int .i64 xc] 34)).alloc (.cells #[.slice ai mi ci, .int .i64 i.pay, .int .i64 i.me, .int .i64 i.lps, .int .i64 i.seed, .int .i64 i.dice] 51)) = W2 at H1 HW1 HX HI ⊢
  have x0 := HX.out.cell (i := 0) rfl
  have x1 := HX.out.cell (i := 1) rfl
  have x2 := HX.out.cell (i := 2) rfl
  have x3 := HX.out.cell (i := 3) rfl
  have cG := H1.out.cG
  obtain ⟨a0, a7⟩ := ha
  have ha8 : xa < 8 := by omega
  have ra := H1.out.cR xa a0 a7
  rw [hz] at ra
  have cP := H1.out.cP
  have fP := H1.out.free 4
  go_quiet (fail)
  go_wp2
  go_ret
  exact ⟨rfl, (HW1.out.drewN _).setCell (p := ⟨B, 4, none⟩) hbB _, (H1.out.gr ((Gr.refl _).drewN _)).setPc xb⟩
set_option maxRecDepth 100000 in
set_option maxHeartbeats 1000000 in
theorem oneZeroNo_any (h : RRun w0.heap.size w B r f gb vw vs) (hw0 : Gr w0 w) (ai : Option Addr) (mi ci : Nat) (i : PIn) (xa xb xc : Int) (ha : mayReg xa) (hz : ¬ r.reg xa = 0) :
    Calls Try.prog 132 #[.pointer (some ⟨B, 0, none⟩), .agg #[.int .i64 10, .int .i64 xa, .int .i64 xb, .int .i64 xc], inV (.slice ai mi ci) i] w fun e w' => e = .returned (.int .i64 0) ∧ Gr w0 w' ∧ RRun w0.heap.size w' B (r) f gb vw vs := by
  have HX := Lib.hid ((Out.new (w := w) (T := 34) (cs := [.int .i64 10, .int .i64 xa, .int .i64 xb, .int .i64 xc])).alloc (.cells #[.slice ai mi ci, .int .i64 i.pay, .int .i64 i.me, .int .i64 i.lps, .int .i64 i.seed, .int .i64 i.dice] 51))
  have hi0 := Out.new (w := w.alloc (.cells #[.int .i64 10, .int .i64 xa, .int .i64 xb, .int .i64 xc] 34)) (T := 51) (cs := [.slice ai mi ci, .int .i64 i.pay, .int .i64 i.me, .int .i64 i.lps, .int .i64 i.seed, .int .i64 i.dice])
  rw [World.size_alloc] at hi0
  have HI := Lib.hid hi0
  clear hi0
  have H0 := Lib.hid h
  have HW0 := Lib.hid hw0
  have H1 := Lib.hid (h.gr (((Gr.refl w).alloc (.cells #[.int .i64 10, .int .i64 xa, .int .i64 xb, .int .i64 xc] 34)).alloc (.cells #[.slice ai mi ci, .int .i64 i.pay, .int .i64 i.me, .int .i64 i.lps, .int .i64 i.seed, .int .i64 i.dice] 51)))
  have HW1 := Lib.hid ((hw0.alloc (.cells #[.int .i64 10, .int .i64 xa, .int .i64 xb, .int .i64 xc] 34)).alloc (.cells #[.slice ai mi ci, .int .i64 i.pay, .int .i64 i.me, .int .i64 i.lps, .int .i64 i.seed, .int .i64 i.dice] 51))
  have hbB : w0.heap.size ≤ B := h.bB
  have hbG : w0.heap.size ≤ gb := h.bG
  have hlB := h.lt
  have hlG := h.ltG
  clear h hw0
  go_enter Try.func132, Try.ntmps132
  go_wp2
  generalize ((w.alloc (.cells #[.int .i64 10, .int .i64 xa, .int .i64 xb, .int .i64 xc] 34)).alloc (.cells #[.slice ai mi ci, .int .i64 i.pay, .int .i64 i.me, .int .i64 i.lps, .int .i64 i.seed, .int .i64 i.dice] 51)) = W2 at H1 HW1 HX HI ⊢
  have x0 := HX.out.cell (i := 0) rfl
  have x1 := HX.out.cell (i := 1) rfl
  have x2 := HX.out.cell (i := 2) rfl
  have x3 := HX.out.cell (i := 3) rfl
  have cG := H1.out.cG
  obtain ⟨a0, a7⟩ := ha
  have ha8 : xa < 8 := by omega
  have ra := H1.out.cR xa a0 a7
  have gz : (r.reg xa == 0) = false := by simpa using hz
  go_quiet (fail)
  go_wp2
  go_ret
  exact ⟨rfl, HW1.out.drewN _, H1.out.gr ((Gr.refl _).drewN _)⟩
set_option maxRecDepth 100000 in
set_option maxHeartbeats 1000000 in
theorem oneRollBad_any (h : RRun w0.heap.size w B r f gb vw vs) (hw0 : Gr w0 w) (ai : Option Addr) (mi ci : Nat) (i : PIn) (xa xb xc : Int) (hb : mayReg xb) (h1 : r.reg xb < 1) :
    Calls Try.prog 132 #[.pointer (some ⟨B, 0, none⟩), .agg #[.int .i64 11, .int .i64 xa, .int .i64 xb, .int .i64 xc], inV (.slice ai mi ci) i] w fun e w' => e = .returned (.int .i64 4) ∧ Gr w0 w' ∧ RRun w0.heap.size w' B r f gb vw vs := by
  have HX := Lib.hid ((Out.new (w := w) (T := 34) (cs := [.int .i64 11, .int .i64 xa, .int .i64 xb, .int .i64 xc])).alloc (.cells #[.slice ai mi ci, .int .i64 i.pay, .int .i64 i.me, .int .i64 i.lps, .int .i64 i.seed, .int .i64 i.dice] 51))
  have hi0 := Out.new (w := w.alloc (.cells #[.int .i64 11, .int .i64 xa, .int .i64 xb, .int .i64 xc] 34)) (T := 51) (cs := [.slice ai mi ci, .int .i64 i.pay, .int .i64 i.me, .int .i64 i.lps, .int .i64 i.seed, .int .i64 i.dice])
  rw [World.size_alloc] at hi0
  have HI := Lib.hid hi0
  clear hi0
  have H0 := Lib.hid h
  have HW0 := Lib.hid hw0
  have H1 := Lib.hid (h.gr (((Gr.refl w).alloc (.cells #[.int .i64 11, .int .i64 xa, .int .i64 xb, .int .i64 xc] 34)).alloc (.cells #[.slice ai mi ci, .int .i64 i.pay, .int .i64 i.me, .int .i64 i.lps, .int .i64 i.seed, .int .i64 i.dice] 51)))
  have HW1 := Lib.hid ((hw0.alloc (.cells #[.int .i64 11, .int .i64 xa, .int .i64 xb, .int .i64 xc] 34)).alloc (.cells #[.slice ai mi ci, .int .i64 i.pay, .int .i64 i.me, .int .i64 i.lps, .int .i64 i.seed, .int .i64 i.dice] 51))
  have hbB : w0.heap.size ≤ B := h.bB
  have hbG : w0.heap.size ≤ gb := h.bG
  have hlB := h.lt
  have hlG := h.ltG
  clear h hw0
  go_enter Try.func132, Try.ntmps132
  go_wp2
  generalize ((w.alloc (.cells #[.int .i64 11, .int .i64 xa, .int .i64 xb, .int .i64 xc] 34)).alloc (.cells #[.slice ai mi ci, .int .i64 i.pay, .int .i64 i.me, .int .i64 i.lps, .int .i64 i.seed, .int .i64 i.dice] 51)) = W2 at H1 HW1 HX HI ⊢
  have x0 := HX.out.cell (i := 0) rfl
  have x1 := HX.out.cell (i := 1) rfl
  have x2 := HX.out.cell (i := 2) rfl
  have x3 := HX.out.cell (i := 3) rfl
  have cG := H1.out.cG
  obtain ⟨b0, b7⟩ := hb
  have hb8 : xb < 8 := by omega
  have rb := H1.out.cR xb b0 b7
  have g1 : decide (r.reg xb < 1) = true := by simpa using h1
  go_quiet (fail)
  go_wp2
  go_ret
  exact ⟨rfl, HW1.out.drewN _, H1.out.gr ((Gr.refl _).drewN _)⟩
set_option maxRecDepth 100000 in
set_option maxHeartbeats 1000000 in
theorem oneLoadBad_any (h : RRun w0.heap.size w B r f gb vw vs) (hw0 : Gr w0 w) (ai : Option Addr) (mi ci : Nat) (i : PIn) (xa xb xc : Int) (hb : mayReg xb) (hi : r.reg xb < 0 ∨ (r.w.length : Int) ≤ r.reg xb) :
    Calls Try.prog 132 #[.pointer (some ⟨B, 0, none⟩), .agg #[.int .i64 13, .int .i64 xa, .int .i64 xb, .int .i64 xc], inV (.slice ai mi ci) i] w fun e w' => e = .returned (.int .i64 3) ∧ Gr w0 w' ∧ RRun w0.heap.size w' B r f gb vw vs := by
  have HX := Lib.hid ((Out.new (w := w) (T := 34) (cs := [.int .i64 13, .int .i64 xa, .int .i64 xb, .int .i64 xc])).alloc (.cells #[.slice ai mi ci, .int .i64 i.pay, .int .i64 i.me, .int .i64 i.lps, .int .i64 i.seed, .int .i64 i.dice] 51))
  have hi0 := Out.new (w := w.alloc (.cells #[.int .i64 13, .int .i64 xa, .int .i64 xb, .int .i64 xc] 34)) (T := 51) (cs := [.slice ai mi ci, .int .i64 i.pay, .int .i64 i.me, .int .i64 i.lps, .int .i64 i.seed, .int .i64 i.dice])
  rw [World.size_alloc] at hi0
  have HI := Lib.hid hi0
  clear hi0
  have H0 := Lib.hid h
  have HW0 := Lib.hid hw0
  have H1 := Lib.hid (h.gr (((Gr.refl w).alloc (.cells #[.int .i64 13, .int .i64 xa, .int .i64 xb, .int .i64 xc] 34)).alloc (.cells #[.slice ai mi ci, .int .i64 i.pay, .int .i64 i.me, .int .i64 i.lps, .int .i64 i.seed, .int .i64 i.dice] 51)))
  have HW1 := Lib.hid ((hw0.alloc (.cells #[.int .i64 13, .int .i64 xa, .int .i64 xb, .int .i64 xc] 34)).alloc (.cells #[.slice ai mi ci, .int .i64 i.pay, .int .i64 i.me, .int .i64 i.lps, .int .i64 i.seed, .int .i64 i.dice] 51))
  have hbB : w0.heap.size ≤ B := h.bB
  have hbG : w0.heap.size ≤ gb := h.bG
  have hlB := h.lt
  have hlG := h.ltG
  clear h hw0
  obtain ⟨aw, cw, rfl⟩ := H0.out.words.shape
  by_cases hz : r.reg xb < 0
  · have g1 : decide (r.reg xb < 0) = true := by simpa using hz
    go_enter Try.func132, Try.ntmps132
    go_wp2
    generalize ((w.alloc (.cells #[.int .i64 13, .int .i64 xa, .int .i64 xb, .int .i64 xc] 34)).alloc (.cells #[.slice ai mi ci, .int .i64 i.pay, .int .i64 i.me, .int .i64 i.lps, .int .i64 i.seed, .int .i64 i.dice] 51)) = W2 at H1 HW1 HX HI ⊢
    have x0 := HX.out.cell (i := 0) rfl
    have x1 := HX.out.cell (i := 1) rfl
    have x2 := HX.out.cell (i := 2) rfl
    have x3 := HX.out.cell (i := 3) rfl
    have cG := H1.out.cG
    obtain ⟨b0, b7⟩ := hb
    have hb8 : xb < 8 := by omega
    have rb := H1.out.cR xb b0 b7
    go_quiet (fail)
    go_wp2
    go_ret
    exact ⟨rfl, HW1.out.drewN _, H1.out.gr ((Gr.refl _).drewN _)⟩
  · have g1 : decide (r.reg xb < 0) = false := by simpa using hz
    have g2 : decide ((r.w.length : Int) ≤ r.reg xb) = true := decide_eq_true (by omega)
    go_enter Try.func132, Try.ntmps132
    go_wp2
    generalize ((w.alloc (.cells #[.int .i64 13, .int .i64 xa, .int .i64 xb, .int .i64 xc] 34)).alloc (.cells #[.slice ai mi ci, .int .i64 i.pay, .int .i64 i.me, .int .i64 i.lps, .int .i64 i.seed, .int .i64 i.dice] 51)) = W2 at H1 HW1 HX HI ⊢
    have x0 := HX.out.cell (i := 0) rfl
    have x1 := HX.out.cell (i := 1) rfl
    have x2 := HX.out.cell (i := 2) rfl
    have x3 := HX.out.cell (i := 3) rfl
    have cG := H1.out.cG
    obtain ⟨b0, b7⟩ := hb
    have hb8 : xb < 8 := by omega
    have rb := H1.out.cR xb b0 b7
    have cW := H1.out.cW
    go_quiet (fail)
    go_wp2
    go_ret
    exact ⟨rfl, HW1.out.drewN _, H1.out.gr ((Gr.refl _).drewN _)⟩
set_option maxRecDepth 100000 in
set_option maxHeartbeats 1000000 in
theorem oneStoreBad_any (h : RRun w0.heap.size w B r f gb vw vs) (hw0 : Gr w0 w) (ai : Option Addr) (mi ci : Nat) (i : PIn) (xa xb xc : Int) (ha : mayReg xa) (hi : r.reg xa < 0 ∨ (r.w.length : Int) ≤ r.reg xa) :
    Calls Try.prog 132 #[.pointer (some ⟨B, 0, none⟩), .agg #[.int .i64 14, .int .i64 xa, .int .i64 xb, .int .i64 xc], inV (.slice ai mi ci) i] w fun e w' => e = .returned (.int .i64 3) ∧ Gr w0 w' ∧ RRun w0.heap.size w' B r f gb vw vs := by
  have HX := Lib.hid ((Out.new (w := w) (T := 34) (cs := [.int .i64 14, .int .i64 xa, .int .i64 xb, .int .i64 xc])).alloc (.cells #[.slice ai mi ci, .int .i64 i.pay, .int .i64 i.me, .int .i64 i.lps, .int .i64 i.seed, .int .i64 i.dice] 51))
  have hi0 := Out.new (w := w.alloc (.cells #[.int .i64 14, .int .i64 xa, .int .i64 xb, .int .i64 xc] 34)) (T := 51) (cs := [.slice ai mi ci, .int .i64 i.pay, .int .i64 i.me, .int .i64 i.lps, .int .i64 i.seed, .int .i64 i.dice])
  rw [World.size_alloc] at hi0
  have HI := Lib.hid hi0
  clear hi0
  have H0 := Lib.hid h
  have HW0 := Lib.hid hw0
  have H1 := Lib.hid (h.gr (((Gr.refl w).alloc (.cells #[.int .i64 14, .int .i64 xa, .int .i64 xb, .int .i64 xc] 34)).alloc (.cells #[.slice ai mi ci, .int .i64 i.pay, .int .i64 i.me, .int .i64 i.lps, .int .i64 i.seed, .int .i64 i.dice] 51)))
  have HW1 := Lib.hid ((hw0.alloc (.cells #[.int .i64 14, .int .i64 xa, .int .i64 xb, .int .i64 xc] 34)).alloc (.cells #[.slice ai mi ci, .int .i64 i.pay, .int .i64 i.me, .int .i64 i.lps, .int .i64 i.seed, .int .i64 i.dice] 51))
  have hbB : w0.heap.size ≤ B := h.bB
  have hbG : w0.heap.size ≤ gb := h.bG
  have hlB := h.lt
  have hlG := h.ltG
  clear h hw0
  obtain ⟨aw, cw, rfl⟩ := H0.out.words.shape
  by_cases hz : r.reg xa < 0
  · have g1 : decide (r.reg xa < 0) = true := by simpa using hz
    go_enter Try.func132, Try.ntmps132
    go_wp2
    generalize ((w.alloc (.cells #[.int .i64 14, .int .i64 xa, .int .i64 xb, .int .i64 xc] 34)).alloc (.cells #[.slice ai mi ci, .int .i64 i.pay, .int .i64 i.me, .int .i64 i.lps, .int .i64 i.seed, .int .i64 i.dice] 51)) = W2 at H1 HW1 HX HI ⊢
    have x0 := HX.out.cell (i := 0) rfl
    have x1 := HX.out.cell (i := 1) rfl
    have x2 := HX.out.cell (i := 2) rfl
    have x3 := HX.out.cell (i := 3) rfl
    have cG := H1.out.cG
    obtain ⟨a0, a7⟩ := ha
    have ha8 : xa < 8 := by omega
    have ra := H1.out.cR xa a0 a7
    go_quiet (fail)
    go_wp2
    go_ret
    exact ⟨rfl, HW1.out.drewN _, H1.out.gr ((Gr.refl _).drewN _)⟩
  · have g1 : decide (r.reg xa < 0) = false := by simpa using hz
    have g2 : decide ((r.w.length : Int) ≤ r.reg xa) = true := decide_eq_true (by omega)
    go_enter Try.func132, Try.ntmps132
    go_wp2
    generalize ((w.alloc (.cells #[.int .i64 14, .int .i64 xa, .int .i64 xb, .int .i64 xc] 34)).alloc (.cells #[.slice ai mi ci, .int .i64 i.pay, .int .i64 i.me, .int .i64 i.lps, .int .i64 i.seed, .int .i64 i.dice] 51)) = W2 at H1 HW1 HX HI ⊢
    have x0 := HX.out.cell (i := 0) rfl
    have x1 := HX.out.cell (i := 1) rfl
    have x2 := HX.out.cell (i := 2) rfl
    have x3 := HX.out.cell (i := 3) rfl
    have cG := H1.out.cG
    obtain ⟨a0, a7⟩ := ha
    have ha8 : xa < 8 := by omega
    have ra := H1.out.cR xa a0 a7
    have cW := H1.out.cW
    go_quiet (fail)
    go_wp2
    go_ret
    exact ⟨rfl, HW1.out.drewN _, H1.out.gr ((Gr.refl _).drewN _)⟩
set_option maxRecDepth 100000 in
set_option maxHeartbeats 1000000 in
theorem oneLoad_any (h : RRun w0.heap.size w B r f gb vw vs) (hw0 : Gr w0 w) (ai : Option Addr) (mi ci : Nat) (i : PIn) (xa xb xc : Int) (ha : mayReg xa) (hb : mayReg xb) (hi : 0 ≤ r.reg xb) (hl : r.reg xb < (r.w.length : Int)) :
    Calls Try.prog 132 #[.pointer (some ⟨B, 0, none⟩), .agg #[.int .i64 13, .int .i64 xa, .int .i64 xb, .int .i64 xc], inV (.slice ai mi ci) i] w fun e w' => e = .returned (.int .i64 0) ∧ Gr w0 w' ∧ RRun w0.heap.size w' B (r.out xa (r.word (r.reg xb))) f gb vw vs := by
  have HX := Lib.hid ((Out.new (w := w) (T := 34) (cs := [.int .i64 13, .int .i64 xa, .int .i64 xb, .int .i64 xc])).alloc (.cells #[.slice ai mi ci, .int .i64 i.pay, .int .i64 i.me, .int .i64 i.lps, .int .i64 i.seed, .int .i64 i.dice] 51))
  have hi0 := Out.new (w := w.alloc (.cells #[.int .i64 13, .int .i64 xa, .int .i64 xb, .int .i64 xc] 34)) (T := 51) (cs := [.slice ai mi ci, .int .i64 i.pay, .int .i64 i.me, .int .i64 i.lps, .int .i64 i.seed, .int .i64 i.dice])
  rw [World.size_alloc] at hi0
  have HI := Lib.hid hi0
  clear hi0
  have H0 := Lib.hid h
  have HW0 := Lib.hid hw0
  have H1 := Lib.hid (h.gr (((Gr.refl w).alloc (.cells #[.int .i64 13, .int .i64 xa, .int .i64 xb, .int .i64 xc] 34)).alloc (.cells #[.slice ai mi ci, .int .i64 i.pay, .int .i64 i.me, .int .i64 i.lps, .int .i64 i.seed, .int .i64 i.dice] 51)))
  have HW1 := Lib.hid ((hw0.alloc (.cells #[.int .i64 13, .int .i64 xa, .int .i64 xb, .int .i64 xc] 34)).alloc (.cells #[.slice ai mi ci, .int .i64 i.pay, .int .i64 i.me, .int .i64 i.lps, .int .i64 i.seed, .int .i64 i.dice] 51))
  have hbB : w0.heap.size ≤ B := h.bB
  have hbG : w0.heap.size ≤ gb := h.bG
  have hlB := h.lt
  have hlG := h.ltG
  clear h hw0
  have g1 : decide (r.reg xb < 0) = false := by simpa using hi
  have g2 : decide ((r.w.length : Int) ≤ r.reg xb) = false := decide_eq_false (by omega)
  obtain ⟨ga, ma, rfl, -, -, hbg, nB, lga⟩ := H0.out.wordCell _ hi hl
  go_enter Try.func132, Try.ntmps132
  go_wp2
  generalize ((w.alloc (.cells #[.int .i64 13, .int .i64 xa, .int .i64 xb, .int .i64 xc] 34)).alloc (.cells #[.slice ai mi ci, .int .i64 i.pay, .int .i64 i.me, .int .i64 i.lps, .int .i64 i.seed, .int .i64 i.dice] 51)) = W2 at H1 HW1 HX HI ⊢
  have x0 := HX.out.cell (i := 0) rfl
  have x1 := HX.out.cell (i := 1) rfl
  have x2 := HX.out.cell (i := 2) rfl
  have x3 := HX.out.cell (i := 3) rfl
  have cG := H1.out.cG
  obtain ⟨a0, a7⟩ := ha
  have ha8 : xa < 8 := by omega
  have ra := H1.out.cR xa a0 a7
  obtain ⟨b0, b7⟩ := hb
  have hb8 : xb < 8 := by omega
  have rb := H1.out.cR xb b0 b7
  obtain ⟨ga', ma', hv, cw, -, -, -, -⟩ := H1.out.wordCell _ hi hl
  injection hv with hv _ _
  injection hv with hv
  injection hv with hv
  subst hv
  have cW := H1.out.cW
  go_quiet (fail)
  go_wp2
  have H3 := Lib.hid (H1.out.gr ((Gr.refl _).drewN nq))
  have HW3 := Lib.hid (HW1.out.drewN nq)
  have fa := H1.out.freeG xa.toNat
  go_region
  go_wp2
  go_ret
  exact ⟨rfl, HW3.out.drew.setCell hbG _, (H3.out.gr (Gr.refl _).drew).setReg xa _⟩
set_option maxRecDepth 100000 in
set_option maxHeartbeats 1000000 in
theorem oneStore_any (h : RRun w0.heap.size w B r f gb vw vs) (hw0 : Gr w0 w) (ai : Option Addr) (mi ci : Nat) (i : PIn) (xa xb xc : Int) (ha : mayReg xa) (hb : mayReg xb) (hi : 0 ≤ r.reg xa) (hl : r.reg xa < (r.w.length : Int)) :
    Calls Try.prog 132 #[.pointer (some ⟨B, 0, none⟩), .agg #[.int .i64 14, .int .i64 xa, .int .i64 xb, .int .i64 xc], inV (.slice ai mi ci) i] w fun e w' => e = .returned (.int .i64 0) ∧ Gr w0 w' ∧ RRun w0.heap.size w' B ({ r with w := r.w.set (r.reg xa).toNat (r.reg xb) }) f gb vw vs := by
  have HX := Lib.hid ((Out.new (w := w) (T := 34) (cs := [.int .i64 14, .int .i64 xa, .int .i64 xb, .int .i64 xc])).alloc (.cells #[.slice ai mi ci, .int .i64 i.pay, .int .i64 i.me, .int .i64 i.lps, .int .i64 i.seed, .int .i64 i.dice] 51))
  have hi0 := Out.new (w := w.alloc (.cells #[.int .i64 14, .int .i64 xa, .int .i64 xb, .int .i64 xc] 34)) (T := 51) (cs := [.slice ai mi ci, .int .i64 i.pay, .int .i64 i.me, .int .i64 i.lps, .int .i64 i.seed, .int .i64 i.dice])
  rw [World.size_alloc] at hi0
  have HI := Lib.hid hi0
  clear hi0
  have H0 := Lib.hid h
  have HW0 := Lib.hid hw0
  have H1 := Lib.hid (h.gr (((Gr.refl w).alloc (.cells #[.int .i64 14, .int .i64 xa, .int .i64 xb, .int .i64 xc] 34)).alloc (.cells #[.slice ai mi ci, .int .i64 i.pay, .int .i64 i.me, .int .i64 i.lps, .int .i64 i.seed, .int .i64 i.dice] 51)))
  have HW1 := Lib.hid ((hw0.alloc (.cells #[.int .i64 14, .int .i64 xa, .int .i64 xb, .int .i64 xc] 34)).alloc (.cells #[.slice ai mi ci, .int .i64 i.pay, .int .i64 i.me, .int .i64 i.lps, .int .i64 i.seed, .int .i64 i.dice] 51))
  have hbB : w0.heap.size ≤ B := h.bB
  have hbG : w0.heap.size ≤ gb := h.bG
  have hlB := h.lt
  have hlG := h.ltG
  clear h hw0
  have g1 : decide (r.reg xa < 0) = false := by simpa using hi
  have g2 : decide ((r.w.length : Int) ≤ r.reg xa) = false := decide_eq_false (by omega)
  obtain ⟨ga, ma, rfl, -, -, hbg, nB, lga⟩ := H0.out.wordCell _ hi hl
  go_enter Try.func132, Try.ntmps132
  go_wp2
  generalize ((w.alloc (.cells #[.int .i64 14, .int .i64 xa, .int .i64 xb, .int .i64 xc] 34)).alloc (.cells #[.slice ai mi ci, .int .i64 i.pay, .int .i64 i.me, .int .i64 i.lps, .int .i64 i.seed, .int .i64 i.dice] 51)) = W2 at H1 HW1 HX HI ⊢
  have x0 := HX.out.cell (i := 0) rfl
  have x1 := HX.out.cell (i := 1) rfl
  have x2 := HX.out.cell (i := 2) rfl
  have x3 := HX.out.cell (i := 3) rfl
  have cG := H1.out.cG
  obtain ⟨a0, a7⟩ := ha
  have ha8 : xa < 8 := by omega
  have ra := H1.out.cR xa a0 a7
  obtain ⟨b0, b7⟩ := hb
  have hb8 : xb < 8 := by omega
  have rb := H1.out.cR xb b0 b7
  obtain ⟨ga', ma', hv, cw, fw, -, -, -⟩ := H1.out.wordCell _ hi hl
  injection hv with hv _ _
  injection hv with hv
  injection hv with hv
  subst hv
  have cW := H1.out.cW
  go_quiet (fail)
  go_wp2
  have H3 := Lib.hid (H1.out.gr ((Gr.refl _).drewN nq))
  have HW3 := Lib.hid (HW1.out.drewN nq)
  go_region
  go_wp2
  go_ret
  exact ⟨rfl, HW3.out.drew.setCell hbg _, (H3.out.gr (Gr.refl _).drew).setWord _ _⟩
set_option maxRecDepth 100000 in
set_option maxHeartbeats 1000000 in
theorem oneComp_any (h : RRun w0.heap.size w B r f gb vw vs) (hw0 : Gr w0 w) (ai : Option Addr) (mi ci : Nat) (i : PIn) (op xa xb xc : Int) (hop : 3 ≤ op ∧ op ≤ 8) (hz : (op = 6 ∨ op = 7) → ¬ r.reg xc = 0) (h64 : i64' (r.reg xc)) (ha : mayReg xa) (hb : mayReg xb) (hc : mayReg xc) :
    Calls Try.prog 132 #[.pointer (some ⟨B, 0, none⟩), .agg #[.int .i64 op, .int .i64 xa, .int .i64 xb, .int .i64 xc], inV (.slice ai mi ci) i] w fun e w' => e = .returned (.int .i64 0) ∧ Gr w0 w' ∧ RRun w0.heap.size w' B (r.out xa (twoV op (r.reg xb) (r.reg xc))) f gb vw vs := by
  have HX := Lib.hid ((Out.new (w := w) (T := 34) (cs := [.int .i64 op, .int .i64 xa, .int .i64 xb, .int .i64 xc])).alloc (.cells #[.slice ai mi ci, .int .i64 i.pay, .int .i64 i.me, .int .i64 i.lps, .int .i64 i.seed, .int .i64 i.dice] 51))
  have hi0 := Out.new (w := w.alloc (.cells #[.int .i64 op, .int .i64 xa, .int .i64 xb, .int .i64 xc] 34)) (T := 51) (cs := [.slice ai mi ci, .int .i64 i.pay, .int .i64 i.me, .int .i64 i.lps, .int .i64 i.seed, .int .i64 i.dice])
  rw [World.size_alloc] at hi0
  have HI := Lib.hid hi0
  clear hi0
  have H0 := Lib.hid h
  have HW0 := Lib.hid hw0
  have H1 := Lib.hid (h.gr (((Gr.refl w).alloc (.cells #[.int .i64 op, .int .i64 xa, .int .i64 xb, .int .i64 xc] 34)).alloc (.cells #[.slice ai mi ci, .int .i64 i.pay, .int .i64 i.me, .int .i64 i.lps, .int .i64 i.seed, .int .i64 i.dice] 51)))
  have HW1 := Lib.hid ((hw0.alloc (.cells #[.int .i64 op, .int .i64 xa, .int .i64 xb, .int .i64 xc] 34)).alloc (.cells #[.slice ai mi ci, .int .i64 i.pay, .int .i64 i.me, .int .i64 i.lps, .int .i64 i.seed, .int .i64 i.dice] 51))
  have hbB : w0.heap.size ≤ B := h.bB
  have hbG : w0.heap.size ≤ gb := h.bG
  have hlB := h.lt
  have hlG := h.ltG
  clear h hw0
  have n1 : (op == 1) = false := by simp; omega
  have n2 : (op == 2) = false := by simp; omega
  have n9 : (op == 9) = false := by simp; omega
  have n10 : (op == 10) = false := by simp; omega
  have n11 : (op == 11) = false := by simp; omega
  have n12 : (op == 12) = false := by simp; omega
  have n13 : (op == 13) = false := by simp; omega
  have n14 : (op == 14) = false := by simp; omega
  go_enter Try.func132, Try.ntmps132
  go_wp2
  generalize ((w.alloc (.cells #[.int .i64 op, .int .i64 xa, .int .i64 xb, .int .i64 xc] 34)).alloc (.cells #[.slice ai mi ci, .int .i64 i.pay, .int .i64 i.me, .int .i64 i.lps, .int .i64 i.seed, .int .i64 i.dice] 51)) = W2 at H1 HW1 HX HI ⊢
  have x0 := HX.out.cell (i := 0) rfl
  have x1 := HX.out.cell (i := 1) rfl
  have x2 := HX.out.cell (i := 2) rfl
  have x3 := HX.out.cell (i := 3) rfl
  have cG := H1.out.cG
  obtain ⟨a0, a7⟩ := ha
  have ha8 : xa < 8 := by omega
  have ra := H1.out.cR xa a0 a7
  obtain ⟨b0, b7⟩ := hb
  have hb8 : xb < 8 := by omega
  have rb := H1.out.cR xb b0 b7
  obtain ⟨c0, c7⟩ := hc
  have hc8 : xc < 8 := by omega
  have rc := H1.out.cR xc c0 c7
  go_quiet ((go_at_call 167; exact Calls.quiet_of (two_any op _ _ hop hz h64 _)))
  go_wp2
  have H3 := Lib.hid (H1.out.gr ((Gr.refl _).drewN nq))
  have HW3 := Lib.hid (HW1.out.drewN nq)
  have fa := H1.out.freeG xa.toNat
  go_region
  go_wp2
  go_ret
  exact ⟨rfl, HW3.out.drew.setCell hbG _, (H3.out.gr (Gr.refl _).drew).setReg xa _⟩
set_option maxRecDepth 100000 in
set_option maxHeartbeats 1000000 in
theorem oneCompBad_any (h : RRun w0.heap.size w B r f gb vw vs) (hw0 : Gr w0 w) (ai : Option Addr) (mi ci : Nat) (i : PIn) (op xa xb xc : Int) (hop : op = 6 ∨ op = 7) (hz : r.reg xc = 0) (hb : mayReg xb) (hc : mayReg xc) :
    Calls Try.prog 132 #[.pointer (some ⟨B, 0, none⟩), .agg #[.int .i64 op, .int .i64 xa, .int .i64 xb, .int .i64 xc], inV (.slice ai mi ci) i] w fun e w' => e = .returned (.int .i64 2) ∧ Gr w0 w' ∧ RRun w0.heap.size w' B r f gb vw vs := by
  have HX := Lib.hid ((Out.new (w := w) (T := 34) (cs := [.int .i64 op, .int .i64 xa, .int .i64 xb, .int .i64 xc])).alloc (.cells #[.slice ai mi ci, .int .i64 i.pay, .int .i64 i.me, .int .i64 i.lps, .int .i64 i.seed, .int .i64 i.dice] 51))
  have hi0 := Out.new (w := w.alloc (.cells #[.int .i64 op, .int .i64 xa, .int .i64 xb, .int .i64 xc] 34)) (T := 51) (cs := [.slice ai mi ci, .int .i64 i.pay, .int .i64 i.me, .int .i64 i.lps, .int .i64 i.seed, .int .i64 i.dice])
  rw [World.size_alloc] at hi0
  have HI := Lib.hid hi0
  clear hi0
  have H0 := Lib.hid h
  have HW0 := Lib.hid hw0
  have H1 := Lib.hid (h.gr (((Gr.refl w).alloc (.cells #[.int .i64 op, .int .i64 xa, .int .i64 xb, .int .i64 xc] 34)).alloc (.cells #[.slice ai mi ci, .int .i64 i.pay, .int .i64 i.me, .int .i64 i.lps, .int .i64 i.seed, .int .i64 i.dice] 51)))
  have HW1 := Lib.hid ((hw0.alloc (.cells #[.int .i64 op, .int .i64 xa, .int .i64 xb, .int .i64 xc] 34)).alloc (.cells #[.slice ai mi ci, .int .i64 i.pay, .int .i64 i.me, .int .i64 i.lps, .int .i64 i.seed, .int .i64 i.dice] 51))
  have hbB : w0.heap.size ≤ B := h.bB
  have hbG : w0.heap.size ≤ gb := h.bG
  have hlB := h.lt
  have hlG := h.ltG
  clear h hw0
  have n1 : (op == 1) = false := by simp; omega
  have n2 : (op == 2) = false := by simp; omega
  have n9 : (op == 9) = false := by simp; omega
  have n10 : (op == 10) = false := by simp; omega
  have n11 : (op == 11) = false := by simp; omega
  have n12 : (op == 12) = false := by simp; omega
  have n13 : (op == 13) = false := by simp; omega
  have n14 : (op == 14) = false := by simp; omega
  go_enter Try.func132, Try.ntmps132
  go_wp2
  generalize ((w.alloc (.cells #[.int .i64 op, .int .i64 xa, .int .i64 xb, .int .i64 xc] 34)).alloc (.cells #[.slice ai mi ci, .int .i64 i.pay, .int .i64 i.me, .int .i64 i.lps, .int .i64 i.seed, .int .i64 i.dice] 51)) = W2 at H1 HW1 HX HI ⊢
  have x0 := HX.out.cell (i := 0) rfl
  have x1 := HX.out.cell (i := 1) rfl
  have x2 := HX.out.cell (i := 2) rfl
  have x3 := HX.out.cell (i := 3) rfl
  have cG := H1.out.cG
  obtain ⟨b0, b7⟩ := hb
  have hb8 : xb < 8 := by omega
  have rb := H1.out.cR xb b0 b7
  obtain ⟨c0, c7⟩ := hc
  have hc8 : xc < 8 := by omega
  have rc := H1.out.cR xc c0 c7
  rw [hz] at rc
  go_quiet ((go_at_call 167; exact Calls.quiet_of (twoBad_any op _ hop _)))
  go_wp2
  go_ret
  exact ⟨rfl, HW1.out.drewN _, H1.out.gr ((Gr.refl _).drewN _)⟩
end
end Go.Proofs.Ytkoopobfelcgpaa
