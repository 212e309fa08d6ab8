/- layer 7: the reference's instructions, all of them -/
import Derived.Test.YtkoopobfelcgpaaHD
import Derived.Test.YtkoopobfelcgpaaHF
set_option linter.unusedSimpArgs false
set_option linter.unusedVariables false
namespace Go.Proofs.Ytkoopobfelcgpaa
open Go.RowKit Go.Proofs.YtkoopobfelcgpaaW.PrintLast
section
variable {w : World} {B : Nat} {r : VR} {f : Int} {gb : Nat} {vw vs : Value} {w0 : World}
set_option maxRecDepth 100000 in
set_option maxHeartbeats 1000000 in
theorem oneSendDst_any (h : RRun w0.heap.size w B r f gb vw vs) (hw0 : Gr w0 w) (ai : Option Addr) (mi ci : Nat) (i : PIn) (xa xb xc : Int) (ha : mayReg xa) (hd : r.reg xa < 0 ∨ i.lps ≤ r.reg xa) :
    Calls Try.prog 132 #[.pointer (some ⟨B, 0, none⟩), .agg #[.int .i64 12, .int .i64 xa, .int .i64 xb, .int .i64 xc], inV (.slice ai mi ci) i] w fun e w' => e = .returned (.int .i64 6) ∧ Gr w0 w' ∧ RRun w0.heap.size w' B r f gb vw vs := by
  have HX := Lib.hid ((Out.new (w := w) (T := 34) (cs := [.int .i64 12, .int .i64 xa, .int .i64 xb, .int .i64 xc])).alloc (.cells #[.slice ai mi ci, .int .i64 i.pay, .int .i64 i.me, .int .i64 i.lps, .int .i64 i.seed, .int .i64 i.dice] 51))
  have hi0 := Out.new (w := w.alloc (.cells #[.int .i64 12, .int .i64 xa, .int .i64 xb, .int .i64 xc] 34)) (T := 51) (cs := [.slice ai mi ci, .int .i64 i.pay, .int .i64 i.me, .int .i64 i.lps, .int .i64 i.seed, .int .i64 i.dice])
  rw [World.size_alloc] at hi0
  have HI := Lib.hid hi0
  clear hi0
  have H0 := Lib.hid h
  have HW0 := Lib.hid hw0
  have H1 := Lib.hid (h.gr (((Gr.refl w).alloc (.cells #[.int .i64 12, .int .i64 xa, .int .i64 xb, .int .i64 xc] 34)).alloc (.cells #[.slice ai mi ci, .int .i64 i.pay, .int .i64 i.me, .int .i64 i.lps, .int .i64 i.seed, .int .i64 i.dice] 51)))
  have HW1 := Lib.hid ((hw0.alloc (.cells #[.int .i64 12, .int .i64 xa, .int .i64 xb, .int .i64 xc] 34)).alloc (.cells #[.slice ai mi ci, .int .i64 i.pay, .int .i64 i.me, .int .i64 i.lps, .int .i64 i.seed, .int .i64 i.dice] 51))
  have hbB : w0.heap.size ≤ B := h.bB
  have hbG : w0.heap.size ≤ gb := h.bG
  have hlB := h.lt
  have hlG := h.ltG
  clear h hw0
  go_enter Try.func132, Try.ntmps132
  go_wp2_with (go_at_call 166
               refine (rsendsDst_any H1.out ⟨12, xa, xb, xc⟩ _ ha hd).mono ?_
               rintro e w5 ⟨rfl, hg5⟩
               have HG5 := Lib.hid hg5
               clear hg5)
  go_ret
  exact ⟨rfl, HW1.out.trans HG5.out, H1.out.gr HG5.out⟩
set_option maxRecDepth 100000 in
set_option maxHeartbeats 1000000 in
theorem oneSendFull_any (h : RRun w0.heap.size w B r f gb vw vs) (hw0 : Gr w0 w) (ai : Option Addr) (mi ci : Nat) (i : PIn) (xa xb xc : Int) (ha : mayReg xa) (hd : 0 ≤ r.reg xa) (hd' : r.reg xa < i.lps) (hf : 4 ≤ r.sent.length) :
    Calls Try.prog 132 #[.pointer (some ⟨B, 0, none⟩), .agg #[.int .i64 12, .int .i64 xa, .int .i64 xb, .int .i64 xc], inV (.slice ai mi ci) i] w fun e w' => e = .returned (.int .i64 5) ∧ Gr w0 w' ∧ RRun w0.heap.size w' B r f gb vw vs := by
  have HX := Lib.hid ((Out.new (w := w) (T := 34) (cs := [.int .i64 12, .int .i64 xa, .int .i64 xb, .int .i64 xc])).alloc (.cells #[.slice ai mi ci, .int .i64 i.pay, .int .i64 i.me, .int .i64 i.lps, .int .i64 i.seed, .int .i64 i.dice] 51))
  have hi0 := Out.new (w := w.alloc (.cells #[.int .i64 12, .int .i64 xa, .int .i64 xb, .int .i64 xc] 34)) (T := 51) (cs := [.slice ai mi ci, .int .i64 i.pay, .int .i64 i.me, .int .i64 i.lps, .int .i64 i.seed, .int .i64 i.dice])
  rw [World.size_alloc] at hi0
  have HI := Lib.hid hi0
  clear hi0
  have H0 := Lib.hid h
  have HW0 := Lib.hid hw0
  have H1 := Lib.hid (h.gr (((Gr.refl w).alloc (.cells #[.int .i64 12, .int .i64 xa, .int .i64 xb, .int .i64 xc] 34)).alloc (.cells #[.slice ai mi ci, .int .i64 i.pay, .int .i64 i.me, .int .i64 i.lps, .int .i64 i.seed, .int .i64 i.dice] 51)))
  have HW1 := Lib.hid ((hw0.alloc (.cells #[.int .i64 12, .int .i64 xa, .int .i64 xb, .int .i64 xc] 34)).alloc (.cells #[.slice ai mi ci, .int .i64 i.pay, .int .i64 i.me, .int .i64 i.lps, .int .i64 i.seed, .int .i64 i.dice] 51))
  have hbB : w0.heap.size ≤ B := h.bB
  have hbG : w0.heap.size ≤ gb := h.bG
  have hlB := h.lt
  have hlG := h.ltG
  clear h hw0
  go_enter Try.func132, Try.ntmps132
  go_wp2_with (go_at_call 166
               refine (rsendsFull_any H1.out ⟨12, xa, xb, xc⟩ _ ha hd hd' hf).mono ?_
               rintro e w5 ⟨rfl, hg5⟩
               have HG5 := Lib.hid hg5
               clear hg5)
  go_ret
  exact ⟨rfl, HW1.out.trans HG5.out, H1.out.gr HG5.out⟩
set_option maxRecDepth 100000 in
set_option maxHeartbeats 1000000 in
theorem oneSend_any (h : RRun w0.heap.size w B r f gb vw vs) (hw0 : Gr w0 w) (ai : Option Addr) (mi ci : Nat) (i : PIn) (xa xb xc : Int) (ha : mayReg xa) (hb : mayReg xb) (hc : mayReg xc) (hd : 0 ≤ r.reg xa) (hd' : r.reg xa < i.lps) (hf : r.sent.length < 4) :
    Calls Try.prog 132 #[.pointer (some ⟨B, 0, none⟩), .agg #[.int .i64 12, .int .i64 xa, .int .i64 xb, .int .i64 xc], inV (.slice ai mi ci) i] w fun e w' => e = .returned (.int .i64 0) ∧ Gr w0 w' ∧ ∃ vs', RRun w0.heap.size w' B ({ r with sent := r.sent ++ [⟨r.reg xa, r.reg xb, r.reg xc⟩] }) f gb vw vs' := by
  have HX := Lib.hid ((Out.new (w := w) (T := 34) (cs := [.int .i64 12, .int .i64 xa, .int .i64 xb, .int .i64 xc])).alloc (.cells #[.slice ai mi ci, .int .i64 i.pay, .int .i64 i.me, .int .i64 i.lps, .int .i64 i.seed, .int .i64 i.dice] 51))
  have hi0 := Out.new (w := w.alloc (.cells #[.int .i64 12, .int .i64 xa, .int .i64 xb, .int .i64 xc] 34)) (T := 51) (cs := [.slice ai mi ci, .int .i64 i.pay, .int .i64 i.me, .int .i64 i.lps, .int .i64 i.seed, .int .i64 i.dice])
  rw [World.size_alloc] at hi0
  have HI := Lib.hid hi0
  clear hi0
  have H0 := Lib.hid h
  have HW0 := Lib.hid hw0
  have H1 := Lib.hid (h.gr (((Gr.refl w).alloc (.cells #[.int .i64 12, .int .i64 xa, .int .i64 xb, .int .i64 xc] 34)).alloc (.cells #[.slice ai mi ci, .int .i64 i.pay, .int .i64 i.me, .int .i64 i.lps, .int .i64 i.seed, .int .i64 i.dice] 51)))
  have HW1 := Lib.hid ((hw0.alloc (.cells #[.int .i64 12, .int .i64 xa, .int .i64 xb, .int .i64 xc] 34)).alloc (.cells #[.slice ai mi ci, .int .i64 i.pay, .int .i64 i.me, .int .i64 i.lps, .int .i64 i.seed, .int .i64 i.dice] 51))
  have hbB : w0.heap.size ≤ B := h.bB
  have hbG : w0.heap.size ≤ gb := h.bG
  have hlB := h.lt
  have hlG := h.ltG
  clear h hw0
  go_enter Try.func132, Try.ntmps132
  go_wp2_with (go_at_call 166
               refine (rsends_any H1.out ⟨12, xa, xb, xc⟩ _ ha hb hc hd hd' hf rfl HW1.out).mono ?_
               rintro e w5 ⟨rfl, hg5, hr5⟩
               have HG5 := Lib.hid hg5
               have HR5 := Lib.hid hr5
               clear hg5 hr5)
  go_ret
  exact ⟨rfl, HG5.out, HR5.out⟩
set_option maxRecDepth 100000 in
set_option maxHeartbeats 1000000 in
theorem oneRoll_any (h : RRun w0.heap.size w B r f gb vw vs) (hw0 : Gr w0 w) (ai : Option Addr) (mi ci : Nat) (i : PIn) (xa xb xc : Int) (ha : mayReg xa) (hb : mayReg xb) (h1 : 1 ≤ r.reg xb) (h64 : i64' (r.reg xb)) :
    Calls Try.prog 132 #[.pointer (some ⟨B, 0, none⟩), .agg #[.int .i64 11, .int .i64 xa, .int .i64 xb, .int .i64 xc], inV (.slice ai mi ci) i] w fun e w' => e = .returned (.int .i64 0) ∧ Gr w0 w' ∧ RRun w0.heap.size w' B ({ r with g := r.g.set xa.toNat (chance (stepU (wordU i.seed i.me) r.dice) (r.reg xb)), dice := wrap64 (r.dice + 1) }) f gb vw vs := by
  have HX := Lib.hid ((Out.new (w := w) (T := 34) (cs := [.int .i64 11, .int .i64 xa, .int .i64 xb, .int .i64 xc])).alloc (.cells #[.slice ai mi ci, .int .i64 i.pay, .int .i64 i.me, .int .i64 i.lps, .int .i64 i.seed, .int .i64 i.dice] 51))
  have hi0 := Out.new (w := w.alloc (.cells #[.int .i64 11, .int .i64 xa, .int .i64 xb, .int .i64 xc] 34)) (T := 51) (cs := [.slice ai mi ci, .int .i64 i.pay, .int .i64 i.me, .int .i64 i.lps, .int .i64 i.seed, .int .i64 i.dice])
  rw [World.size_alloc] at hi0
  have HI := Lib.hid hi0
  clear hi0
  have H0 := Lib.hid h
  have HW0 := Lib.hid hw0
  have H1 := Lib.hid (h.gr (((Gr.refl w).alloc (.cells #[.int .i64 11, .int .i64 xa, .int .i64 xb, .int .i64 xc] 34)).alloc (.cells #[.slice ai mi ci, .int .i64 i.pay, .int .i64 i.me, .int .i64 i.lps, .int .i64 i.seed, .int .i64 i.dice] 51)))
  have HW1 := Lib.hid ((hw0.alloc (.cells #[.int .i64 11, .int .i64 xa, .int .i64 xb, .int .i64 xc] 34)).alloc (.cells #[.slice ai mi ci, .int .i64 i.pay, .int .i64 i.me, .int .i64 i.lps, .int .i64 i.seed, .int .i64 i.dice] 51))
  have hbB : w0.heap.size ≤ B := h.bB
  have hbG : w0.heap.size ≤ gb := h.bG
  have hlB := h.lt
  have hlG := h.ltG
  clear h hw0
  go_enter Try.func132, Try.ntmps132
  go_wp2
  generalize ((w.alloc (.cells #[.int .i64 11, .int .i64 xa, .int .i64 xb, .int .i64 xc] 34)).alloc (.cells #[.slice ai mi ci, .int .i64 i.pay, .int .i64 i.me, .int .i64 i.lps, .int .i64 i.seed, .int .i64 i.dice] 51)) = W2 at H1 HW1 HX HI ⊢
  have x0 := HX.out.cell (i := 0) rfl
  have x1 := HX.out.cell (i := 1) rfl
  have x2 := HX.out.cell (i := 2) rfl
  have x3 := HX.out.cell (i := 3) rfl
  have cG := H1.out.cG
  obtain ⟨a0, a7⟩ := ha
  have ha8 : xa < 8 := by omega
  have ra := H1.out.cR xa a0 a7
  obtain ⟨b0, b7⟩ := hb
  have hb8 : xb < 8 := by omega
  have rb := H1.out.cR xb b0 b7
  have g1 : decide (r.reg xb < 1) = false := by simp; omega
  go_quiet (fail)
  go_wp2
  have H3 := Lib.hid (H1.out.gr (((Gr.refl _).drewN nq).drew))
  have HW3 := Lib.hid ((HW1.out.drewN nq).drew)
  have HX3 := Lib.hid (HX.out.gr (((Gr.refl _).drewN nq).drew))
  have HI3 := Lib.hid (HI.out.gr (((Gr.refl _).drewN nq).drew))
  refine start_ (n := 19) (S := fun W' => W'.cell? ⟨B, 0, none⟩ = some (.slice (some ⟨gb, 0, none⟩) 8 8) ∧ W'.cell? ⟨w.heap.size, 1, none⟩ = some (.int .i64 xa) ∧ W'.cell? ⟨w.heap.size + 1, 4, none⟩ = some (.int .i64 i.seed) ∧ W'.cell? ⟨w.heap.size + 1, 2, none⟩ = some (.int .i64 i.me) ∧ W'.cell? ⟨B, 3, none⟩ = some (.int .i64 r.dice)) (ds := [18]) #[false, false, false, false, false, false, false, false, false, false, false, false, false, false, false, false, false, false, false] (by kernel_rfl) rfl rfl ⟨H3.out.cG, HX3.out.cell (i := 1) rfl, HI3.out.cell (i := 4) rfl, HI3.out.cell (i := 2) rfl, H3.out.cD⟩ (fun hHeld => ?_)
  generalize (W2.drewN nq).drew = W3 at H3 HW3 HX3 HI3 hHeld ⊢
  refine pure_ (i := 0) (N := (some 110)) (v := ?_) (a' := ?_) #[true, false, false, false, false, false, false, false, false, false, false, false, false, false, false, false, false, false, false] rfl rfl (by kernel_rfl) (fun _ _ _ h => h) (Or.inl ⟨by rfl, ?_⟩) ?_ ?_
  rotate_left
  · intro w'
    go_simp
    with_reducible rfl
  rotate_left
  · simp only [Act.put, List.setIfInBounds_toArray, List.set_cons_zero, List.set_cons_succ]
    rfl
  refine pure_ (i := 1) (N := (some 111)) (v := ?_) (a' := ?_) #[true, true, false, false, false, false, false, false, false, false, false, false, false, false, false, false, false, false, false] rfl rfl (by kernel_rfl) (fun _ _ _ h => h) (Or.inl ⟨by rfl, ?_⟩) ?_ ?_
  rotate_left
  · intro w'
    go_simp
    with_reducible rfl
  rotate_left
  · simp only [Act.put, List.setIfInBounds_toArray, List.set_cons_zero, List.set_cons_succ]
    rfl
  refine pure_ (i := 2) (N := (some 112)) (v := ?_) (a' := ?_) #[true, true, true, false, false, false, false, false, false, false, false, false, false, false, false, false, false, false, false] rfl rfl (by kernel_rfl) (fun _ _ _ h => h) (Or.inl ⟨by rfl, ?_⟩) ?_ ?_
  rotate_left
  · intro w'
    go_simp
    with_reducible rfl
  rotate_left
  · simp only [Act.put, List.setIfInBounds_toArray, List.set_cons_zero, List.set_cons_succ]
    rfl
  refine take_ (i := 3) (N := (some 113)) (v := ?_) (a' := ?_) #[true, true, true, true, false, false, false, false, false, false, false, false, false, false, false, false, false, false, false] rfl rfl (by kernel_rfl) (fun _ _ _ h => h) (Or.inl ⟨by rfl, ?_⟩) hHeld ?_ ?_
  rotate_left
  · rintro w' ⟨hS0, hS1, hS2, hS3, hS4⟩
    go_simp
    with_reducible rfl
  rotate_left
  · simp only [Act.put, List.setIfInBounds_toArray, List.set_cons_zero, List.set_cons_succ]
    rfl
  refine pure_ (i := 4) (N := (some 114)) (v := ?_) (a' := ?_) #[true, true, true, true, true, false, false, false, false, false, false, false, false, false, false, false, false, false, false] rfl rfl (by kernel_rfl) (fun _ _ _ h => h) (Or.inl ⟨by rfl, ?_⟩) ?_ ?_
  rotate_left
  · intro w'
    go_simp
    with_reducible rfl
  rotate_left
  · simp only [Act.put, List.setIfInBounds_toArray, List.set_cons_zero, List.set_cons_succ]
    rfl
  refine take_ (i := 5) (N := (some 115)) (v := ?_) (a' := ?_) #[true, true, true, true, true, true, false, false, false, false, false, false, false, false, false, false, false, false, false] rfl rfl (by kernel_rfl) (fun _ _ _ h => h) (Or.inl ⟨by rfl, ?_⟩) hHeld ?_ ?_
  rotate_left
  · rintro w' ⟨hS0, hS1, hS2, hS3, hS4⟩
    go_simp
    with_reducible rfl
  rotate_left
  · simp only [Act.put, List.setIfInBounds_toArray, List.set_cons_zero, List.set_cons_succ]
    rfl
  refine pure_ (i := 6) (N := (some 116)) (v := ?_) (a' := ?_) #[true, true, true, true, true, true, true, false, false, false, false, false, false, false, false, false, false, false, false] rfl rfl (by kernel_rfl) (fun _ _ _ h => h) (Or.inl ⟨by rfl, ?_⟩) ?_ ?_
  rotate_left
  · intro w'
    go_simp
    with_reducible rfl
  rotate_left
  · simp only [Act.put, List.setIfInBounds_toArray, List.set_cons_zero, List.set_cons_succ]
    rfl
  refine take_ (i := 7) (N := (some 117)) (v := ?_) (a' := ?_) #[true, true, true, true, true, true, true, true, false, false, false, false, false, false, false, false, false, false, false] rfl rfl (by kernel_rfl) (fun _ _ _ h => h) (Or.inl ⟨by rfl, ?_⟩) hHeld ?_ ?_
  rotate_left
  · rintro w' ⟨hS0, hS1, hS2, hS3, hS4⟩
    go_simp
    with_reducible rfl
  rotate_left
  · simp only [Act.put, List.setIfInBounds_toArray, List.set_cons_zero, List.set_cons_succ]
    rfl
  refine pure_ (i := 8) (N := (some 118)) (v := ?_) (a' := ?_) #[true, true, true, true, true, true, true, true, true, false, false, false, false, false, false, false, false, false, false] rfl rfl (by kernel_rfl) (fun _ _ _ h => h) (Or.inl ⟨by rfl, ?_⟩) ?_ ?_
  rotate_left
  · intro w'
    go_simp
    with_reducible rfl
  rotate_left
  · simp only [Act.put, List.setIfInBounds_toArray, List.set_cons_zero, List.set_cons_succ]
    rfl
  refine take_ (i := 9) (N := (some 119)) (v := ?_) (a' := ?_) #[true, true, true, true, true, true, true, true, true, true, false, false, false, false, false, false, false, false, false] rfl rfl (by kernel_rfl) (fun _ _ _ h => h) (Or.inl ⟨by rfl, ?_⟩) hHeld ?_ ?_
  rotate_left
  · rintro w' ⟨hS0, hS1, hS2, hS3, hS4⟩
    go_simp
    with_reducible rfl
  rotate_left
  · simp only [Act.put, List.setIfInBounds_toArray, List.set_cons_zero, List.set_cons_succ]
    rfl
  refine pure_ (i := 10) (N := (some 120)) (v := ?_) (a' := ?_) #[true, true, true, true, true, true, true, true, true, true, true, false, false, false, false, false, false, false, false] rfl rfl (by kernel_rfl) (fun _ _ _ h => h) (Or.inl ⟨by rfl, ?_⟩) ?_ ?_
  rotate_left
  · intro w'
    go_simp
    with_reducible rfl
  rotate_left
  · simp only [Act.put, List.setIfInBounds_toArray, List.set_cons_zero, List.set_cons_succ]
    rfl
  refine pure_ (i := 11) (N := (some 121)) (v := ?_) (a' := ?_) #[true, true, true, true, true, true, true, true, true, true, true, true, false, false, false, false, false, false, false] rfl rfl (by kernel_rfl) (fun _ _ _ h => h) (Or.inl ⟨by rfl, ?_⟩) ?_ ?_
  rotate_left
  · intro w'
    go_simp
    with_reducible rfl
  rotate_left
  · simp only [Act.put, List.setIfInBounds_toArray, List.set_cons_zero, List.set_cons_succ]
    rfl
  refine pure_ (i := 12) (N := (some 122)) (v := ?_) (a' := ?_) #[true, true, true, true, true, true, true, true, true, true, true, true, true, false, false, false, false, false, false] rfl rfl (by kernel_rfl) (fun _ _ _ h => h) (Or.inl ⟨by rfl, ?_⟩) ?_ ?_
  rotate_left
  · intro w'
    go_simp
    with_reducible rfl
  rotate_left
  · simp only [Act.put, List.setIfInBounds_toArray, List.set_cons_zero, List.set_cons_succ]
    rfl
  refine take_ (i := 13) (N := (some 123)) (v := ?_) (a' := ?_) #[true, true, true, true, true, true, true, true, true, true, true, true, true, true, false, false, false, false, false] rfl rfl (by kernel_rfl) (fun _ _ _ h => h) (Or.inl ⟨by rfl, ?_⟩) hHeld ?_ ?_
  rotate_left
  · rintro w' ⟨hS0, hS1, hS2, hS3, hS4⟩
    go_simp
    with_reducible rfl
  rotate_left
  · simp only [Act.put, List.setIfInBounds_toArray, List.set_cons_zero, List.set_cons_succ]
    rfl
  refine pure_ (i := 15) (N := (some 125)) (v := ?_) (a' := ?_) #[true, true, true, true, true, true, true, true, true, true, true, true, true, true, false, true, false, false, false] rfl rfl (by kernel_rfl) (fun _ _ _ h => h) (Or.inl ⟨by rfl, ?_⟩) ?_ ?_
  rotate_left
  · intro w'
    go_simp
    with_reducible rfl
  rotate_left
  · simp only [Act.put, List.setIfInBounds_toArray, List.set_cons_zero, List.set_cons_succ]
    rfl
  refine one_ (i := 14) (N := (some 124)) #[true, true, true, true, true, true, true, true, true, true, true, true, true, true, true, true, false, false, false] rfl rfl (by kernel_rfl) (by decide) (fun K hK => ?_)
  refine goes_ (f := 165) Try.func165 (by kernel_rfl) rfl #[.int .i64 i.seed, .int .i64 i.me, .int .i64 r.dice] (by rfl) rfl rfl (by simp only [List.map_toArray, List.map_cons, List.map_nil]; rfl) ?_
  refine (Rroll_any _ _ _ _).mono ?_
  rintro e w' ⟨rfl, rfl⟩
  refine ⟨_, rfl, ?_⟩
  refine hK.out _ _ hHeld (fun hHeld => ?_)
  clear hK K
  refine one_ (i := 16) (N := (some 126)) #[true, true, true, true, true, true, true, true, true, true, true, true, true, true, true, true, true, false, false] rfl rfl (by kernel_rfl) (by decide) (fun K hK => ?_)
  refine goes_ (f := 164) Try.func164 (by kernel_rfl) rfl #[.int .u64 (stepU (wordU i.seed i.me) r.dice), .int .i64 (r.reg xb)] (by rfl) rfl rfl (by simp only [List.map_toArray, List.map_cons, List.map_nil]; rfl) ?_
  refine (Rbelow_any _ _ (stepU_u _ _) h1 h64 _).mono ?_
  rintro e w' ⟨rfl, rfl⟩
  refine ⟨_, rfl, ?_⟩
  refine hK.out _ _ hHeld (fun hHeld => ?_)
  clear hK K
  refine pure_ (i := 17) (N := (some 127)) (v := ?_) (a' := ?_) #[true, true, true, true, true, true, true, true, true, true, true, true, true, true, true, true, true, true, false] rfl rfl (by kernel_rfl) (fun _ _ _ h => h) (Or.inl ⟨by rfl, ?_⟩) ?_ ?_
  rotate_left
  · intro w'
    go_simp
    with_reducible rfl
  rotate_left
  · simp only [Act.put, List.setIfInBounds_toArray, List.set_cons_zero, List.set_cons_succ]
    rfl
  refine last_ (i := 18) (N := none) #[true, true, true, true, true, true, true, true, true, true, true, true, true, true, true, true, true, true, true] rfl rfl (by kernel_rfl) (by decide) (fun K hK => ?_)
  have ra3 := H3.out.cR xa a0 a7
  have fa3 := H3.out.freeG xa.toNat
  refine skip_ (w1 := ?_) (by rfl) rfl ?_ ?_
  rotate_left
  · go_simp
    rfl
  refine hK.out _ _ ?_
  clear hK K
  have H4 := Lib.hid (H3.out.setReg xa (chance (stepU (wordU i.seed i.me) r.dice) (r.reg xb)))
  have HW4 := Lib.hid (HW3.out.setCell (p := ⟨gb, xa.toNat, none⟩) hbG (.int .i64 (chance (stepU (wordU i.seed i.me) r.dice) (r.reg xb))))
  refine done_ (by kernel_rfl) ?_
  generalize W3.setCell ⟨gb, xa.toNat, none⟩ (.int .i64 (chance (stepU (wordU i.seed i.me) r.dice) (r.reg xb))) = W4 at H4 HW4 ⊢
  have cD := H4.out.cD
  have fD := H4.out.free 3
  go_wp2
  go_ret
  exact ⟨rfl, HW4.out.setCell (p := ⟨B, 3, none⟩) hbB _, H4.out.setDice _⟩
end
end Go.Proofs.Ytkoopobfelcgpaa
