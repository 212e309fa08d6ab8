/- layer 7: the reference sends, rolls -/
import Derived.Test.YtkoopobfelcgpaaHC
set_option linter.unusedSimpArgs false
set_option linter.unusedVariables false
namespace Go.Proofs.Ytkoopobfelcgpaa
open Go.RowKit Go.Proofs.YtkoopobfelcgpaaW.PrintLast
theorem regs_at {r : VR} (h8 : r.g.length = 8) (k : Int) (h0 : 0 ≤ k) (h7 : k ≤ 7) : (r.g.map (Value.int .i64))[k.toNat]? = some (.int .i64 (r.reg k)) := by
  have hk : k.toNat < r.g.length := by omega
  simp [VR.reg, List.getElem?_eq_getElem hk]
section
variable {w : World} {B : Nat} {r : VR} {f : Int} {gb : Nat} {vw vs : Value} {w0 : World}
theorem rsendsDst_any {b : Nat} (h : RRun b w B r f gb vw vs) (x : PIns) (lps : Int) (ha : mayReg x.a) (hd : r.reg x.a < 0 ∨ lps ≤ r.reg x.a) :
    Calls Try.prog 166 #[.pointer (some ⟨B, 0, none⟩), insV x, .int .i64 lps] w fun e w' => e = .returned (.int .i64 6) ∧ Gr w w' := by
  obtain ⟨h0, h7⟩ := ha
  have hk : x.a < 8 := by omega
  have h' := h.gr ((Gr.refl w).alloc (.cells #[.int .i64 x.op, .int .i64 x.a, .int .i64 x.b, .int .i64 x.c] 34))
  have c1 := h'.cR x.a h0 h7
  have c2 := h'.cG
  have hlt := h.lt
  have hlg := h.ltG
  by_cases hz : r.reg x.a < 0
  · have g0 : decide (r.reg x.a < 0) = true := by simpa using hz
    go_enter Try.func166, Try.ntmps166
    go_wp2
    go_quiet (fail)
    go_wp2
    go_ret
    exact ⟨rfl, ((Gr.refl _).alloc _).drewN _⟩
  · have g0 : decide (r.reg x.a < 0) = false := by simpa using hz
    have g1 : decide (lps ≤ r.reg x.a) = true := by simp; omega
    go_enter Try.func166, Try.ntmps166
    go_wp2
    go_quiet (fail)
    go_wp2
    go_ret
    exact ⟨rfl, ((Gr.refl _).alloc _).drewN _⟩
theorem rsendsFull_any {b : Nat} (h : RRun b w B r f gb vw vs) (x : PIns) (lps : Int) (ha : mayReg x.a) (hd : 0 ≤ r.reg x.a) (hd' : r.reg x.a < lps) (hf : 4 ≤ r.sent.length) :
    Calls Try.prog 166 #[.pointer (some ⟨B, 0, none⟩), insV x, .int .i64 lps] w fun e w' => e = .returned (.int .i64 5) ∧ Gr w w' := by
  obtain ⟨h0, h7⟩ := ha
  have hk : x.a < 8 := by omega
  have h' := h.gr ((Gr.refl w).alloc (.cells #[.int .i64 x.op, .int .i64 x.a, .int .i64 x.b, .int .i64 x.c] 34))
  have c1 := h'.cR x.a h0 h7
  have c2 := h'.cG
  have c3 := h'.cS
  obtain ⟨a, cap, rfl⟩ := h.sent.shape
  have hlt := h.lt
  have hlg := h.ltG
  have g0 : decide (r.reg x.a < 0) = false := by simpa using hd
  have g1 : decide (lps ≤ r.reg x.a) = false := by simpa using hd'
  have g2 : decide (4 ≤ (r.sent.length : Int)) = true := decide_eq_true (by omega)
  go_enter Try.func166, Try.ntmps166
  go_wp2
  go_quiet (fail)
  go_wp2
  go_ret
  exact ⟨rfl, ((Gr.refl _).alloc _).drewN _⟩
set_option maxRecDepth 100000 in
set_option maxHeartbeats 2000000 in
theorem rsends_any {b : Nat} (h : RRun b w B r f gb vw vs) (x : PIns) (lps : Int) (ha : mayReg x.a) (hb : mayReg x.b) (hc : mayReg x.c) (hd : 0 ≤ r.reg x.a) (hd' : r.reg x.a < lps) (hf : r.sent.length < 4) (hb0' : b = w0.heap.size) (hw0 : Gr w0 w) :
    Calls Try.prog 166 #[.pointer (some ⟨B, 0, none⟩), insV x, .int .i64 lps] w fun e w' => e = .returned (.int .i64 0) ∧ Gr w0 w' ∧ ∃ vs', RRun b w' B { r with sent := r.sent ++ [⟨r.reg x.a, r.reg x.b, r.reg x.c⟩] } f gb vw vs' := by
  obtain ⟨h0, h7⟩ := ha
  obtain ⟨hb0, hb7⟩ := hb
  obtain ⟨hc0, hc7⟩ := hc
  have hk : x.a < 8 := by omega
  have hk1 : x.b < 8 := by omega
  have hk2 : x.c < 8 := by omega
  have h' := h.gr ((Gr.refl w).alloc (.cells #[.int .i64 x.op, .int .i64 x.a, .int .i64 x.b, .int .i64 x.c] 34))
  have c1 := h'.cR x.a h0 h7
  have c1b := h'.cR x.b hb0 hb7
  have c1c := h'.cR x.c hc0 hc7
  have c2 := h'.cG
  have c3 := h'.cS
  obtain ⟨a, cap, rfl⟩ := h.sent.shape
  have hlt := h.lt
  have hlg := h.ltG
  have g0 : decide (r.reg x.a < 0) = false := by simpa using hd
  have g1 : decide (lps ≤ r.reg x.a) = false := by simpa using hd'
  have g2 : decide (4 ≤ (r.sent.length : Int)) = false := decide_eq_false (by omega)
  have hbB : w0.heap.size ≤ B := by have := h.bB; omega
  have H := Lib.hid h'
  have HW := Lib.hid (hw0.alloc (.cells #[.int .i64 x.op, .int .i64 x.a, .int .i64 x.b, .int .i64 x.c] 34))
  have hbase : b ≤ w.heap.size := by have := hw0.size; omega
  clear h h' hw0
  go_enter Try.func166, Try.ntmps166
  go_wp2
  go_quiet (fail)
  go_wp2
  have s1 : ((w.alloc (.cells #[.int .i64 x.op, .int .i64 x.a, .int .i64 x.b, .int .i64 x.c] 34)).drewN nq).cell? ⟨w.heap.size, 2, none⟩ = some (.int .i64 x.b) := by go_cell
  have s2 : ((w.alloc (.cells #[.int .i64 x.op, .int .i64 x.a, .int .i64 x.b, .int .i64 x.c] 34)).drewN nq).cell? ⟨w.heap.size, 3, none⟩ = some (.int .i64 x.c) := by go_cell
  have HX := Lib.hid ((Out.new (w := w) (T := 34) (cs := [.int .i64 x.op, .int .i64 x.a, .int .i64 x.b, .int .i64 x.c])).gr (((Gr.refl _).drewN nq).drew))
  have HR := Lib.hid (H.out.gr (((Gr.refl _).drewN nq).drew))
  have HG := Lib.hid ((HW.out.drewN nq).drew)
  have hlw : w.heap.size < ((w.alloc (.cells #[.int .i64 x.op, .int .i64 x.a, .int .i64 x.b, .int .i64 x.c] 34)).drewN nq).drew.heap.size := by simp
  refine start_ (n := 28) (S := fun W' => W'.cell? ⟨w.heap.size, 2, none⟩ = some (.int .i64 x.b) ∧ W'.cell? ⟨w.heap.size, 3, none⟩ = some (.int .i64 x.c) ∧ W'.cell? ⟨B, 2, none⟩ = some (.slice a r.sent.length cap) ∧ W'.cell? ⟨B, 0, none⟩ = some (.slice (some ⟨gb, 0, none⟩) 8 8) ∧ W'.cell? ⟨gb, x.b.toNat, none⟩ = some (.int .i64 (r.reg x.b)) ∧ W'.cell? ⟨gb, x.c.toNat, none⟩ = some (.int .i64 (r.reg x.c))) (ds := [27]) #[false, false, false, false, false, false, false, false, false, false, false, false, false, false, false, false, false, false, false, false, false, false, false, false, false, false, false, false] (by kernel_rfl) rfl rfl ⟨s1, s2, c3, c2, c1b, c1c⟩ (fun hHeld => ?_)
  generalize ((w.alloc (.cells #[.int .i64 x.op, .int .i64 x.a, .int .i64 x.b, .int .i64 x.c] 34)).drewN nq).drew = W at HX HR HG hlw hHeld ⊢
  refine pure_ (i := 0) (N := (some 29)) (v := ?_) (a' := ?_) #[true, false, false, false, false, false, false, false, false, false, false, false, false, false, false, false, false, false, false, false, false, false, false, false, false, false, false, false] rfl rfl (by kernel_rfl) (fun _ _ _ h => h) (Or.inl ⟨by rfl, ?_⟩) ?_ ?_
  rotate_left
  · intro w'
    go_simp
    with_reducible rfl
  rotate_left
  · simp only [Act.put, List.setIfInBounds_toArray, List.set_cons_zero, List.set_cons_succ]
    rfl
  refine pure_ (i := 1) (N := (some 30)) (v := ?_) (a' := ?_) #[true, true, false, false, false, false, false, false, false, false, false, false, false, false, false, false, false, false, false, false, false, false, false, false, false, false, false, false] rfl rfl (by kernel_rfl) (fun _ _ _ h => h) (Or.inl ⟨by rfl, ?_⟩) ?_ ?_
  rotate_left
  · intro w'
    go_simp
    with_reducible rfl
  rotate_left
  · simp only [Act.put, List.setIfInBounds_toArray, List.set_cons_zero, List.set_cons_succ]
    rfl
  refine pure_ (i := 2) (N := (some 31)) (v := ?_) (a' := ?_) #[true, true, true, false, false, false, false, false, false, false, false, false, false, false, false, false, false, false, false, false, false, false, false, false, false, false, false, false] rfl rfl (by kernel_rfl) (fun _ _ _ h => h) (Or.inl ⟨by rfl, ?_⟩) ?_ ?_
  rotate_left
  · intro w'
    go_simp
    with_reducible rfl
  rotate_left
  · simp only [Act.put, List.setIfInBounds_toArray, List.set_cons_zero, List.set_cons_succ]
    rfl
  refine pure_ (i := 3) (N := (some 32)) (v := ?_) (a' := ?_) #[true, true, true, true, false, false, false, false, false, false, false, false, false, false, false, false, false, false, false, false, false, false, false, false, false, false, false, false] rfl rfl (by kernel_rfl) (fun _ _ _ h => h) (Or.inl ⟨by rfl, ?_⟩) ?_ ?_
  rotate_left
  · intro w'
    go_simp
    with_reducible rfl
  rotate_left
  · simp only [Act.put, List.setIfInBounds_toArray, List.set_cons_zero, List.set_cons_succ]
    rfl
  refine take_ (i := 4) (N := (some 33)) (v := ?_) (a' := ?_) #[true, true, true, true, true, false, false, false, false, false, false, false, false, false, false, false, false, false, false, false, false, false, false, false, false, false, false, false] rfl rfl (by kernel_rfl) (fun _ _ _ h => h) (Or.inl ⟨by rfl, ?_⟩) hHeld ?_ ?_
  rotate_left
  · rintro w' ⟨hS0, hS1, hS2, hS3, hS4, hS5⟩
    go_simp
    with_reducible rfl
  rotate_left
  · simp only [Act.put, List.setIfInBounds_toArray, List.set_cons_zero, List.set_cons_succ]
    rfl
  refine pure_ (i := 5) (N := (some 34)) (v := ?_) (a' := ?_) #[true, true, true, true, true, true, false, false, false, false, false, false, false, false, false, false, false, false, false, false, false, false, false, false, false, false, false, false] rfl rfl (by kernel_rfl) (fun _ _ _ h => h) (Or.inl ⟨by rfl, ?_⟩) ?_ ?_
  rotate_left
  · intro w'
    go_simp
    with_reducible rfl
  rotate_left
  · simp only [Act.put, List.setIfInBounds_toArray, List.set_cons_zero, List.set_cons_succ]
    rfl
  refine pure_ (i := 6) (N := (some 35)) (v := ?_) (a' := ?_) #[true, true, true, true, true, true, true, false, false, false, false, false, false, false, false, false, false, false, false, false, false, false, false, false, false, false, false, false] rfl rfl (by kernel_rfl) (fun _ _ _ h => h) (Or.inl ⟨by rfl, ?_⟩) ?_ ?_
  rotate_left
  · intro w'
    go_simp
    with_reducible rfl
  rotate_left
  · simp only [Act.put, List.setIfInBounds_toArray, List.set_cons_zero, List.set_cons_succ]
    rfl
  refine pure_ (i := 7) (N := (some 36)) (v := ?_) (a' := ?_) #[true, true, true, true, true, true, true, true, false, false, false, false, false, false, false, false, false, false, false, false, false, false, false, false, false, false, false, false] rfl rfl (by kernel_rfl) (fun _ _ _ h => h) (Or.inl ⟨by rfl, ?_⟩) ?_ ?_
  rotate_left
  · intro w'
    go_simp
    with_reducible rfl
  rotate_left
  · simp only [Act.put, List.setIfInBounds_toArray, List.set_cons_zero, List.set_cons_succ]
    rfl
  refine pure_ (i := 8) (N := (some 37)) (v := ?_) (a' := ?_) #[true, true, true, true, true, true, true, true, true, false, false, false, false, false, false, false, false, false, false, false, false, false, false, false, false, false, false, false] rfl rfl (by kernel_rfl) (fun _ _ _ h => h) (Or.inl ⟨by rfl, ?_⟩) ?_ ?_
  rotate_left
  · intro w'
    go_simp
    with_reducible rfl
  rotate_left
  · simp only [Act.put, List.setIfInBounds_toArray, List.set_cons_zero, List.set_cons_succ]
    rfl
  refine take_ (i := 9) (N := (some 38)) (v := ?_) (a' := ?_) #[true, true, true, true, true, true, true, true, true, true, false, false, false, false, false, false, false, false, false, false, false, false, false, false, false, false, false, false] rfl rfl (by kernel_rfl) (fun _ _ _ h => h) (Or.inl ⟨by rfl, ?_⟩) hHeld ?_ ?_
  rotate_left
  · rintro w' ⟨hS0, hS1, hS2, hS3, hS4, hS5⟩
    go_simp
    with_reducible rfl
  rotate_left
  · simp only [Act.put, List.setIfInBounds_toArray, List.set_cons_zero, List.set_cons_succ]
    rfl
  refine pure_ (i := 10) (N := (some 39)) (v := ?_) (a' := ?_) #[true, true, true, true, true, true, true, true, true, true, true, false, false, false, false, false, false, false, false, false, false, false, false, false, false, false, false, false] rfl rfl (by kernel_rfl) (fun _ _ _ h => h) (Or.inl ⟨by rfl, ?_⟩) ?_ ?_
  rotate_left
  · intro w'
    go_simp
    with_reducible rfl
  rotate_left
  · simp only [Act.put, List.setIfInBounds_toArray, List.set_cons_zero, List.set_cons_succ]
    rfl
  refine take_ (i := 11) (N := (some 40)) (v := ?_) (a' := ?_) #[true, true, true, true, true, true, true, true, true, true, true, true, false, false, false, false, false, false, false, false, false, false, false, false, false, false, false, false] rfl rfl (by kernel_rfl) (fun _ _ _ h => h) (Or.inl ⟨by rfl, ?_⟩) hHeld ?_ ?_
  rotate_left
  · rintro w' ⟨hS0, hS1, hS2, hS3, hS4, hS5⟩
    go_simp
    with_reducible rfl
  rotate_left
  · simp only [Act.put, List.setIfInBounds_toArray, List.set_cons_zero, List.set_cons_succ]
    rfl
  refine pure_ (i := 12) (N := (some 41)) (v := ?_) (a' := ?_) #[true, true, true, true, true, true, true, true, true, true, true, true, true, false, false, false, false, false, false, false, false, false, false, false, false, false, false, false] rfl rfl (by kernel_rfl) (fun _ _ _ h => h) (Or.inl ⟨by rfl, ?_⟩) ?_ ?_
  rotate_left
  · intro w'
    go_simp
    with_reducible rfl
  rotate_left
  · simp only [Act.put, List.setIfInBounds_toArray, List.set_cons_zero, List.set_cons_succ]
    rfl
  refine take_ (i := 13) (N := (some 42)) (v := ?_) (a' := ?_) #[true, true, true, true, true, true, true, true, true, true, true, true, true, true, false, false, false, false, false, false, false, false, false, false, false, false, false, false] rfl rfl (by kernel_rfl) (fun _ _ _ h => h) (Or.inl ⟨by rfl, ?_⟩) hHeld ?_ ?_
  rotate_left
  · rintro w' ⟨hS0, hS1, hS2, hS3, hS4, hS5⟩
    go_simp
    with_reducible rfl
  rotate_left
  · simp only [Act.put, List.setIfInBounds_toArray, List.set_cons_zero, List.set_cons_succ]
    rfl
  refine pure_ (i := 14) (N := (some 43)) (v := ?_) (a' := ?_) #[true, true, true, true, true, true, true, true, true, true, true, true, true, true, true, false, false, false, false, false, false, false, false, false, false, false, false, false] rfl rfl (by kernel_rfl) (fun _ _ _ h => h) (Or.inl ⟨by rfl, ?_⟩) ?_ ?_
  rotate_left
  · intro w'
    go_simp
    with_reducible rfl
  rotate_left
  · simp only [Act.put, List.setIfInBounds_toArray, List.set_cons_zero, List.set_cons_succ]
    rfl
  refine pure_ (i := 15) (N := (some 44)) (v := ?_) (a' := ?_) #[true, true, true, true, true, true, true, true, true, true, true, true, true, true, true, true, false, false, false, false, false, false, false, false, false, false, false, false] rfl rfl (by kernel_rfl) (fun _ _ _ h => h) (Or.inl ⟨by rfl, ?_⟩) ?_ ?_
  rotate_left
  · intro w'
    go_simp
    with_reducible rfl
  rotate_left
  · simp only [Act.put, List.setIfInBounds_toArray, List.set_cons_zero, List.set_cons_succ]
    rfl
  refine pure_ (i := 16) (N := (some 45)) (v := ?_) (a' := ?_) #[true, true, true, true, true, true, true, true, true, true, true, true, true, true, true, true, true, false, false, false, false, false, false, false, false, false, false, false] rfl rfl (by kernel_rfl) (fun _ _ _ h => h) (Or.inl ⟨by rfl, ?_⟩) ?_ ?_
  rotate_left
  · intro w'
    go_simp
    with_reducible rfl
  rotate_left
  · simp only [Act.put, List.setIfInBounds_toArray, List.set_cons_zero, List.set_cons_succ]
    rfl
  refine take_ (i := 17) (N := (some 46)) (v := ?_) (a' := ?_) #[true, true, true, true, true, true, true, true, true, true, true, true, true, true, true, true, true, true, false, false, false, false, false, false, false, false, false, false] rfl rfl (by kernel_rfl) (fun _ _ _ h => h) (Or.inl ⟨by rfl, ?_⟩) hHeld ?_ ?_
  rotate_left
  · rintro w' ⟨hS0, hS1, hS2, hS3, hS4, hS5⟩
    go_simp
    with_reducible rfl
  rotate_left
  · simp only [Act.put, List.setIfInBounds_toArray, List.set_cons_zero, List.set_cons_succ]
    rfl
  refine pure_ (i := 18) (N := (some 47)) (v := ?_) (a' := ?_) #[true, true, true, true, true, true, true, true, true, true, true, true, true, true, true, true, true, true, true, false, false, false, false, false, false, false, false, false] rfl rfl (by kernel_rfl) (fun _ _ _ h => h) (Or.inl ⟨by rfl, ?_⟩) ?_ ?_
  rotate_left
  · intro w'
    go_simp
    with_reducible rfl
  rotate_left
  · simp only [Act.put, List.setIfInBounds_toArray, List.set_cons_zero, List.set_cons_succ]
    rfl
  refine take_ (i := 19) (N := (some 48)) (v := ?_) (a' := ?_) #[true, true, true, true, true, true, true, true, true, true, true, true, true, true, true, true, true, true, true, true, false, false, false, false, false, false, false, false] rfl rfl (by kernel_rfl) (fun _ _ _ h => h) (Or.inl ⟨by rfl, ?_⟩) hHeld ?_ ?_
  rotate_left
  · rintro w' ⟨hS0, hS1, hS2, hS3, hS4, hS5⟩
    go_simp
    with_reducible rfl
  rotate_left
  · simp only [Act.put, List.setIfInBounds_toArray, List.set_cons_zero, List.set_cons_succ]
    rfl
  refine pure_ (i := 20) (N := (some 49)) (v := ?_) (a' := ?_) #[true, true, true, true, true, true, true, true, true, true, true, true, true, true, true, true, true, true, true, true, true, false, false, false, false, false, false, false] rfl rfl (by kernel_rfl) (fun _ _ _ h => h) (Or.inl ⟨by rfl, ?_⟩) ?_ ?_
  rotate_left
  · intro w'
    go_simp
    with_reducible rfl
  rotate_left
  · simp only [Act.put, List.setIfInBounds_toArray, List.set_cons_zero, List.set_cons_succ]
    rfl
  refine take_ (i := 21) (N := (some 50)) (v := ?_) (a' := ?_) #[true, true, true, true, true, true, true, true, true, true, true, true, true, true, true, true, true, true, true, true, true, true, false, false, false, false, false, false] rfl rfl (by kernel_rfl) (fun _ _ _ h => h) (Or.inl ⟨by rfl, ?_⟩) hHeld ?_ ?_
  rotate_left
  · rintro w' ⟨hS0, hS1, hS2, hS3, hS4, hS5⟩
    go_simp
    with_reducible rfl
  rotate_left
  · simp only [Act.put, List.setIfInBounds_toArray, List.set_cons_zero, List.set_cons_succ]
    rfl
  refine pure_ (i := 22) (N := (some 51)) (v := ?_) (a' := ?_) #[true, true, true, true, true, true, true, true, true, true, true, true, true, true, true, true, true, true, true, true, true, true, true, false, false, false, false, false] rfl rfl (by kernel_rfl) (fun _ _ _ h => h) (Or.inl ⟨by rfl, ?_⟩) ?_ ?_
  rotate_left
  · intro w'
    go_simp
    with_reducible rfl
  rotate_left
  · simp only [Act.put, List.setIfInBounds_toArray, List.set_cons_zero, List.set_cons_succ]
    rfl
  refine one_ (i := 23) (N := (some 52)) #[true, true, true, true, true, true, true, true, true, true, true, true, true, true, true, true, true, true, true, true, true, true, true, true, false, false, false, false] rfl rfl (by kernel_rfl) (by decide) (fun K hK => ?_)
  refine value_ (v := ?_) (w1 := ?_) (by rfl) rfl ?_ ?_
  rotate_left 2
  · go_simp
    constructor <;> rfl
  refine hK.out _ _ ⟨Gr.cell ((Gr.refl _).alloc _) hHeld.1, Gr.cell ((Gr.refl _).alloc _) hHeld.2.1, Gr.cell ((Gr.refl _).alloc _) hHeld.2.2.1, Gr.cell ((Gr.refl _).alloc _) hHeld.2.2.2.1, Gr.cell ((Gr.refl _).alloc _) hHeld.2.2.2.2.1, Gr.cell ((Gr.refl _).alloc _) hHeld.2.2.2.2.2⟩ (fun hHeld => ?_)
  clear hK K
  refine one_ (i := 24) (N := (some 53)) #[true, true, true, true, true, true, true, true, true, true, true, true, true, true, true, true, true, true, true, true, true, true, true, true, true, false, false, false] rfl rfl (by kernel_rfl) (by decide) (fun K hK => ?_)
  refine one_append_list (some 53) rfl rfl _ _ 53 rfl b Try.underlying53 i60 rfl (by omega) (fun _ => rfl) (fun y u hu => by simp [sentC] at hu; rcases hu with rfl | rfl | rfl <;> rfl) _ _ rfl rfl r.sent [⟨r.reg x.a, r.reg x.b, r.reg x.c⟩] (HR.out.sent.gr ((Gr.refl _).alloc _))
    (Sl_one (fun j u hu => by match j with | 0 => simp [sentC] at hu; subst hu; go_cell | 1 => simp [sentC] at hu; subst hu; go_cell | 2 => simp [sentC] at hu; subst hu; go_cell | j + 3 => simp [sentC] at hu)) (by simp [maxLen]; omega) (by simp; omega) (by simp; omega) ?_
  intro v' w' o' g' lie'
  have hg1 : Gr w0 w' := Gr.grown (HG.out.alloc _) (HR.out.sent.gr ((Gr.refl _).alloc _)) (by omega) g'
  obtain ⟨hr1, hf1, hc1⟩ := (HR.out.gr ((Gr.refl _).alloc _)).sentGrown g' o'
  have hx' := (HX.out.gr ((Gr.refl _).alloc _)).grown (HR.out.sent.gr ((Gr.refl _).alloc _)) (by decide) g'
  have hb' := (HR.out.out.gr ((Gr.refl _).alloc _)).grown (HR.out.sent.gr ((Gr.refl _).alloc _)) (by decide) g'
  have hG' := (HR.out.G.gr ((Gr.refl _).alloc _)).grown (HR.out.sent.gr ((Gr.refl _).alloc _)) (by decide) g'
  have hS' := And.intro (hx'.cell (i := 2) rfl) (And.intro (hx'.cell (i := 3) rfl) (And.intro hc1 (And.intro (hb'.cell (i := 0) rfl) (And.intro (hG'.cell (regs_at HR.out.g8 x.b hb0 hb7)) (hG'.cell (regs_at HR.out.g8 x.c hc0 hc7))))))
  obtain ⟨a', c', rfl⟩ := o'.shape
  simp only [List.length_append, List.length_cons, List.length_nil, Nat.zero_add] at hr1
  have HG1 := Lib.hid hg1
  have HR1 := Lib.hid hr1
  clear o' lie' g' hg1 hr1 hx' hb' hG'
  refine hK.out _ _ hS' (fun hHeld => ?_)
  clear hK K hS'
  refine pure_ (i := 25) (N := (some 54)) (v := ?_) (a' := ?_) #[true, true, true, true, true, true, true, true, true, true, true, true, true, true, true, true, true, true, true, true, true, true, true, true, true, true, false, false] rfl rfl (by kernel_rfl) (fun _ _ _ h => h) (Or.inl ⟨by rfl, ?_⟩) ?_ ?_
  rotate_left
  · intro w'
    go_simp
    with_reducible rfl
  rotate_left
  · simp only [Act.put, List.setIfInBounds_toArray, List.set_cons_zero, List.set_cons_succ]
    rfl
  refine pure_ (i := 26) (N := (some 55)) (v := ?_) (a' := ?_) #[true, true, true, true, true, true, true, true, true, true, true, true, true, true, true, true, true, true, true, true, true, true, true, true, true, true, true, false] rfl rfl (by kernel_rfl) (fun _ _ _ h => h) (Or.inl ⟨by rfl, ?_⟩) ?_ ?_
  rotate_left
  · intro w'
    go_simp
    with_reducible rfl
  rotate_left
  · simp only [Act.put, List.setIfInBounds_toArray, List.set_cons_zero, List.set_cons_succ]
    rfl
  refine last_ (i := 27) (N := none) #[true, true, true, true, true, true, true, true, true, true, true, true, true, true, true, true, true, true, true, true, true, true, true, true, true, true, true, true] rfl rfl (by kernel_rfl) (by decide) (fun K hK => ?_)
  refine skip_ (w1 := ?_) (by rfl) rfl ?_ ?_
  rotate_left
  · go_simp
    rfl
  refine hK.out _ _ ?_
  clear hK K
  refine done_ (by kernel_rfl) ?_
  go_wp2
  go_ret
  exact ⟨rfl, HG1.out.setCell (p := ⟨B, 2, none⟩) hbB _, _, HR1.out⟩
end
end Go.Proofs.Ytkoopobfelcgpaa
