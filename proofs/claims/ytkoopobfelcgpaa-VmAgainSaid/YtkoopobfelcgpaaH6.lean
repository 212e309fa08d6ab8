/- layer 7: a step: dice, words -/
import Derived.Test.YtkoopobfelcgpaaH5
set_option linter.unusedSimpArgs false
set_option linter.unusedVariables false
namespace Go.Proofs.Ytkoopobfelcgpaa
open Go.RowKit Go.Proofs.YtkoopobfelcgpaaW.PrintLast
section
variable {F : Option Nat} {w : World} {B : Nat} {vp : Value} {lps z : Int} {r : VR} {D : Nat} {vw vs : Value} {w0 : World} {p : List PIns}
-- SECOND
set_option maxRecDepth 100000 in
set_option maxHeartbeats 1000000 in
theorem stepRollBad_any (h : RunAt F w0.heap.size w B vp lps z r D vw vs) (hw0 : Gr w0 w) (hp : Sl 4 InsAt w0 vp p) (hm : r.may p) (he : r.pc < (p.length : Int)) (hn : r.n < 120) (xa xb xc : Int) (hx : p[r.pc.toNat]? = some ⟨11, xa, xb, xc⟩) (hb : mayReg xb) (h1 : r.next.reg xb < 1) :
    Calls Try.prog 163 #[.pointer (some ⟨B, 0, none⟩)] w fun e w' => e = faultP 4 ∧ Gr w0 w' ∧ RunAt F w0.heap.size w' B vp lps z r.next D vw vs := by
  obtain ⟨a, cap, rfl, hpc, hpm, -, hpe⟩ := hp
  unfold maxLen at hpm
  obtain ⟨q, o, rfl, x0, x1, x2, x3⟩ := hpe _ _ hx
  have X := Lib.hid (show InsAt w0 q (o + r.pc.toNat * 4) ⟨11, xa, xb, xc⟩ from ⟨x0, x1, x2, x3⟩)
  clear x0 x1 x2 x3
  have hm0 := hm.pc0
  have hm1 := hm.n0
  have c0 := h.c0
  have cP := h.cP
  have cN := h.cN
  have fP := h.free 13
  have fN := h.free 14
  have hlt := h.lt
  have H := Lib.hid h
  have HW := Lib.hid hw0
  have hbB : w0.heap.size ≤ B := h.bB
  have g0 : decide ((p.length : Int) ≤ r.pc) = false := by simpa using he
  have g1 : decide (r.n < 120) = true := by simpa using hn
  clear h hw0 hpe
  go_enter Try.func163, Try.ntmps163
  go_wp2
  go_quiet (fail)
  go_wp2_with (go_at_call 179; refine (needOk_any _ _).mono ?_; rintro e w' ⟨rfl, rfl⟩)
  have HW1 := Lib.hid ((HW.out.drewN nq).setCell (p := ⟨B, 14, none⟩) hbB (.int .i64 (r.n + 1)))
  have H1 := Lib.hid ((H.out.gr ((Gr.refl _).drewN nq)).setN (r.n + 1))
  clear c0 cP cN fP fN hlt
  have x0 := HW1.out.cell X.out.1
  have x1 := HW1.out.cell X.out.2.1
  have x2 := HW1.out.cell X.out.2.2.1
  have x3 := HW1.out.cell X.out.2.2.2
  have c0 := H1.out.c0
  have cP := H1.out.cP
  have fP := H1.out.free 13
  have hlt := H1.out.lt
  have hql := lt_of_cell x0
  simp only [] at hql
  generalize (w.drewN nq).setCell ⟨B, 14, none⟩ (.int .i64 (r.n + 1)) = W1 at HW1 H1 x0 x1 x2 x3 c0 cP fP hlt hql ⊢
  clear hx hm
  go_region
  have hsz : (W1.setCell ⟨B, 13, none⟩ (.int .i64 (r.pc + 1))).heap.size = W1.heap.size := by simp [World.setCell]
  have HW2 := Lib.hid (((HW1.out.setCell (p := ⟨B, 13, none⟩) hbB (.int .i64 (r.pc + 1))).alloc (.cells #[.int .i64 11, .int .i64 xa, .int .i64 xb, .int .i64 xc] 34)).drew)
  have H2 := Lib.hid (show RunAt F w0.heap.size _ B _ lps z r.next D vw vs from ((H1.out.setPc (r.pc + 1)).gr (((Gr.refl _).alloc (.cells #[.int .i64 11, .int .i64 xa, .int .i64 xb, .int .i64 xc] 34)).drew)))
  have HX2 := Lib.hid ((Out.new (w := W1.setCell ⟨B, 13, none⟩ (.int .i64 (r.pc + 1))) (T := 34) (cs := [.int .i64 11, .int .i64 xa, .int .i64 xb, .int .i64 xc])).drew)
  rw [hsz] at HX2
  clear hsz
  go_wp2
  clear x0 x1 x2 x3 c0 cP fP hlt hql
  have x1 := HX2.out.cell (i := 1) rfl
  have x2 := HX2.out.cell (i := 2) rfl
  have x3 := HX2.out.cell (i := 3) rfl
  have x0 := HX2.out.cell (i := 0) rfl
  generalize ((W1.setCell ⟨B, 13, none⟩ (.int .i64 (r.pc + 1))).alloc (.cells #[.int .i64 11, .int .i64 xa, .int .i64 xb, .int .i64 xc] 34)).drew = W2 at HW2 H2 HX2 x0 x1 x2 x3 ⊢
  obtain ⟨b0, b7⟩ := hb
  have hb8 : xb < 8 := by omega
  have rb := H2.out.cR xb b0 b7
  have cD := H2.out.cD
  go_quiet ((go_at_call 180; exact Calls.quiet_of_same ((nextBad_any D _ h1 _).mono fun _ _ ⟨h1, h2⟩ => ⟨h1, h2.symm⟩)))
  go_wp2_with (go_at_call 179; refine (needBad_any _ _).mono ?_; rintro e w' ⟨rfl, rfl⟩)
  exact ⟨rfl, rfl, HW2.out.drewN _, H2.out.gr ((Gr.refl _).drewN _)⟩
set_option maxRecDepth 100000 in
set_option maxHeartbeats 1000000 in
theorem stepLoadBad_any (h : RunAt F w0.heap.size w B vp lps z r D vw vs) (hw0 : Gr w0 w) (hp : Sl 4 InsAt w0 vp p) (hm : r.may p) (he : r.pc < (p.length : Int)) (hn : r.n < 120) (xa xb xc : Int) (hx : p[r.pc.toNat]? = some ⟨13, xa, xb, xc⟩) (hb : mayReg xb) (hi : r.next.reg xb < 0 ∨ (r.next.w.length : Int) ≤ r.next.reg xb) :
    Calls Try.prog 163 #[.pointer (some ⟨B, 0, none⟩)] w fun e w' => e = faultP 3 ∧ Gr w0 w' ∧ RunAt F w0.heap.size w' B vp lps z r.next D vw vs := by
  obtain ⟨a, cap, rfl, hpc, hpm, -, hpe⟩ := hp
  unfold maxLen at hpm
  obtain ⟨q, o, rfl, x0, x1, x2, x3⟩ := hpe _ _ hx
  have X := Lib.hid (show InsAt w0 q (o + r.pc.toNat * 4) ⟨13, xa, xb, xc⟩ from ⟨x0, x1, x2, x3⟩)
  clear x0 x1 x2 x3
  have hm0 := hm.pc0
  have hm1 := hm.n0
  have c0 := h.c0
  have cP := h.cP
  have cN := h.cN
  have fP := h.free 13
  have fN := h.free 14
  have hlt := h.lt
  have H := Lib.hid h
  have HW := Lib.hid hw0
  have hbB : w0.heap.size ≤ B := h.bB
  have g0 : decide ((p.length : Int) ≤ r.pc) = false := by simpa using he
  have g1 : decide (r.n < 120) = true := by simpa using hn
  clear h hw0 hpe
  go_enter Try.func163, Try.ntmps163
  go_wp2
  go_quiet (fail)
  go_wp2_with (go_at_call 179; refine (needOk_any _ _).mono ?_; rintro e w' ⟨rfl, rfl⟩)
  have HW1 := Lib.hid ((HW.out.drewN nq).setCell (p := ⟨B, 14, none⟩) hbB (.int .i64 (r.n + 1)))
  have H1 := Lib.hid ((H.out.gr ((Gr.refl _).drewN nq)).setN (r.n + 1))
  clear c0 cP cN fP fN hlt
  have x0 := HW1.out.cell X.out.1
  have x1 := HW1.out.cell X.out.2.1
  have x2 := HW1.out.cell X.out.2.2.1
  have x3 := HW1.out.cell X.out.2.2.2
  have c0 := H1.out.c0
  have cP := H1.out.cP
  have fP := H1.out.free 13
  have hlt := H1.out.lt
  have hql := lt_of_cell x0
  simp only [] at hql
  generalize (w.drewN nq).setCell ⟨B, 14, none⟩ (.int .i64 (r.n + 1)) = W1 at HW1 H1 x0 x1 x2 x3 c0 cP fP hlt hql ⊢
  clear hx hm
  go_region
  have hsz : (W1.setCell ⟨B, 13, none⟩ (.int .i64 (r.pc + 1))).heap.size = W1.heap.size := by simp [World.setCell]
  have HW2 := Lib.hid (((HW1.out.setCell (p := ⟨B, 13, none⟩) hbB (.int .i64 (r.pc + 1))).alloc (.cells #[.int .i64 13, .int .i64 xa, .int .i64 xb, .int .i64 xc] 34)).drew)
  have H2 := Lib.hid (show RunAt F w0.heap.size _ B _ lps z r.next D vw vs from ((H1.out.setPc (r.pc + 1)).gr (((Gr.refl _).alloc (.cells #[.int .i64 13, .int .i64 xa, .int .i64 xb, .int .i64 xc] 34)).drew)))
  have HX2 := Lib.hid ((Out.new (w := W1.setCell ⟨B, 13, none⟩ (.int .i64 (r.pc + 1))) (T := 34) (cs := [.int .i64 13, .int .i64 xa, .int .i64 xb, .int .i64 xc])).drew)
  rw [hsz] at HX2
  clear hsz
  go_wp2
  clear x0 x1 x2 x3 c0 cP fP hlt hql
  have x1 := HX2.out.cell (i := 1) rfl
  have x2 := HX2.out.cell (i := 2) rfl
  have x3 := HX2.out.cell (i := 3) rfl
  have x0 := HX2.out.cell (i := 0) rfl
  generalize ((W1.setCell ⟨B, 13, none⟩ (.int .i64 (r.pc + 1))).alloc (.cells #[.int .i64 13, .int .i64 xa, .int .i64 xb, .int .i64 xc] 34)).drew = W2 at HW2 H2 HX2 x0 x1 x2 x3 ⊢
  obtain ⟨b0, b7⟩ := hb
  have hb8 : xb < 8 := by omega
  have rb := H2.out.cR xb b0 b7
  refine start_ (n := 13) (S := fun W' => W'.cell? ⟨W1.heap.size, 1, none⟩ = some (.int .i64 xa) ∧ W'.cell? ⟨W1.heap.size, 2, none⟩ = some (.int .i64 xb)) (ds := []) #[false, false, false, false, false, false, false, false, false, false, false, false, false] (by kernel_rfl) rfl rfl ⟨x1, x2⟩ (fun hHeld => ?_)
  refine pure_ (i := 0) (N := (some 133)) (v := ?_) (a' := ?_) #[true, false, false, false, false, false, false, false, false, false, false, false, false] rfl rfl (by kernel_rfl) (fun _ _ _ h => h) (Or.inl ⟨by rfl, ?_⟩) ?_ ?_
  rotate_left
  · intro w'
    go_simp
    with_reducible rfl
  rotate_left
  · simp only [Act.put, List.setIfInBounds_toArray, List.set_cons_zero, List.set_cons_succ]
    rfl
  refine pure_ (i := 1) (N := (some 134)) (v := ?_) (a' := ?_) #[true, true, false, false, false, false, false, false, false, false, false, false, false] rfl rfl (by kernel_rfl) (fun _ _ _ h => h) (Or.inl ⟨by rfl, ?_⟩) ?_ ?_
  rotate_left
  · intro w'
    go_simp
    with_reducible rfl
  rotate_left
  · simp only [Act.put, List.setIfInBounds_toArray, List.set_cons_zero, List.set_cons_succ]
    rfl
  refine take_ (i := 2) (N := (some 135)) (v := ?_) (a' := ?_) #[true, true, true, false, false, false, false, false, false, false, false, false, false] rfl rfl (by kernel_rfl) (fun _ _ _ h => h) (Or.inl ⟨by rfl, ?_⟩) hHeld ?_ ?_
  rotate_left
  · rintro w' ⟨hS0, hS1⟩
    go_simp
    with_reducible rfl
  rotate_left
  · simp only [Act.put, List.setIfInBounds_toArray, List.set_cons_zero, List.set_cons_succ]
    rfl
  refine pure_ (i := 3) (N := (some 136)) (v := ?_) (a' := ?_) #[true, true, true, true, false, false, false, false, false, false, false, false, false] rfl rfl (by kernel_rfl) (fun _ _ _ h => h) (Or.inl ⟨by rfl, ?_⟩) ?_ ?_
  rotate_left
  · intro w'
    go_simp
    with_reducible rfl
  rotate_left
  · simp only [Act.put, List.setIfInBounds_toArray, List.set_cons_zero, List.set_cons_succ]
    rfl
  refine pure_ (i := 4) (N := (some 137)) (v := ?_) (a' := ?_) #[true, true, true, true, true, false, false, false, false, false, false, false, false] rfl rfl (by kernel_rfl) (fun _ _ _ h => h) (Or.inl ⟨by rfl, ?_⟩) ?_ ?_
  rotate_left
  · intro w'
    go_simp
    with_reducible rfl
  rotate_left
  · simp only [Act.put, List.setIfInBounds_toArray, List.set_cons_zero, List.set_cons_succ]
    rfl
  refine take_ (i := 5) (N := (some 138)) (v := ?_) (a' := ?_) #[true, true, true, true, true, true, false, false, false, false, false, false, false] rfl rfl (by kernel_rfl) (fun _ _ _ h => h) (Or.inl ⟨by rfl, ?_⟩) hHeld ?_ ?_
  rotate_left
  · rintro w' ⟨hS0, hS1⟩
    go_simp
    with_reducible rfl
  rotate_left
  · simp only [Act.put, List.setIfInBounds_toArray, List.set_cons_zero, List.set_cons_succ]
    rfl
  refine pure_ (i := 9) (N := (some 142)) (v := ?_) (a' := ?_) #[true, true, true, true, true, true, false, false, false, true, false, false, false] rfl rfl (by kernel_rfl) (fun _ _ _ h => h) (Or.inl ⟨by rfl, ?_⟩) ?_ ?_
  rotate_left
  · intro w'
    go_simp
    with_reducible rfl
  rotate_left
  · simp only [Act.put, List.setIfInBounds_toArray, List.set_cons_zero, List.set_cons_succ]
    rfl
  refine pure_ (i := 10) (N := (some 143)) (v := ?_) (a' := ?_) #[true, true, true, true, true, true, false, false, false, true, true, false, false] rfl rfl (by kernel_rfl) (fun _ _ _ h => h) (Or.inl ⟨by rfl, ?_⟩) ?_ ?_
  rotate_left
  · intro w'
    go_simp
    with_reducible rfl
  rotate_left
  · simp only [Act.put, List.setIfInBounds_toArray, List.set_cons_zero, List.set_cons_succ]
    rfl
  refine one_ (i := 6) (N := (some 139)) #[true, true, true, true, true, true, true, false, false, true, true, false, false] rfl rfl (by kernel_rfl) (by decide) (fun K hK => ?_)
  go_simp
  go_at_call 182
  refine (wordBad_any (H2.out.gr (Gr.refl _).drew) xb b0 b7 hi).mono ?_
  rintro e w' ⟨rfl, rfl⟩
  exact ⟨rfl, rfl, HW2.out.drew, H2.out.gr ((Gr.refl _).drew)⟩
set_option maxRecDepth 100000 in
set_option maxHeartbeats 1000000 in
theorem stepLoad_any (h : RunAt F w0.heap.size w B vp lps z r D vw vs) (hw0 : Gr w0 w) (hp : Sl 4 InsAt w0 vp p) (hm : r.may p) (he : r.pc < (p.length : Int)) (hn : r.n < 120) (xa xb xc : Int) (hx : p[r.pc.toNat]? = some ⟨13, xa, xb, xc⟩) (ha : mayReg xa) (hb : mayReg xb) (hi : 0 ≤ r.next.reg xb) (hl : r.next.reg xb < (r.next.w.length : Int)) :
    Calls Try.prog 163 #[.pointer (some ⟨B, 0, none⟩)] w fun e w' => e = .returned (.bool true) ∧ Gr w0 w' ∧ RunAt F w0.heap.size w' B vp lps z (r.next.out xa (r.next.word (r.next.reg xb))) D vw vs := by
  obtain ⟨a, cap, rfl, hpc, hpm, -, hpe⟩ := hp
  unfold maxLen at hpm
  obtain ⟨q, o, rfl, x0, x1, x2, x3⟩ := hpe _ _ hx
  have X := Lib.hid (show InsAt w0 q (o + r.pc.toNat * 4) ⟨13, xa, xb, xc⟩ from ⟨x0, x1, x2, x3⟩)
  clear x0 x1 x2 x3
  have hm0 := hm.pc0
  have hm1 := hm.n0
  have c0 := h.c0
  have cP := h.cP
  have cN := h.cN
  have fP := h.free 13
  have fN := h.free 14
  have hlt := h.lt
  have H := Lib.hid h
  have HW := Lib.hid hw0
  have hbB : w0.heap.size ≤ B := h.bB
  have g0 : decide ((p.length : Int) ≤ r.pc) = false := by simpa using he
  have g1 : decide (r.n < 120) = true := by simpa using hn
  clear h hw0 hpe
  go_enter Try.func163, Try.ntmps163
  go_wp2
  go_quiet (fail)
  go_wp2_with (go_at_call 179; refine (needOk_any _ _).mono ?_; rintro e w' ⟨rfl, rfl⟩)
  have HW1 := Lib.hid ((HW.out.drewN nq).setCell (p := ⟨B, 14, none⟩) hbB (.int .i64 (r.n + 1)))
  have H1 := Lib.hid ((H.out.gr ((Gr.refl _).drewN nq)).setN (r.n + 1))
  clear c0 cP cN fP fN hlt
  have x0 := HW1.out.cell X.out.1
  have x1 := HW1.out.cell X.out.2.1
  have x2 := HW1.out.cell X.out.2.2.1
  have x3 := HW1.out.cell X.out.2.2.2
  have c0 := H1.out.c0
  have cP := H1.out.cP
  have fP := H1.out.free 13
  have hlt := H1.out.lt
  have hql := lt_of_cell x0
  simp only [] at hql
  generalize (w.drewN nq).setCell ⟨B, 14, none⟩ (.int .i64 (r.n + 1)) = W1 at HW1 H1 x0 x1 x2 x3 c0 cP fP hlt hql ⊢
  clear hx hm
  go_region
  have hsz : (W1.setCell ⟨B, 13, none⟩ (.int .i64 (r.pc + 1))).heap.size = W1.heap.size := by simp [World.setCell]
  have HW2 := Lib.hid (((HW1.out.setCell (p := ⟨B, 13, none⟩) hbB (.int .i64 (r.pc + 1))).alloc (.cells #[.int .i64 13, .int .i64 xa, .int .i64 xb, .int .i64 xc] 34)).drew)
  have H2 := Lib.hid (show RunAt F w0.heap.size _ B _ lps z r.next D vw vs from ((H1.out.setPc (r.pc + 1)).gr (((Gr.refl _).alloc (.cells #[.int .i64 13, .int .i64 xa, .int .i64 xb, .int .i64 xc] 34)).drew)))
  have HX2 := Lib.hid ((Out.new (w := W1.setCell ⟨B, 13, none⟩ (.int .i64 (r.pc + 1))) (T := 34) (cs := [.int .i64 13, .int .i64 xa, .int .i64 xb, .int .i64 xc])).drew)
  rw [hsz] at HX2
  clear hsz
  go_wp2
  clear x0 x1 x2 x3 c0 cP fP hlt hql
  have x1 := HX2.out.cell (i := 1) rfl
  have x2 := HX2.out.cell (i := 2) rfl
  have x3 := HX2.out.cell (i := 3) rfl
  have x0 := HX2.out.cell (i := 0) rfl
  generalize ((W1.setCell ⟨B, 13, none⟩ (.int .i64 (r.pc + 1))).alloc (.cells #[.int .i64 13, .int .i64 xa, .int .i64 xb, .int .i64 xc] 34)).drew = W2 at HW2 H2 HX2 x0 x1 x2 x3 ⊢
  obtain ⟨a0, a7⟩ := ha
  have ha8 : xa < 8 := by omega
  have ra := H2.out.cR xa a0 a7
  obtain ⟨b0, b7⟩ := hb
  have hb8 : xb < 8 := by omega
  have rb := H2.out.cR xb b0 b7
  have fa := H2.out.free (1 + xa.toNat)
  obtain ⟨ga, ma, rfl, cw, fw, hbg, nB, nD⟩ := H2.out.wordCell _ hi hl
  go_region_with (go_at_call 182; refine (wordAt_any ga ma (H2.out.gr (Gr.refl _).drew) xb b0 b7 hi hl).mono ?_; rintro e w' ⟨rfl, rfl⟩)
  all_goals go_wp2
  all_goals go_ret
  all_goals exact ⟨rfl, (HW2.out.setCell hbB _).drew, (H2.out.setReg xa a0 a7 _).gr (Gr.refl _).drew⟩
set_option maxRecDepth 100000 in
set_option maxHeartbeats 1000000 in
theorem stepStoreBad_any (h : RunAt F w0.heap.size w B vp lps z r D vw vs) (hw0 : Gr w0 w) (hp : Sl 4 InsAt w0 vp p) (hm : r.may p) (he : r.pc < (p.length : Int)) (hn : r.n < 120) (xa xb xc : Int) (hx : p[r.pc.toNat]? = some ⟨14, xa, xb, xc⟩) (ha : mayReg xa) (hb : mayReg xb) (hi : r.next.reg xa < 0 ∨ (r.next.w.length : Int) ≤ r.next.reg xa) :
    Calls Try.prog 163 #[.pointer (some ⟨B, 0, none⟩)] w fun e w' => e = faultP 3 ∧ Gr w0 w' ∧ RunAt F w0.heap.size w' B vp lps z r.next D vw vs := by
  obtain ⟨a, cap, rfl, hpc, hpm, -, hpe⟩ := hp
  unfold maxLen at hpm
  obtain ⟨q, o, rfl, x0, x1, x2, x3⟩ := hpe _ _ hx
  have X := Lib.hid (show InsAt w0 q (o + r.pc.toNat * 4) ⟨14, xa, xb, xc⟩ from ⟨x0, x1, x2, x3⟩)
  clear x0 x1 x2 x3
  have hm0 := hm.pc0
  have hm1 := hm.n0
  have c0 := h.c0
  have cP := h.cP
  have cN := h.cN
  have fP := h.free 13
  have fN := h.free 14
  have hlt := h.lt
  have H := Lib.hid h
  have HW := Lib.hid hw0
  have hbB : w0.heap.size ≤ B := h.bB
  have g0 : decide ((p.length : Int) ≤ r.pc) = false := by simpa using he
  have g1 : decide (r.n < 120) = true := by simpa using hn
  clear h hw0 hpe
  go_enter Try.func163, Try.ntmps163
  go_wp2
  go_quiet (fail)
  go_wp2_with (go_at_call 179; refine (needOk_any _ _).mono ?_; rintro e w' ⟨rfl, rfl⟩)
  have HW1 := Lib.hid ((HW.out.drewN nq).setCell (p := ⟨B, 14, none⟩) hbB (.int .i64 (r.n + 1)))
  have H1 := Lib.hid ((H.out.gr ((Gr.refl _).drewN nq)).setN (r.n + 1))
  clear c0 cP cN fP fN hlt
  have x0 := HW1.out.cell X.out.1
  have x1 := HW1.out.cell X.out.2.1
  have x2 := HW1.out.cell X.out.2.2.1
  have x3 := HW1.out.cell X.out.2.2.2
  have c0 := H1.out.c0
  have cP := H1.out.cP
  have fP := H1.out.free 13
  have hlt := H1.out.lt
  have hql := lt_of_cell x0
  simp only [] at hql
  generalize (w.drewN nq).setCell ⟨B, 14, none⟩ (.int .i64 (r.n + 1)) = W1 at HW1 H1 x0 x1 x2 x3 c0 cP fP hlt hql ⊢
  clear hx hm
  go_region
  have hsz : (W1.setCell ⟨B, 13, none⟩ (.int .i64 (r.pc + 1))).heap.size = W1.heap.size := by simp [World.setCell]
  have HW2 := Lib.hid (((HW1.out.setCell (p := ⟨B, 13, none⟩) hbB (.int .i64 (r.pc + 1))).alloc (.cells #[.int .i64 14, .int .i64 xa, .int .i64 xb, .int .i64 xc] 34)).drew)
  have H2 := Lib.hid (show RunAt F w0.heap.size _ B _ lps z r.next D vw vs from ((H1.out.setPc (r.pc + 1)).gr (((Gr.refl _).alloc (.cells #[.int .i64 14, .int .i64 xa, .int .i64 xb, .int .i64 xc] 34)).drew)))
  have HX2 := Lib.hid ((Out.new (w := W1.setCell ⟨B, 13, none⟩ (.int .i64 (r.pc + 1))) (T := 34) (cs := [.int .i64 14, .int .i64 xa, .int .i64 xb, .int .i64 xc])).drew)
  rw [hsz] at HX2
  clear hsz
  go_wp2
  clear x0 x1 x2 x3 c0 cP fP hlt hql
  have x1 := HX2.out.cell (i := 1) rfl
  have x2 := HX2.out.cell (i := 2) rfl
  have x3 := HX2.out.cell (i := 3) rfl
  have x0 := HX2.out.cell (i := 0) rfl
  generalize ((W1.setCell ⟨B, 13, none⟩ (.int .i64 (r.pc + 1))).alloc (.cells #[.int .i64 14, .int .i64 xa, .int .i64 xb, .int .i64 xc] 34)).drew = W2 at HW2 H2 HX2 x0 x1 x2 x3 ⊢
  obtain ⟨a0, a7⟩ := ha
  have ha8 : xa < 8 := by omega
  have ra := H2.out.cR xa a0 a7
  obtain ⟨b0, b7⟩ := hb
  have hb8 : xb < 8 := by omega
  have rb := H2.out.cR xb b0 b7
  refine start_ (n := 13) (S := fun W' => W'.cell? ⟨W1.heap.size, 1, none⟩ = some (.int .i64 xa) ∧ W'.cell? ⟨W1.heap.size, 2, none⟩ = some (.int .i64 xb) ∧ W'.cell? ⟨B, 1 + xb.toNat, none⟩ = some (.int .i64 (r.next.reg xb))) (ds := []) #[false, false, false, false, false, false, false, false, false, false, false, false, false] (by kernel_rfl) rfl rfl ⟨x1, x2, rb⟩ (fun hHeld => ?_)
  refine pure_ (i := 0) (N := (some 147)) (v := ?_) (a' := ?_) #[true, false, false, false, false, false, false, false, false, false, false, false, false] rfl rfl (by kernel_rfl) (fun _ _ _ h => h) (Or.inl ⟨by rfl, ?_⟩) ?_ ?_
  rotate_left
  · intro w'
    go_simp
    with_reducible rfl
  rotate_left
  · simp only [Act.put, List.setIfInBounds_toArray, List.set_cons_zero, List.set_cons_succ]
    rfl
  refine pure_ (i := 1) (N := (some 148)) (v := ?_) (a' := ?_) #[true, true, false, false, false, false, false, false, false, false, false, false, false] rfl rfl (by kernel_rfl) (fun _ _ _ h => h) (Or.inl ⟨by rfl, ?_⟩) ?_ ?_
  rotate_left
  · intro w'
    go_simp
    with_reducible rfl
  rotate_left
  · simp only [Act.put, List.setIfInBounds_toArray, List.set_cons_zero, List.set_cons_succ]
    rfl
  refine take_ (i := 2) (N := (some 149)) (v := ?_) (a' := ?_) #[true, true, true, false, false, false, false, false, false, false, false, false, false] rfl rfl (by kernel_rfl) (fun _ _ _ h => h) (Or.inl ⟨by rfl, ?_⟩) hHeld ?_ ?_
  rotate_left
  · rintro w' ⟨hS0, hS1, hS2⟩
    go_simp
    with_reducible rfl
  rotate_left
  · simp only [Act.put, List.setIfInBounds_toArray, List.set_cons_zero, List.set_cons_succ]
    rfl
  refine pure_ (i := 4) (N := (some 151)) (v := ?_) (a' := ?_) #[true, true, true, false, true, false, false, false, false, false, false, false, false] rfl rfl (by kernel_rfl) (fun _ _ _ h => h) (Or.inl ⟨by rfl, ?_⟩) ?_ ?_
  rotate_left
  · intro w'
    go_simp
    with_reducible rfl
  rotate_left
  · simp only [Act.put, List.setIfInBounds_toArray, List.set_cons_zero, List.set_cons_succ]
    rfl
  refine pure_ (i := 5) (N := (some 152)) (v := ?_) (a' := ?_) #[true, true, true, false, true, true, false, false, false, false, false, false, false] rfl rfl (by kernel_rfl) (fun _ _ _ h => h) (Or.inl ⟨by rfl, ?_⟩) ?_ ?_
  rotate_left
  · intro w'
    go_simp
    with_reducible rfl
  rotate_left
  · simp only [Act.put, List.setIfInBounds_toArray, List.set_cons_zero, List.set_cons_succ]
    rfl
  refine take_ (i := 6) (N := (some 153)) (v := ?_) (a' := ?_) #[true, true, true, false, true, true, true, false, false, false, false, false, false] rfl rfl (by kernel_rfl) (fun _ _ _ h => h) (Or.inl ⟨by rfl, ?_⟩) hHeld ?_ ?_
  rotate_left
  · rintro w' ⟨hS0, hS1, hS2⟩
    go_simp
    with_reducible rfl
  rotate_left
  · simp only [Act.put, List.setIfInBounds_toArray, List.set_cons_zero, List.set_cons_succ]
    rfl
  refine pure_ (i := 7) (N := (some 154)) (v := ?_) (a' := ?_) #[true, true, true, false, true, true, true, true, false, false, false, false, false] rfl rfl (by kernel_rfl) (fun _ _ _ h => h) (Or.inl ⟨by rfl, ?_⟩) ?_ ?_
  rotate_left
  · intro w'
    go_simp
    with_reducible rfl
  rotate_left
  · simp only [Act.put, List.setIfInBounds_toArray, List.set_cons_zero, List.set_cons_succ]
    rfl
  refine pure_ (i := 8) (N := (some 155)) (v := ?_) (a' := ?_) #[true, true, true, false, true, true, true, true, true, false, false, false, false] rfl rfl (by kernel_rfl) (fun _ _ _ h => h) (Or.inl ⟨by rfl, ?_⟩) ?_ ?_
  rotate_left
  · intro w'
    go_simp
    with_reducible rfl
  rotate_left
  · simp only [Act.put, List.setIfInBounds_toArray, List.set_cons_zero, List.set_cons_succ]
    rfl
  refine pure_ (i := 9) (N := (some 156)) (v := ?_) (a' := ?_) #[true, true, true, false, true, true, true, true, true, true, false, false, false] rfl rfl (by kernel_rfl) (fun _ _ _ h => h) (Or.inl ⟨by rfl, ?_⟩) ?_ ?_
  rotate_left
  · intro w'
    go_simp
    with_reducible rfl
  rotate_left
  · simp only [Act.put, List.setIfInBounds_toArray, List.set_cons_zero, List.set_cons_succ]
    rfl
  refine take_ (i := 10) (N := (some 157)) (v := ?_) (a' := ?_) #[true, true, true, false, true, true, true, true, true, true, true, false, false] rfl rfl (by kernel_rfl) (fun _ _ _ h => h) (Or.inl ⟨by rfl, ?_⟩) hHeld ?_ ?_
  rotate_left
  · rintro w' ⟨hS0, hS1, hS2⟩
    go_simp
    with_reducible rfl
  rotate_left
  · simp only [Act.put, List.setIfInBounds_toArray, List.set_cons_zero, List.set_cons_succ]
    rfl
  refine one_ (i := 3) (N := (some 150)) #[true, true, true, true, true, true, true, true, true, true, true, false, false] rfl rfl (by kernel_rfl) (by decide) (fun K hK => ?_)
  go_simp
  go_at_call 182
  refine (wordBad_any (H2.out.gr (Gr.refl _).drew) xa a0 a7 hi).mono ?_
  rintro e w' ⟨rfl, rfl⟩
  exact ⟨rfl, rfl, HW2.out.drew, H2.out.gr ((Gr.refl _).drew)⟩
set_option maxRecDepth 100000 in
set_option maxHeartbeats 1000000 in
theorem stepStore_any (h : RunAt F w0.heap.size w B vp lps z r D vw vs) (hw0 : Gr w0 w) (hp : Sl 4 InsAt w0 vp p) (hm : r.may p) (he : r.pc < (p.length : Int)) (hn : r.n < 120) (xa xb xc : Int) (hx : p[r.pc.toNat]? = some ⟨14, xa, xb, xc⟩) (ha : mayReg xa) (hb : mayReg xb) (hi : 0 ≤ r.next.reg xa) (hl : r.next.reg xa < (r.next.w.length : Int)) :
    Calls Try.prog 163 #[.pointer (some ⟨B, 0, none⟩)] w fun e w' => e = .returned (.bool true) ∧ Gr w0 w' ∧ RunAt F w0.heap.size w' B vp lps z ({ r.next with w := r.next.w.set (r.next.reg xa).toNat (r.next.reg xb) }) D vw vs := by
  obtain ⟨a, cap, rfl, hpc, hpm, -, hpe⟩ := hp
  unfold maxLen at hpm
  obtain ⟨q, o, rfl, x0, x1, x2, x3⟩ := hpe _ _ hx
  have X := Lib.hid (show InsAt w0 q (o + r.pc.toNat * 4) ⟨14, xa, xb, xc⟩ from ⟨x0, x1, x2, x3⟩)
  clear x0 x1 x2 x3
  have hm0 := hm.pc0
  have hm1 := hm.n0
  have c0 := h.c0
  have cP := h.cP
  have cN := h.cN
  have fP := h.free 13
  have fN := h.free 14
  have hlt := h.lt
  have H := Lib.hid h
  have HW := Lib.hid hw0
  have hbB : w0.heap.size ≤ B := h.bB
  have g0 : decide ((p.length : Int) ≤ r.pc) = false := by simpa using he
  have g1 : decide (r.n < 120) = true := by simpa using hn
  clear h hw0 hpe
  go_enter Try.func163, Try.ntmps163
  go_wp2
  go_quiet (fail)
  go_wp2_with (go_at_call 179; refine (needOk_any _ _).mono ?_; rintro e w' ⟨rfl, rfl⟩)
  have HW1 := Lib.hid ((HW.out.drewN nq).setCell (p := ⟨B, 14, none⟩) hbB (.int .i64 (r.n + 1)))
  have H1 := Lib.hid ((H.out.gr ((Gr.refl _).drewN nq)).setN (r.n + 1))
  clear c0 cP cN fP fN hlt
  have x0 := HW1.out.cell X.out.1
  have x1 := HW1.out.cell X.out.2.1
  have x2 := HW1.out.cell X.out.2.2.1
  have x3 := HW1.out.cell X.out.2.2.2
  have c0 := H1.out.c0
  have cP := H1.out.cP
  have fP := H1.out.free 13
  have hlt := H1.out.lt
  have hql := lt_of_cell x0
  simp only [] at hql
  generalize (w.drewN nq).setCell ⟨B, 14, none⟩ (.int .i64 (r.n + 1)) = W1 at HW1 H1 x0 x1 x2 x3 c0 cP fP hlt hql ⊢
  clear hx hm
  go_region
  have hsz : (W1.setCell ⟨B, 13, none⟩ (.int .i64 (r.pc + 1))).heap.size = W1.heap.size := by simp [World.setCell]
  have HW2 := Lib.hid (((HW1.out.setCell (p := ⟨B, 13, none⟩) hbB (.int .i64 (r.pc + 1))).alloc (.cells #[.int .i64 14, .int .i64 xa, .int .i64 xb, .int .i64 xc] 34)).drew)
  have H2 := Lib.hid (show RunAt F w0.heap.size _ B _ lps z r.next D vw vs from ((H1.out.setPc (r.pc + 1)).gr (((Gr.refl _).alloc (.cells #[.int .i64 14, .int .i64 xa, .int .i64 xb, .int .i64 xc] 34)).drew)))
  have HX2 := Lib.hid ((Out.new (w := W1.setCell ⟨B, 13, none⟩ (.int .i64 (r.pc + 1))) (T := 34) (cs := [.int .i64 14, .int .i64 xa, .int .i64 xb, .int .i64 xc])).drew)
  rw [hsz] at HX2
  clear hsz
  go_wp2
  clear x0 x1 x2 x3 c0 cP fP hlt hql
  have x1 := HX2.out.cell (i := 1) rfl
  have x2 := HX2.out.cell (i := 2) rfl
  have x3 := HX2.out.cell (i := 3) rfl
  have x0 := HX2.out.cell (i := 0) rfl
  generalize ((W1.setCell ⟨B, 13, none⟩ (.int .i64 (r.pc + 1))).alloc (.cells #[.int .i64 14, .int .i64 xa, .int .i64 xb, .int .i64 xc] 34)).drew = W2 at HW2 H2 HX2 x0 x1 x2 x3 ⊢
  obtain ⟨a0, a7⟩ := ha
  have ha8 : xa < 8 := by omega
  have ra := H2.out.cR xa a0 a7
  obtain ⟨b0, b7⟩ := hb
  have hb8 : xb < 8 := by omega
  have rb := H2.out.cR xb b0 b7
  obtain ⟨ga, ma, rfl, cw, fw, hbg, nB, nD⟩ := H2.out.wordCell _ hi hl
  go_region_with (go_at_call 182; refine (wordAt_any ga ma (H2.out.gr (Gr.refl _).drew) xa a0 a7 hi hl).mono ?_; rintro e w' ⟨rfl, rfl⟩)
  all_goals go_wp2
  all_goals go_ret
  all_goals exact ⟨rfl, (HW2.out.setCell hbg _).drew, (H2.out.setWord _ (by omega) _).gr (Gr.refl _).drew⟩
set_option maxRecDepth 100000 in
set_option maxHeartbeats 1000000 in
theorem stepRoll_any (h : RunAt F w0.heap.size w B vp lps z r D vw vs) (hw0 : Gr w0 w) (hp : Sl 4 InsAt w0 vp p) (hm : r.may p) (he : r.pc < (p.length : Int)) (hn : r.n < 120) (xa xb xc : Int) (hx : p[r.pc.toNat]? = some ⟨11, xa, xb, xc⟩) (ha : mayReg xa) (hb : mayReg xb) (h1 : 1 ≤ r.next.reg xb) (h64 : i64' (r.next.reg xb)) :
    Calls Try.prog 163 #[.pointer (some ⟨B, 0, none⟩)] w fun e w' => e = .returned (.bool true) ∧ Gr w0 w' ∧ RunAt F w0.heap.size w' B vp lps z ({ r.next with g := r.next.g.set xa.toNat (chance (stepU z r.next.dice) (r.next.reg xb)), dice := wrap64 (r.next.dice + 1) }) D vw vs := by
  obtain ⟨a, cap, rfl, hpc, hpm, -, hpe⟩ := hp
  unfold maxLen at hpm
  obtain ⟨q, o, rfl, x0, x1, x2, x3⟩ := hpe _ _ hx
  have X := Lib.hid (show InsAt w0 q (o + r.pc.toNat * 4) ⟨11, xa, xb, xc⟩ from ⟨x0, x1, x2, x3⟩)
  clear x0 x1 x2 x3
  have hm0 := hm.pc0
  have hm1 := hm.n0
  have c0 := h.c0
  have cP := h.cP
  have cN := h.cN
  have fP := h.free 13
  have fN := h.free 14
  have hlt := h.lt
  have H := Lib.hid h
  have HW := Lib.hid hw0
  have hbB : w0.heap.size ≤ B := h.bB
  have g0 : decide ((p.length : Int) ≤ r.pc) = false := by simpa using he
  have g1 : decide (r.n < 120) = true := by simpa using hn
  clear h hw0 hpe
  go_enter Try.func163, Try.ntmps163
  go_wp2
  go_quiet (fail)
  go_wp2_with (go_at_call 179; refine (needOk_any _ _).mono ?_; rintro e w' ⟨rfl, rfl⟩)
  have HW1 := Lib.hid ((HW.out.drewN nq).setCell (p := ⟨B, 14, none⟩) hbB (.int .i64 (r.n + 1)))
  have H1 := Lib.hid ((H.out.gr ((Gr.refl _).drewN nq)).setN (r.n + 1))
  clear c0 cP cN fP fN hlt
  have x0 := HW1.out.cell X.out.1
  have x1 := HW1.out.cell X.out.2.1
  have x2 := HW1.out.cell X.out.2.2.1
  have x3 := HW1.out.cell X.out.2.2.2
  have c0 := H1.out.c0
  have cP := H1.out.cP
  have fP := H1.out.free 13
  have hlt := H1.out.lt
  have hql := lt_of_cell x0
  simp only [] at hql
  generalize (w.drewN nq).setCell ⟨B, 14, none⟩ (.int .i64 (r.n + 1)) = W1 at HW1 H1 x0 x1 x2 x3 c0 cP fP hlt hql ⊢
  clear hx hm
  go_region
  have hsz : (W1.setCell ⟨B, 13, none⟩ (.int .i64 (r.pc + 1))).heap.size = W1.heap.size := by simp [World.setCell]
  have HW2 := Lib.hid (((HW1.out.setCell (p := ⟨B, 13, none⟩) hbB (.int .i64 (r.pc + 1))).alloc (.cells #[.int .i64 11, .int .i64 xa, .int .i64 xb, .int .i64 xc] 34)).drew)
  have H2 := Lib.hid (show RunAt F w0.heap.size _ B _ lps z r.next D vw vs from ((H1.out.setPc (r.pc + 1)).gr (((Gr.refl _).alloc (.cells #[.int .i64 11, .int .i64 xa, .int .i64 xb, .int .i64 xc] 34)).drew)))
  have HX2 := Lib.hid ((Out.new (w := W1.setCell ⟨B, 13, none⟩ (.int .i64 (r.pc + 1))) (T := 34) (cs := [.int .i64 11, .int .i64 xa, .int .i64 xb, .int .i64 xc])).drew)
  rw [hsz] at HX2
  clear hsz
  go_wp2
  clear x0 x1 x2 x3 c0 cP fP hlt hql
  have x1 := HX2.out.cell (i := 1) rfl
  have x2 := HX2.out.cell (i := 2) rfl
  have x3 := HX2.out.cell (i := 3) rfl
  have x0 := HX2.out.cell (i := 0) rfl
  generalize ((W1.setCell ⟨B, 13, none⟩ (.int .i64 (r.pc + 1))).alloc (.cells #[.int .i64 11, .int .i64 xa, .int .i64 xb, .int .i64 xc] 34)).drew = W2 at HW2 H2 HX2 x0 x1 x2 x3 ⊢
  obtain ⟨a0, a7⟩ := ha
  have ha8 : xa < 8 := by omega
  have ra := H2.out.cR xa a0 a7
  obtain ⟨b0, b7⟩ := hb
  have hb8 : xb < 8 := by omega
  have rb := H2.out.cR xb b0 b7
  have cD := H2.out.cD
  have hDB : w0.heap.size ≤ D := H2.out.bD
  go_region_with
    (go_at_call 180
     refine (next_any D z r.next.dice _ h1 h64 _ (H2.out.dice.gr (Gr.refl _).drew)).mono ?_
     rintro e w5 ⟨rfl, hg5, ho5⟩
     have HW5 := Lib.hid ((HW2.out.drew.setCell (p := ⟨D, 1, none⟩) hDB (.int .i64 (wrap64 (r.next.dice + 1)))).trans hg5)
     have HR5 := Lib.hid (((H2.out.gr (Gr.refl _).drew).setDice (wrap64 (r.next.dice + 1))).gr hg5)
     have HX5 := Lib.hid ((HX2.out.drew.set_other (O' := D) (i := 1) (v := .int .i64 (wrap64 (r.next.dice + 1))) (HX2.out.apart H2.out.dice (by decide))).gr hg5)
     clear hg5 ho5)
  all_goals
    simp only [List.getElem_toArray, List.getElem_cons_succ, List.getElem_cons_zero, Act.put, List.setIfInBounds_toArray, List.set_cons_succ, List.set_cons_zero]
    have y1 := HX5.out.cell (i := 1) rfl
    have ra5 := HR5.out.cR xa a0 a7
    have fa5 := HR5.out.free (1 + xa.toNat)
    clear x0 x1 x2 x3 ra rb cD
    go_wp2_with (go_at_call 179; refine (needOk_any _ _).mono ?_; rintro e w' ⟨rfl, rfl⟩)
    go_region
    go_wp2
    go_ret
    exact ⟨rfl, HW5.out.drew.setCell hbB _, (HR5.out.gr (Gr.refl _).drew).setReg xa a0 a7 _⟩
end
end Go.Proofs.Ytkoopobfelcgpaa
