/- layer 7: a step -/
import Derived.Test.YtkoopobfelcgpaaH4
set_option linter.unusedSimpArgs false
set_option linter.unusedVariables false
namespace Go.Proofs.Ytkoopobfelcgpaa
open Go.RowKit

def VR.word (r : VR) (k : Int) : Int := r.w.getD k.toNat 0
/-- what an instruction does: a fault (0: none), and the run behind it -/
def actV (lps z : Int) (x : PIns) (r : VR) : Int × VR :=
  if x.op = 1 then (0, r.out x.a x.b)
  else if x.op = 2 then (0, r.out x.a (r.reg x.b))
  else if x.op = 9 then (0, { r with pc := x.a })
  else if x.op = 10 then (0, if r.reg x.a = 0 then { r with pc := x.b } else r)
  else if x.op = 11 then
    if r.reg x.b < 1 then (4, r) else (0, { r with g := r.g.set x.a.toNat (chance (stepU z r.dice) (r.reg x.b)), dice := wrap64 (r.dice + 1) })
  else if x.op = 12 then
    if r.reg x.a < 0 ∨ lps ≤ r.reg x.a then (6, r) else if 4 ≤ r.sent.length then (5, r)
    else (0, { r with sent := r.sent ++ [⟨r.reg x.a, r.reg x.b, r.reg x.c⟩] })
  else if x.op = 13 then
    if r.reg x.b < 0 ∨ (r.w.length : Int) ≤ r.reg x.b then (3, r) else (0, r.out x.a (r.word (r.reg x.b)))
  else if x.op = 14 then
    if r.reg x.a < 0 ∨ (r.w.length : Int) ≤ r.reg x.a then (3, r) else (0, { r with w := r.w.set (r.reg x.a).toNat (r.reg x.b) })
  else if (x.op = 6 ∨ x.op = 7) ∧ r.reg x.c = 0 then (2, r)
  else (0, r.out x.a (twoV x.op (r.reg x.b) (r.reg x.c)))
def VR.next (r : VR) : VR := { r with n := r.n + 1, pc := r.pc + 1 }
def ins0 : PIns := ⟨0, 0, 0, 0⟩
/-- a step: a fault (0: none), whether it goes on, the run behind it -/
def stepV (p : List PIns) (lps z : Int) (r : VR) : Int × Bool × VR :=
  if (p.length : Int) ≤ r.pc then (0, false, r)
  else if 120 ≤ r.n then (1, false, r)
  else if (p.getD r.pc.toNat ins0).op = 0 then (0, false, r.next)
  else if (actV lps z (p.getD r.pc.toNat ins0) r.next).1 = 0 then (0, true, (actV lps z (p.getD r.pc.toNat ins0) r.next).2)
  else ((actV lps z (p.getD r.pc.toNat ins0) r.next).1, false, r.next)
/-- what a step asks of the place and the steps -/
structure VR.may (p : List PIns) (r : VR) : Prop where
  pc0 : 0 ≤ r.pc
  pc1 : r.pc ≤ p.length
  n0 : 0 ≤ r.n
  n1 : r.n ≤ 120
section
variable {F : Option Nat} {w : World} {B : Nat} {vp : Value} {lps z : Int} {r : VR} {D : Nat} {vw vs : Value} {w0 : World} {p : List PIns}
theorem stepEnd_any (h : RunAt F w0.heap.size w B vp lps z r D vw vs) (hw0 : Gr w0 w) (hp : Sl 4 InsAt w0 vp p) (hm : r.may p) (he : (p.length : Int) ≤ r.pc) :
    Calls Try.prog 163 #[.pointer (some ⟨B, 0, none⟩)] w fun e w' => e = .returned (.bool false) ∧ Gr w0 w' ∧ RunAt F w0.heap.size w' B vp lps z r D vw vs := by
  obtain ⟨a, cap, rfl, hpc, hpm, -, hpe⟩ := hp
  have c0 := h.c0
  have cP := h.cP
  have H := Lib.hid h
  have HW := Lib.hid hw0
  have g0 : decide ((p.length : Int) ≤ r.pc) = true := by simpa using he
  clear h hw0
  go_enter Try.func163, Try.ntmps163
  go_wp2
  go_quiet (fail)
  go_wp2
  go_ret
  exact ⟨rfl, HW.out.drewN _, H.out.gr ((Gr.refl _).drewN _)⟩
theorem stepFuel_any (h : RunAt F w0.heap.size w B vp lps z r D vw vs) (hw0 : Gr w0 w) (hp : Sl 4 InsAt w0 vp p) (hm : r.may p) (he : r.pc < (p.length : Int)) (hn : 120 ≤ r.n) :
    Calls Try.prog 163 #[.pointer (some ⟨B, 0, none⟩)] w fun e w' => e = faultP 1 ∧ Gr w0 w' ∧ RunAt F w0.heap.size w' B vp lps z r D vw vs := by
  obtain ⟨a, cap, rfl, hpc, hpm, -, hpe⟩ := hp
  have c0 := h.c0
  have cP := h.cP
  have cN := h.cN
  have H := Lib.hid h
  have HW := Lib.hid hw0
  have g0 : decide ((p.length : Int) ≤ r.pc) = false := by simpa using he
  have g1 : decide (r.n < 120) = false := by simpa using hn
  clear h hw0
  go_enter Try.func163, Try.ntmps163
  go_wp2
  go_quiet (fail)
  go_wp2_with (go_at_call 179; refine (needBad_any _ _).mono ?_; rintro e w' ⟨rfl, rfl⟩)
  exact ⟨rfl, rfl, HW.out.drewN _, H.out.gr ((Gr.refl _).drewN _)⟩
theorem Out.apart {T T' : TypeId} {w : World} {O O' : Nat} {cs cs' : List Value} (h : Out T w O cs) (h' : Out T' w O' cs') (hne : T ≠ T') : O ≠ O' := by
  intro e
  subst e
  have a1 := h.is
  have a2 := h'.is
  rw [a1] at a2
  injection a2 with a2; injection a2 with _ a2; exact hne a2
theorem RunAt.setDice {b : Nat} (h : RunAt F b w B vp lps z r D vw vs) (x : Int) : RunAt F b (w.setCell ⟨D, 1, none⟩ (.int .i64 x)) B vp lps z { r with dice := x } D vw vs :=
  ⟨h.g8, h.bB, h.bD, h.out.set_other (h.out.apart h.dice (by decide)), h.dice.set 1 _, h.words.set h.dice.is (by decide) _, h.sent.set h.dice.is (by decide) _, h.intF.set _ _, h.neF⟩
theorem flatInt (l : List Int) (k : Nat) : (l.flatMap intC)[k]? = (l[k]?).map (.int .i64) := by
  have h := flat_get (sz := 1) (cells := intC) (fun _ => rfl) l k 0 (by omega)
  simp only [Nat.mul_one, Nat.add_zero] at h
  rw [h]
  cases l[k]? <;> simp [intC]
theorem RunAt.wordCell {b : Nat} (h : RunAt F b w B vp lps z r D vw vs) (k : Int) (h0 : 0 ≤ k) (hl : k < r.w.length) :
    ∃ a m, vw = .slice (some ⟨a, 0, none⟩) r.w.length m ∧ w.cell? ⟨a, k.toNat, none⟩ = some (.int .i64 (r.word k)) ∧ w.frozen? ⟨a, k.toNat, none⟩ = false ∧ b ≤ a ∧ a ≠ B ∧ a ≠ D := by
  have hw := h.words
  obtain ⟨hx, ⟨rfl, hn⟩ | ⟨g, cap, cur, rfl, hb, hg, hnc, hcm, hcs, ht⟩⟩ := hw
  · omega
  have hown : w.ownsRow b 3 1 (.slice (some ⟨g, 0, none⟩) r.w.length cap) r.w.length (r.w.flatMap intC) := h.words
  refine ⟨g, cap, rfl, ?_, hown.frozenAt _, hb, ?_, ?_⟩
  · rw [hown.cellAt k.toNat (by omega), flatInt, List.getElem?_eq_getElem (by omega : k.toNat < r.w.length)]
    simp [VR.word, List.getElem?_eq_getElem (by omega : k.toNat < r.w.length)]
  · intro e; subst e
    have a1 := h.out.is
    rw [hg] at a1
    injection a1 with a1; injection a1 with _ a1; exact absurd a1 (by decide)
  · intro e; subst e
    have a1 := h.dice.is
    rw [hg] at a1
    injection a1 with a1; injection a1 with _ a1; exact absurd a1 (by decide)
theorem flatSet : ∀ (l : List Int) (k : Nat) (x : Int), (l.flatMap intC).set k (.int .i64 x) = (l.set k x).flatMap intC
  | [], _, _ => by simp
  | y :: l, 0, x => by simp [intC]
  | y :: l, k + 1, x => by
    have := flatSet l k x
    simp [intC] at this ⊢
    exact this
/-- a word is written -/
theorem RunAt.setWord {b a m : Nat} (h : RunAt F b w B vp lps z r D (.slice (some ⟨a, 0, none⟩) r.w.length m) vs) (k : Nat) (hk : k < r.w.length) (x : Int) :
    RunAt F b (w.setCell ⟨a, k, none⟩ (.int .i64 x)) B vp lps z { r with w := r.w.set k x } D (.slice (some ⟨a, 0, none⟩) r.w.length m) vs := by
  have hown : w.ownsRow b 3 1 (.slice (some ⟨a, 0, none⟩) r.w.length m) r.w.length (r.w.flatMap intC) := h.words
  have hblk := h.words.block
  obtain h0 | ⟨g, cur, hg, -, hgb⟩ := hblk
  · simp [Value.ownBlock] at h0
  have hga : g = a := by simpa [Value.ownBlock] using hg.symm
  subst hga
  have nB : B ≠ g := by
    intro e; subst e
    have a1 := h.out.is
    rw [hgb] at a1
    injection a1 with a1; injection a1 with _ a1; exact absurd a1 (by decide)
  have nD : D ≠ g := by
    intro e; subst e
    have a1 := h.dice.is
    rw [hgb] at a1
    injection a1 with a1; injection a1 with _ a1; exact absurd a1 (by decide)
  have hst := hown.stored k (.int .i64 x)
  refine ⟨h.g8, h.bB, h.bD, h.out.set_other nB, h.dice.set_other nD, ?_, h.sent.set hgb (by decide) _, h.intF.set _ _, h.neF⟩
  show World.ownsRow _ _ _ _ _ _ _
  rw [← flatSet, List.length_set]
  exact hst.1
theorem wordAt_any {b : Nat} (a m : Nat) (h : RunAt F b w B vp lps z r D (.slice (some ⟨a, 0, none⟩) r.w.length m) vs) (k : Int) (h0 : 0 ≤ k) (h7 : k ≤ 7) (hi : 0 ≤ r.reg k) (hl : r.reg k < r.w.length) :
    Calls Try.prog 182 #[.pointer (some ⟨B, 0, none⟩), .int .i64 k] w fun e w' => e = .returned (.pointer (some ⟨a, (r.reg k).toNat, none⟩)) ∧ w = w' := by
  refine (word_any h k h0 h7 hi hl).mono ?_
  rintro e w' ⟨⟨a5, m5, hv, rfl⟩, rfl⟩
  injection hv with hv _ _
  injection hv with hv
  injection hv with hv
  subst hv
  exact ⟨rfl, rfl⟩
-- THE OPERATIONS
set_option maxRecDepth 100000 in
set_option maxHeartbeats 1000000 in
theorem stepHalt_any (h : RunAt F w0.heap.size w B vp lps z r D vw vs) (hw0 : Gr w0 w) (hp : Sl 4 InsAt w0 vp p) (hm : r.may p) (he : r.pc < (p.length : Int)) (hn : r.n < 120) (xa xb xc : Int) (hx : p[r.pc.toNat]? = some ⟨0, xa, xb, xc⟩)  :
    Calls Try.prog 163 #[.pointer (some ⟨B, 0, none⟩)] w fun e w' => e = .returned (.bool false) ∧ Gr w0 w' ∧ RunAt F w0.heap.size w' B vp lps z r.next D vw vs := by
  obtain ⟨a, cap, rfl, hpc, hpm, -, hpe⟩ := hp
  unfold maxLen at hpm
  obtain ⟨q, o, rfl, x0, x1, x2, x3⟩ := hpe _ _ hx
  have X := Lib.hid (show InsAt w0 q (o + r.pc.toNat * 4) ⟨0, xa, xb, xc⟩ from ⟨x0, x1, x2, x3⟩)
  clear x0 x1 x2 x3
  have hm0 := hm.pc0
  have hm1 := hm.n0
  have c0 := h.c0
  have cP := h.cP
  have cN := h.cN
  have fP := h.free 13
  have fN := h.free 14
  have hlt := h.lt
  have H := Lib.hid h
  have HW := Lib.hid hw0
  have hbB : w0.heap.size ≤ B := h.bB
  have g0 : decide ((p.length : Int) ≤ r.pc) = false := by simpa using he
  have g1 : decide (r.n < 120) = true := by simpa using hn
  clear h hw0 hpe
  go_enter Try.func163, Try.ntmps163
  go_wp2
  go_quiet (fail)
  go_wp2_with (go_at_call 179; refine (needOk_any _ _).mono ?_; rintro e w' ⟨rfl, rfl⟩)
  have HW1 := Lib.hid ((HW.out.drewN nq).setCell (p := ⟨B, 14, none⟩) hbB (.int .i64 (r.n + 1)))
  have H1 := Lib.hid ((H.out.gr ((Gr.refl _).drewN nq)).setN (r.n + 1))
  clear c0 cP cN fP fN hlt
  have x0 := HW1.out.cell X.out.1
  have x1 := HW1.out.cell X.out.2.1
  have x2 := HW1.out.cell X.out.2.2.1
  have x3 := HW1.out.cell X.out.2.2.2
  have c0 := H1.out.c0
  have cP := H1.out.cP
  have fP := H1.out.free 13
  have hlt := H1.out.lt
  have hql := lt_of_cell x0
  simp only [] at hql
  generalize (w.drewN nq).setCell ⟨B, 14, none⟩ (.int .i64 (r.n + 1)) = W1 at HW1 H1 x0 x1 x2 x3 c0 cP fP hlt hql ⊢
  clear hx hm
  go_region
  have hsz : (W1.setCell ⟨B, 13, none⟩ (.int .i64 (r.pc + 1))).heap.size = W1.heap.size := by simp [World.setCell]
  have HW2 := Lib.hid (((HW1.out.setCell (p := ⟨B, 13, none⟩) hbB (.int .i64 (r.pc + 1))).alloc (.cells #[.int .i64 0, .int .i64 xa, .int .i64 xb, .int .i64 xc] 34)).drew)
  have H2 := Lib.hid (show RunAt F w0.heap.size _ B _ lps z r.next D vw vs from ((H1.out.setPc (r.pc + 1)).gr (((Gr.refl _).alloc (.cells #[.int .i64 0, .int .i64 xa, .int .i64 xb, .int .i64 xc] 34)).drew)))
  have HX2 := Lib.hid ((Out.new (w := W1.setCell ⟨B, 13, none⟩ (.int .i64 (r.pc + 1))) (T := 34) (cs := [.int .i64 0, .int .i64 xa, .int .i64 xb, .int .i64 xc])).drew)
  rw [hsz] at HX2
  clear hsz
  go_wp2
  go_ret
  exact ⟨rfl, HW2.out, H2.out⟩
set_option maxRecDepth 100000 in
set_option maxHeartbeats 1000000 in
theorem stepSet_any (h : RunAt F w0.heap.size w B vp lps z r D vw vs) (hw0 : Gr w0 w) (hp : Sl 4 InsAt w0 vp p) (hm : r.may p) (he : r.pc < (p.length : Int)) (hn : r.n < 120) (xa xb xc : Int) (hx : p[r.pc.toNat]? = some ⟨1, xa, xb, xc⟩) (ha : mayReg xa) :
    Calls Try.prog 163 #[.pointer (some ⟨B, 0, none⟩)] w fun e w' => e = .returned (.bool true) ∧ Gr w0 w' ∧ RunAt F w0.heap.size w' B vp lps z (r.next.out xa xb) D vw vs := by
  obtain ⟨a, cap, rfl, hpc, hpm, -, hpe⟩ := hp
  unfold maxLen at hpm
  obtain ⟨q, o, rfl, x0, x1, x2, x3⟩ := hpe _ _ hx
  have X := Lib.hid (show InsAt w0 q (o + r.pc.toNat * 4) ⟨1, xa, xb, xc⟩ from ⟨x0, x1, x2, x3⟩)
  clear x0 x1 x2 x3
  have hm0 := hm.pc0
  have hm1 := hm.n0
  have c0 := h.c0
  have cP := h.cP
  have cN := h.cN
  have fP := h.free 13
  have fN := h.free 14
  have hlt := h.lt
  have H := Lib.hid h
  have HW := Lib.hid hw0
  have hbB : w0.heap.size ≤ B := h.bB
  have g0 : decide ((p.length : Int) ≤ r.pc) = false := by simpa using he
  have g1 : decide (r.n < 120) = true := by simpa using hn
  clear h hw0 hpe
  go_enter Try.func163, Try.ntmps163
  go_wp2
  go_quiet (fail)
  go_wp2_with (go_at_call 179; refine (needOk_any _ _).mono ?_; rintro e w' ⟨rfl, rfl⟩)
  have HW1 := Lib.hid ((HW.out.drewN nq).setCell (p := ⟨B, 14, none⟩) hbB (.int .i64 (r.n + 1)))
  have H1 := Lib.hid ((H.out.gr ((Gr.refl _).drewN nq)).setN (r.n + 1))
  clear c0 cP cN fP fN hlt
  have x0 := HW1.out.cell X.out.1
  have x1 := HW1.out.cell X.out.2.1
  have x2 := HW1.out.cell X.out.2.2.1
  have x3 := HW1.out.cell X.out.2.2.2
  have c0 := H1.out.c0
  have cP := H1.out.cP
  have fP := H1.out.free 13
  have hlt := H1.out.lt
  have hql := lt_of_cell x0
  simp only [] at hql
  generalize (w.drewN nq).setCell ⟨B, 14, none⟩ (.int .i64 (r.n + 1)) = W1 at HW1 H1 x0 x1 x2 x3 c0 cP fP hlt hql ⊢
  clear hx hm
  go_region
  have hsz : (W1.setCell ⟨B, 13, none⟩ (.int .i64 (r.pc + 1))).heap.size = W1.heap.size := by simp [World.setCell]
  have HW2 := Lib.hid (((HW1.out.setCell (p := ⟨B, 13, none⟩) hbB (.int .i64 (r.pc + 1))).alloc (.cells #[.int .i64 1, .int .i64 xa, .int .i64 xb, .int .i64 xc] 34)).drew)
  have H2 := Lib.hid (show RunAt F w0.heap.size _ B _ lps z r.next D vw vs from ((H1.out.setPc (r.pc + 1)).gr (((Gr.refl _).alloc (.cells #[.int .i64 1, .int .i64 xa, .int .i64 xb, .int .i64 xc] 34)).drew)))
  have HX2 := Lib.hid ((Out.new (w := W1.setCell ⟨B, 13, none⟩ (.int .i64 (r.pc + 1))) (T := 34) (cs := [.int .i64 1, .int .i64 xa, .int .i64 xb, .int .i64 xc])).drew)
  rw [hsz] at HX2
  clear hsz
  go_wp2
  clear x0 x1 x2 x3 c0 cP fP hlt hql
  have x1 := HX2.out.cell (i := 1) rfl
  have x2 := HX2.out.cell (i := 2) rfl
  have x3 := HX2.out.cell (i := 3) rfl
  have x0 := HX2.out.cell (i := 0) rfl
  generalize ((W1.setCell ⟨B, 13, none⟩ (.int .i64 (r.pc + 1))).alloc (.cells #[.int .i64 1, .int .i64 xa, .int .i64 xb, .int .i64 xc] 34)).drew = W2 at HW2 H2 HX2 x0 x1 x2 x3 ⊢
  obtain ⟨a0, a7⟩ := ha
  have ha8 : xa < 8 := by omega
  have ra := H2.out.cR xa a0 a7
  have fa := H2.out.free (1 + xa.toNat)
  go_region
  go_wp2
  go_ret
  exact ⟨rfl, HW2.out.drew.setCell hbB _, (H2.out.gr (Gr.refl _).drew).setReg xa a0 a7 _⟩
set_option maxRecDepth 100000 in
set_option maxHeartbeats 1000000 in
theorem stepMove_any (h : RunAt F w0.heap.size w B vp lps z r D vw vs) (hw0 : Gr w0 w) (hp : Sl 4 InsAt w0 vp p) (hm : r.may p) (he : r.pc < (p.length : Int)) (hn : r.n < 120) (xa xb xc : Int) (hx : p[r.pc.toNat]? = some ⟨2, xa, xb, xc⟩) (ha : mayReg xa) (hb : mayReg xb) :
    Calls Try.prog 163 #[.pointer (some ⟨B, 0, none⟩)] w fun e w' => e = .returned (.bool true) ∧ Gr w0 w' ∧ RunAt F w0.heap.size w' B vp lps z (r.next.out xa (r.next.reg xb)) D vw vs := by
  obtain ⟨a, cap, rfl, hpc, hpm, -, hpe⟩ := hp
  unfold maxLen at hpm
  obtain ⟨q, o, rfl, x0, x1, x2, x3⟩ := hpe _ _ hx
  have X := Lib.hid (show InsAt w0 q (o + r.pc.toNat * 4) ⟨2, xa, xb, xc⟩ from ⟨x0, x1, x2, x3⟩)
  clear x0 x1 x2 x3
  have hm0 := hm.pc0
  have hm1 := hm.n0
  have c0 := h.c0
  have cP := h.cP
  have cN := h.cN
  have fP := h.free 13
  have fN := h.free 14
  have hlt := h.lt
  have H := Lib.hid h
  have HW := Lib.hid hw0
  have hbB : w0.heap.size ≤ B := h.bB
  have g0 : decide ((p.length : Int) ≤ r.pc) = false := by simpa using he
  have g1 : decide (r.n < 120) = true := by simpa using hn
  clear h hw0 hpe
  go_enter Try.func163, Try.ntmps163
  go_wp2
  go_quiet (fail)
  go_wp2_with (go_at_call 179; refine (needOk_any _ _).mono ?_; rintro e w' ⟨rfl, rfl⟩)
  have HW1 := Lib.hid ((HW.out.drewN nq).setCell (p := ⟨B, 14, none⟩) hbB (.int .i64 (r.n + 1)))
  have H1 := Lib.hid ((H.out.gr ((Gr.refl _).drewN nq)).setN (r.n + 1))
  clear c0 cP cN fP fN hlt
  have x0 := HW1.out.cell X.out.1
  have x1 := HW1.out.cell X.out.2.1
  have x2 := HW1.out.cell X.out.2.2.1
  have x3 := HW1.out.cell X.out.2.2.2
  have c0 := H1.out.c0
  have cP := H1.out.cP
  have fP := H1.out.free 13
  have hlt := H1.out.lt
  have hql := lt_of_cell x0
  simp only [] at hql
  generalize (w.drewN nq).setCell ⟨B, 14, none⟩ (.int .i64 (r.n + 1)) = W1 at HW1 H1 x0 x1 x2 x3 c0 cP fP hlt hql ⊢
  clear hx hm
  go_region
  have hsz : (W1.setCell ⟨B, 13, none⟩ (.int .i64 (r.pc + 1))).heap.size = W1.heap.size := by simp [World.setCell]
  have HW2 := Lib.hid (((HW1.out.setCell (p := ⟨B, 13, none⟩) hbB (.int .i64 (r.pc + 1))).alloc (.cells #[.int .i64 2, .int .i64 xa, .int .i64 xb, .int .i64 xc] 34)).drew)
  have H2 := Lib.hid (show RunAt F w0.heap.size _ B _ lps z r.next D vw vs from ((H1.out.setPc (r.pc + 1)).gr (((Gr.refl _).alloc (.cells #[.int .i64 2, .int .i64 xa, .int .i64 xb, .int .i64 xc] 34)).drew)))
  have HX2 := Lib.hid ((Out.new (w := W1.setCell ⟨B, 13, none⟩ (.int .i64 (r.pc + 1))) (T := 34) (cs := [.int .i64 2, .int .i64 xa, .int .i64 xb, .int .i64 xc])).drew)
  rw [hsz] at HX2
  clear hsz
  go_wp2
  clear x0 x1 x2 x3 c0 cP fP hlt hql
  have x1 := HX2.out.cell (i := 1) rfl
  have x2 := HX2.out.cell (i := 2) rfl
  have x3 := HX2.out.cell (i := 3) rfl
  have x0 := HX2.out.cell (i := 0) rfl
  generalize ((W1.setCell ⟨B, 13, none⟩ (.int .i64 (r.pc + 1))).alloc (.cells #[.int .i64 2, .int .i64 xa, .int .i64 xb, .int .i64 xc] 34)).drew = W2 at HW2 H2 HX2 x0 x1 x2 x3 ⊢
  obtain ⟨a0, a7⟩ := ha
  have ha8 : xa < 8 := by omega
  have ra := H2.out.cR xa a0 a7
  obtain ⟨b0, b7⟩ := hb
  have hb8 : xb < 8 := by omega
  have rb := H2.out.cR xb b0 b7
  have fa := H2.out.free (1 + xa.toNat)
  go_region
  go_wp2
  go_ret
  exact ⟨rfl, HW2.out.drew.setCell hbB _, (H2.out.gr (Gr.refl _).drew).setReg xa a0 a7 _⟩
set_option maxRecDepth 100000 in
set_option maxHeartbeats 1000000 in
theorem stepJump_any (h : RunAt F w0.heap.size w B vp lps z r D vw vs) (hw0 : Gr w0 w) (hp : Sl 4 InsAt w0 vp p) (hm : r.may p) (he : r.pc < (p.length : Int)) (hn : r.n < 120) (xa xb xc : Int) (hx : p[r.pc.toNat]? = some ⟨9, xa, xb, xc⟩)  :
    Calls Try.prog 163 #[.pointer (some ⟨B, 0, none⟩)] w fun e w' => e = .returned (.bool true) ∧ Gr w0 w' ∧ RunAt F w0.heap.size w' B vp lps z ({ r.next with pc := xa }) D vw vs := by
  obtain ⟨a, cap, rfl, hpc, hpm, -, hpe⟩ := hp
  unfold maxLen at hpm
  obtain ⟨q, o, rfl, x0, x1, x2, x3⟩ := hpe _ _ hx
  have X := Lib.hid (show InsAt w0 q (o + r.pc.toNat * 4) ⟨9, xa, xb, xc⟩ from ⟨x0, x1, x2, x3⟩)
  clear x0 x1 x2 x3
  have hm0 := hm.pc0
  have hm1 := hm.n0
  have c0 := h.c0
  have cP := h.cP
  have cN := h.cN
  have fP := h.free 13
  have fN := h.free 14
  have hlt := h.lt
  have H := Lib.hid h
  have HW := Lib.hid hw0
  have hbB : w0.heap.size ≤ B := h.bB
  have g0 : decide ((p.length : Int) ≤ r.pc) = false := by simpa using he
  have g1 : decide (r.n < 120) = true := by simpa using hn
  clear h hw0 hpe
  go_enter Try.func163, Try.ntmps163
  go_wp2
  go_quiet (fail)
  go_wp2_with (go_at_call 179; refine (needOk_any _ _).mono ?_; rintro e w' ⟨rfl, rfl⟩)
  have HW1 := Lib.hid ((HW.out.drewN nq).setCell (p := ⟨B, 14, none⟩) hbB (.int .i64 (r.n + 1)))
  have H1 := Lib.hid ((H.out.gr ((Gr.refl _).drewN nq)).setN (r.n + 1))
  clear c0 cP cN fP fN hlt
  have x0 := HW1.out.cell X.out.1
  have x1 := HW1.out.cell X.out.2.1
  have x2 := HW1.out.cell X.out.2.2.1
  have x3 := HW1.out.cell X.out.2.2.2
  have c0 := H1.out.c0
  have cP := H1.out.cP
  have fP := H1.out.free 13
  have hlt := H1.out.lt
  have hql := lt_of_cell x0
  simp only [] at hql
  generalize (w.drewN nq).setCell ⟨B, 14, none⟩ (.int .i64 (r.n + 1)) = W1 at HW1 H1 x0 x1 x2 x3 c0 cP fP hlt hql ⊢
  clear hx hm
  go_region
  have hsz : (W1.setCell ⟨B, 13, none⟩ (.int .i64 (r.pc + 1))).heap.size = W1.heap.size := by simp [World.setCell]
  have HW2 := Lib.hid (((HW1.out.setCell (p := ⟨B, 13, none⟩) hbB (.int .i64 (r.pc + 1))).alloc (.cells #[.int .i64 9, .int .i64 xa, .int .i64 xb, .int .i64 xc] 34)).drew)
  have H2 := Lib.hid (show RunAt F w0.heap.size _ B _ lps z r.next D vw vs from ((H1.out.setPc (r.pc + 1)).gr (((Gr.refl _).alloc (.cells #[.int .i64 9, .int .i64 xa, .int .i64 xb, .int .i64 xc] 34)).drew)))
  have HX2 := Lib.hid ((Out.new (w := W1.setCell ⟨B, 13, none⟩ (.int .i64 (r.pc + 1))) (T := 34) (cs := [.int .i64 9, .int .i64 xa, .int .i64 xb, .int .i64 xc])).drew)
  rw [hsz] at HX2
  clear hsz
  go_wp2
  go_ret
  exact ⟨rfl, (((HW1.out.setCell hbB _).setCell hbB _).alloc _).drew, ((H1.out.setPc (r.pc + 1)).setPc xa).gr (((Gr.refl _).alloc _).drew)⟩
set_option maxRecDepth 100000 in
set_option maxHeartbeats 1000000 in
theorem stepZeroYes_any (h : RunAt F w0.heap.size w B vp lps z r D vw vs) (hw0 : Gr w0 w) (hp : Sl 4 InsAt w0 vp p) (hm : r.may p) (he : r.pc < (p.length : Int)) (hn : r.n < 120) (xa xb xc : Int) (hx : p[r.pc.toNat]? = some ⟨10, xa, xb, xc⟩) (ha : mayReg xa) (hz : r.next.reg xa = 0) :
    Calls Try.prog 163 #[.pointer (some ⟨B, 0, none⟩)] w fun e w' => e = .returned (.bool true) ∧ Gr w0 w' ∧ RunAt F w0.heap.size w' B vp lps z ({ r.next with pc := xb }) D vw vs := by
  obtain ⟨a, cap, rfl, hpc, hpm, -, hpe⟩ := hp
  unfold maxLen at hpm
  obtain ⟨q, o, rfl, x0, x1, x2, x3⟩ := hpe _ _ hx
  have X := Lib.hid (show InsAt w0 q (o + r.pc.toNat * 4) ⟨10, xa, xb, xc⟩ from ⟨x0, x1, x2, x3⟩)
  clear x0 x1 x2 x3
  have hm0 := hm.pc0
  have hm1 := hm.n0
  have c0 := h.c0
  have cP := h.cP
  have cN := h.cN
  have fP := h.free 13
  have fN := h.free 14
  have hlt := h.lt
  have H := Lib.hid h
  have HW := Lib.hid hw0
  have hbB : w0.heap.size ≤ B := h.bB
  have g0 : decide ((p.length : Int) ≤ r.pc) = false := by simpa using he
  have g1 : decide (r.n < 120) = true := by simpa using hn
  clear h hw0 hpe
  go_enter Try.func163, Try.ntmps163
  go_wp2
  go_quiet (fail)
  go_wp2_with (go_at_call 179; refine (needOk_any _ _).mono ?_; rintro e w' ⟨rfl, rfl⟩)
  have HW1 := Lib.hid ((HW.out.drewN nq).setCell (p := ⟨B, 14, none⟩) hbB (.int .i64 (r.n + 1)))
  have H1 := Lib.hid ((H.out.gr ((Gr.refl _).drewN nq)).setN (r.n + 1))
  clear c0 cP cN fP fN hlt
  have x0 := HW1.out.cell X.out.1
  have x1 := HW1.out.cell X.out.2.1
  have x2 := HW1.out.cell X.out.2.2.1
  have x3 := HW1.out.cell X.out.2.2.2
  have c0 := H1.out.c0
  have cP := H1.out.cP
  have fP := H1.out.free 13
  have hlt := H1.out.lt
  have hql := lt_of_cell x0
  simp only [] at hql
  generalize (w.drewN nq).setCell ⟨B, 14, none⟩ (.int .i64 (r.n + 1)) = W1 at HW1 H1 x0 x1 x2 x3 c0 cP fP hlt hql ⊢
  clear hx hm
  go_region
  have hsz : (W1.setCell ⟨B, 13, none⟩ (.int .i64 (r.pc + 1))).heap.size = W1.heap.size := by simp [World.setCell]
  have HW2 := Lib.hid (((HW1.out.setCell (p := ⟨B, 13, none⟩) hbB (.int .i64 (r.pc + 1))).alloc (.cells #[.int .i64 10, .int .i64 xa, .int .i64 xb, .int .i64 xc] 34)).drew)
  have H2 := Lib.hid (show RunAt F w0.heap.size _ B _ lps z r.next D vw vs from ((H1.out.setPc (r.pc + 1)).gr (((Gr.refl _).alloc (.cells #[.int .i64 10, .int .i64 xa, .int .i64 xb, .int .i64 xc] 34)).drew)))
  have HX2 := Lib.hid ((Out.new (w := W1.setCell ⟨B, 13, none⟩ (.int .i64 (r.pc + 1))) (T := 34) (cs := [.int .i64 10, .int .i64 xa, .int .i64 xb, .int .i64 xc])).drew)
  rw [hsz] at HX2
  clear hsz
  go_wp2
  clear x0 x1 x2 x3 c0 cP fP hlt hql
  have x1 := HX2.out.cell (i := 1) rfl
  have x2 := HX2.out.cell (i := 2) rfl
  have x3 := HX2.out.cell (i := 3) rfl
  have x0 := HX2.out.cell (i := 0) rfl
  generalize ((W1.setCell ⟨B, 13, none⟩ (.int .i64 (r.pc + 1))).alloc (.cells #[.int .i64 10, .int .i64 xa, .int .i64 xb, .int .i64 xc] 34)).drew = W2 at HW2 H2 HX2 x0 x1 x2 x3 ⊢
  obtain ⟨a0, a7⟩ := ha
  have ha8 : xa < 8 := by omega
  have ra := H2.out.cR xa a0 a7
  rw [hz] at ra
  have cP := H2.out.cP
  have fP := H2.out.free 13
  go_quiet (fail)
  go_wp2
  go_ret
  exact ⟨rfl, (HW2.out.drewN _).setCell hbB _, (H2.out.gr ((Gr.refl _).drewN _)).setPc xb⟩
set_option maxRecDepth 100000 in
set_option maxHeartbeats 1000000 in
theorem stepZeroNo_any (h : RunAt F w0.heap.size w B vp lps z r D vw vs) (hw0 : Gr w0 w) (hp : Sl 4 InsAt w0 vp p) (hm : r.may p) (he : r.pc < (p.length : Int)) (hn : r.n < 120) (xa xb xc : Int) (hx : p[r.pc.toNat]? = some ⟨10, xa, xb, xc⟩) (ha : mayReg xa) (hz : ¬ r.next.reg xa = 0) :
    Calls Try.prog 163 #[.pointer (some ⟨B, 0, none⟩)] w fun e w' => e = .returned (.bool true) ∧ Gr w0 w' ∧ RunAt F w0.heap.size w' B vp lps z (r.next) D vw vs := by
  obtain ⟨a, cap, rfl, hpc, hpm, -, hpe⟩ := hp
  unfold maxLen at hpm
  obtain ⟨q, o, rfl, x0, x1, x2, x3⟩ := hpe _ _ hx
  have X := Lib.hid (show InsAt w0 q (o + r.pc.toNat * 4) ⟨10, xa, xb, xc⟩ from ⟨x0, x1, x2, x3⟩)
  clear x0 x1 x2 x3
  have hm0 := hm.pc0
  have hm1 := hm.n0
  have c0 := h.c0
  have cP := h.cP
  have cN := h.cN
  have fP := h.free 13
  have fN := h.free 14
  have hlt := h.lt
  have H := Lib.hid h
  have HW := Lib.hid hw0
  have hbB : w0.heap.size ≤ B := h.bB
  have g0 : decide ((p.length : Int) ≤ r.pc) = false := by simpa using he
  have g1 : decide (r.n < 120) = true := by simpa using hn
  clear h hw0 hpe
  go_enter Try.func163, Try.ntmps163
  go_wp2
  go_quiet (fail)
  go_wp2_with (go_at_call 179; refine (needOk_any _ _).mono ?_; rintro e w' ⟨rfl, rfl⟩)
  have HW1 := Lib.hid ((HW.out.drewN nq).setCell (p := ⟨B, 14, none⟩) hbB (.int .i64 (r.n + 1)))
  have H1 := Lib.hid ((H.out.gr ((Gr.refl _).drewN nq)).setN (r.n + 1))
  clear c0 cP cN fP fN hlt
  have x0 := HW1.out.cell X.out.1
  have x1 := HW1.out.cell X.out.2.1
  have x2 := HW1.out.cell X.out.2.2.1
  have x3 := HW1.out.cell X.out.2.2.2
  have c0 := H1.out.c0
  have cP := H1.out.cP
  have fP := H1.out.free 13
  have hlt := H1.out.lt
  have hql := lt_of_cell x0
  simp only [] at hql
  generalize (w.drewN nq).setCell ⟨B, 14, none⟩ (.int .i64 (r.n + 1)) = W1 at HW1 H1 x0 x1 x2 x3 c0 cP fP hlt hql ⊢
  clear hx hm
  go_region
  have hsz : (W1.setCell ⟨B, 13, none⟩ (.int .i64 (r.pc + 1))).heap.size = W1.heap.size := by simp [World.setCell]
  have HW2 := Lib.hid (((HW1.out.setCell (p := ⟨B, 13, none⟩) hbB (.int .i64 (r.pc + 1))).alloc (.cells #[.int .i64 10, .int .i64 xa, .int .i64 xb, .int .i64 xc] 34)).drew)
  have H2 := Lib.hid (show RunAt F w0.heap.size _ B _ lps z r.next D vw vs from ((H1.out.setPc (r.pc + 1)).gr (((Gr.refl _).alloc (.cells #[.int .i64 10, .int .i64 xa, .int .i64 xb, .int .i64 xc] 34)).drew)))
  have HX2 := Lib.hid ((Out.new (w := W1.setCell ⟨B, 13, none⟩ (.int .i64 (r.pc + 1))) (T := 34) (cs := [.int .i64 10, .int .i64 xa, .int .i64 xb, .int .i64 xc])).drew)
  rw [hsz] at HX2
  clear hsz
  go_wp2
  clear x0 x1 x2 x3 c0 cP fP hlt hql
  have x1 := HX2.out.cell (i := 1) rfl
  have x2 := HX2.out.cell (i := 2) rfl
  have x3 := HX2.out.cell (i := 3) rfl
  have x0 := HX2.out.cell (i := 0) rfl
  generalize ((W1.setCell ⟨B, 13, none⟩ (.int .i64 (r.pc + 1))).alloc (.cells #[.int .i64 10, .int .i64 xa, .int .i64 xb, .int .i64 xc] 34)).drew = W2 at HW2 H2 HX2 x0 x1 x2 x3 ⊢
  obtain ⟨a0, a7⟩ := ha
  have ha8 : xa < 8 := by omega
  have ra := H2.out.cR xa a0 a7
  have gz : (r.next.reg xa == 0) = false := by simpa using hz
  go_quiet (fail)
  go_wp2
  go_ret
  exact ⟨rfl, (HW2.out.drewN _), (H2.out.gr ((Gr.refl _).drewN _))⟩
set_option maxRecDepth 100000 in
set_option maxHeartbeats 1000000 in
theorem stepSend_any (h : RunAt F w0.heap.size w B vp lps z r D vw vs) (hw0 : Gr w0 w) (hp : Sl 4 InsAt w0 vp p) (hm : r.may p) (he : r.pc < (p.length : Int)) (hn : r.n < 120) (xa xb xc : Int) (hx : p[r.pc.toNat]? = some ⟨12, xa, xb, xc⟩) (ha : mayReg xa) (hb : mayReg xb) (hc : mayReg xc) (hd : 0 ≤ r.next.reg xa) (hd' : r.next.reg xa < lps) (hf : r.next.sent.length < 4) :
    Calls Try.prog 163 #[.pointer (some ⟨B, 0, none⟩)] w fun e w' => e = .returned (.bool true) ∧ Gr w0 w' ∧ ∃ vs', RunAt F w0.heap.size w' B vp lps z ({ r.next with sent := r.next.sent ++ [⟨r.next.reg xa, r.next.reg xb, r.next.reg xc⟩] }) D vw vs' := by
  obtain ⟨a, cap, rfl, hpc, hpm, -, hpe⟩ := hp
  unfold maxLen at hpm
  obtain ⟨q, o, rfl, x0, x1, x2, x3⟩ := hpe _ _ hx
  have X := Lib.hid (show InsAt w0 q (o + r.pc.toNat * 4) ⟨12, xa, xb, xc⟩ from ⟨x0, x1, x2, x3⟩)
  clear x0 x1 x2 x3
  have hm0 := hm.pc0
  have hm1 := hm.n0
  have c0 := h.c0
  have cP := h.cP
  have cN := h.cN
  have fP := h.free 13
  have fN := h.free 14
  have hlt := h.lt
  have H := Lib.hid h
  have HW := Lib.hid hw0
  have hbB : w0.heap.size ≤ B := h.bB
  have g0 : decide ((p.length : Int) ≤ r.pc) = false := by simpa using he
  have g1 : decide (r.n < 120) = true := by simpa using hn
  clear h hw0 hpe
  go_enter Try.func163, Try.ntmps163
  go_wp2
  go_quiet (fail)
  go_wp2_with (go_at_call 179; refine (needOk_any _ _).mono ?_; rintro e w' ⟨rfl, rfl⟩)
  have HW1 := Lib.hid ((HW.out.drewN nq).setCell (p := ⟨B, 14, none⟩) hbB (.int .i64 (r.n + 1)))
  have H1 := Lib.hid ((H.out.gr ((Gr.refl _).drewN nq)).setN (r.n + 1))
  clear c0 cP cN fP fN hlt
  have x0 := HW1.out.cell X.out.1
  have x1 := HW1.out.cell X.out.2.1
  have x2 := HW1.out.cell X.out.2.2.1
  have x3 := HW1.out.cell X.out.2.2.2
  have c0 := H1.out.c0
  have cP := H1.out.cP
  have fP := H1.out.free 13
  have hlt := H1.out.lt
  have hql := lt_of_cell x0
  simp only [] at hql
  generalize (w.drewN nq).setCell ⟨B, 14, none⟩ (.int .i64 (r.n + 1)) = W1 at HW1 H1 x0 x1 x2 x3 c0 cP fP hlt hql ⊢
  clear hx hm
  go_region
  have hsz : (W1.setCell ⟨B, 13, none⟩ (.int .i64 (r.pc + 1))).heap.size = W1.heap.size := by simp [World.setCell]
  have HW2 := Lib.hid (((HW1.out.setCell (p := ⟨B, 13, none⟩) hbB (.int .i64 (r.pc + 1))).alloc (.cells #[.int .i64 12, .int .i64 xa, .int .i64 xb, .int .i64 xc] 34)).drew)
  have H2 := Lib.hid (show RunAt F w0.heap.size _ B _ lps z r.next D vw vs from ((H1.out.setPc (r.pc + 1)).gr (((Gr.refl _).alloc (.cells #[.int .i64 12, .int .i64 xa, .int .i64 xb, .int .i64 xc] 34)).drew)))
  have HX2 := Lib.hid ((Out.new (w := W1.setCell ⟨B, 13, none⟩ (.int .i64 (r.pc + 1))) (T := 34) (cs := [.int .i64 12, .int .i64 xa, .int .i64 xb, .int .i64 xc])).drew)
  rw [hsz] at HX2
  clear hsz
  go_wp2_with (go_at_call 181
               refine (send_any H2.out ⟨12, xa, xb, xc⟩ ha hb hc hd hd' hf rfl HW2.out).mono ?_
               rintro e w5 ⟨rfl, hg5, hr5⟩
               have HG5 := Lib.hid hg5
               have HR5 := Lib.hid hr5
               clear hg5 hr5)
  go_ret
  exact ⟨rfl, HG5.out, HR5.out⟩
set_option maxRecDepth 100000 in
set_option maxHeartbeats 1000000 in
theorem stepSendDst_any (h : RunAt F w0.heap.size w B vp lps z r D vw vs) (hw0 : Gr w0 w) (hp : Sl 4 InsAt w0 vp p) (hm : r.may p) (he : r.pc < (p.length : Int)) (hn : r.n < 120) (xa xb xc : Int) (hx : p[r.pc.toNat]? = some ⟨12, xa, xb, xc⟩) (ha : mayReg xa) (hd : r.next.reg xa < 0 ∨ lps ≤ r.next.reg xa) :
    Calls Try.prog 163 #[.pointer (some ⟨B, 0, none⟩)] w fun e w' => e = faultP 6 ∧ Gr w0 w' ∧ RunAt F w0.heap.size w' B vp lps z r.next D vw vs := by
  obtain ⟨a, cap, rfl, hpc, hpm, -, hpe⟩ := hp
  unfold maxLen at hpm
  obtain ⟨q, o, rfl, x0, x1, x2, x3⟩ := hpe _ _ hx
  have X := Lib.hid (show InsAt w0 q (o + r.pc.toNat * 4) ⟨12, xa, xb, xc⟩ from ⟨x0, x1, x2, x3⟩)
  clear x0 x1 x2 x3
  have hm0 := hm.pc0
  have hm1 := hm.n0
  have c0 := h.c0
  have cP := h.cP
  have cN := h.cN
  have fP := h.free 13
  have fN := h.free 14
  have hlt := h.lt
  have H := Lib.hid h
  have HW := Lib.hid hw0
  have hbB : w0.heap.size ≤ B := h.bB
  have g0 : decide ((p.length : Int) ≤ r.pc) = false := by simpa using he
  have g1 : decide (r.n < 120) = true := by simpa using hn
  clear h hw0 hpe
  go_enter Try.func163, Try.ntmps163
  go_wp2
  go_quiet (fail)
  go_wp2_with (go_at_call 179; refine (needOk_any _ _).mono ?_; rintro e w' ⟨rfl, rfl⟩)
  have HW1 := Lib.hid ((HW.out.drewN nq).setCell (p := ⟨B, 14, none⟩) hbB (.int .i64 (r.n + 1)))
  have H1 := Lib.hid ((H.out.gr ((Gr.refl _).drewN nq)).setN (r.n + 1))
  clear c0 cP cN fP fN hlt
  have x0 := HW1.out.cell X.out.1
  have x1 := HW1.out.cell X.out.2.1
  have x2 := HW1.out.cell X.out.2.2.1
  have x3 := HW1.out.cell X.out.2.2.2
  have c0 := H1.out.c0
  have cP := H1.out.cP
  have fP := H1.out.free 13
  have hlt := H1.out.lt
  have hql := lt_of_cell x0
  simp only [] at hql
  generalize (w.drewN nq).setCell ⟨B, 14, none⟩ (.int .i64 (r.n + 1)) = W1 at HW1 H1 x0 x1 x2 x3 c0 cP fP hlt hql ⊢
  clear hx hm
  go_region
  have hsz : (W1.setCell ⟨B, 13, none⟩ (.int .i64 (r.pc + 1))).heap.size = W1.heap.size := by simp [World.setCell]
  have HW2 := Lib.hid (((HW1.out.setCell (p := ⟨B, 13, none⟩) hbB (.int .i64 (r.pc + 1))).alloc (.cells #[.int .i64 12, .int .i64 xa, .int .i64 xb, .int .i64 xc] 34)).drew)
  have H2 := Lib.hid (show RunAt F w0.heap.size _ B _ lps z r.next D vw vs from ((H1.out.setPc (r.pc + 1)).gr (((Gr.refl _).alloc (.cells #[.int .i64 12, .int .i64 xa, .int .i64 xb, .int .i64 xc] 34)).drew)))
  have HX2 := Lib.hid ((Out.new (w := W1.setCell ⟨B, 13, none⟩ (.int .i64 (r.pc + 1))) (T := 34) (cs := [.int .i64 12, .int .i64 xa, .int .i64 xb, .int .i64 xc])).drew)
  rw [hsz] at HX2
  clear hsz
  go_wp2_with (go_at_call 181
               refine (sendDst_any H2.out ⟨12, xa, xb, xc⟩ ha hd).mono ?_
               rintro e w5 ⟨rfl, hg5⟩
               have HG5 := Lib.hid hg5
               clear hg5)
  exact ⟨rfl, rfl, HW2.out.trans HG5.out, H2.out.gr HG5.out⟩
set_option maxRecDepth 100000 in
set_option maxHeartbeats 1000000 in
theorem stepSendFull_any (h : RunAt F w0.heap.size w B vp lps z r D vw vs) (hw0 : Gr w0 w) (hp : Sl 4 InsAt w0 vp p) (hm : r.may p) (he : r.pc < (p.length : Int)) (hn : r.n < 120) (xa xb xc : Int) (hx : p[r.pc.toNat]? = some ⟨12, xa, xb, xc⟩) (ha : mayReg xa) (hd : 0 ≤ r.next.reg xa) (hd' : r.next.reg xa < lps) (hf : 4 ≤ r.next.sent.length) :
    Calls Try.prog 163 #[.pointer (some ⟨B, 0, none⟩)] w fun e w' => e = faultP 5 ∧ Gr w0 w' ∧ RunAt F w0.heap.size w' B vp lps z r.next D vw vs := by
  obtain ⟨a, cap, rfl, hpc, hpm, -, hpe⟩ := hp
  unfold maxLen at hpm
  obtain ⟨q, o, rfl, x0, x1, x2, x3⟩ := hpe _ _ hx
  have X := Lib.hid (show InsAt w0 q (o + r.pc.toNat * 4) ⟨12, xa, xb, xc⟩ from ⟨x0, x1, x2, x3⟩)
  clear x0 x1 x2 x3
  have hm0 := hm.pc0
  have hm1 := hm.n0
  have c0 := h.c0
  have cP := h.cP
  have cN := h.cN
  have fP := h.free 13
  have fN := h.free 14
  have hlt := h.lt
  have H := Lib.hid h
  have HW := Lib.hid hw0
  have hbB : w0.heap.size ≤ B := h.bB
  have g0 : decide ((p.length : Int) ≤ r.pc) = false := by simpa using he
  have g1 : decide (r.n < 120) = true := by simpa using hn
  clear h hw0 hpe
  go_enter Try.func163, Try.ntmps163
  go_wp2
  go_quiet (fail)
  go_wp2_with (go_at_call 179; refine (needOk_any _ _).mono ?_; rintro e w' ⟨rfl, rfl⟩)
  have HW1 := Lib.hid ((HW.out.drewN nq).setCell (p := ⟨B, 14, none⟩) hbB (.int .i64 (r.n + 1)))
  have H1 := Lib.hid ((H.out.gr ((Gr.refl _).drewN nq)).setN (r.n + 1))
  clear c0 cP cN fP fN hlt
  have x0 := HW1.out.cell X.out.1
  have x1 := HW1.out.cell X.out.2.1
  have x2 := HW1.out.cell X.out.2.2.1
  have x3 := HW1.out.cell X.out.2.2.2
  have c0 := H1.out.c0
  have cP := H1.out.cP
  have fP := H1.out.free 13
  have hlt := H1.out.lt
  have hql := lt_of_cell x0
  simp only [] at hql
  generalize (w.drewN nq).setCell ⟨B, 14, none⟩ (.int .i64 (r.n + 1)) = W1 at HW1 H1 x0 x1 x2 x3 c0 cP fP hlt hql ⊢
  clear hx hm
  go_region
  have hsz : (W1.setCell ⟨B, 13, none⟩ (.int .i64 (r.pc + 1))).heap.size = W1.heap.size := by simp [World.setCell]
  have HW2 := Lib.hid (((HW1.out.setCell (p := ⟨B, 13, none⟩) hbB (.int .i64 (r.pc + 1))).alloc (.cells #[.int .i64 12, .int .i64 xa, .int .i64 xb, .int .i64 xc] 34)).drew)
  have H2 := Lib.hid (show RunAt F w0.heap.size _ B _ lps z r.next D vw vs from ((H1.out.setPc (r.pc + 1)).gr (((Gr.refl _).alloc (.cells #[.int .i64 12, .int .i64 xa, .int .i64 xb, .int .i64 xc] 34)).drew)))
  have HX2 := Lib.hid ((Out.new (w := W1.setCell ⟨B, 13, none⟩ (.int .i64 (r.pc + 1))) (T := 34) (cs := [.int .i64 12, .int .i64 xa, .int .i64 xb, .int .i64 xc])).drew)
  rw [hsz] at HX2
  clear hsz
  go_wp2_with (go_at_call 181
               refine (sendFull_any H2.out ⟨12, xa, xb, xc⟩ ha hd hd' hf).mono ?_
               rintro e w5 ⟨rfl, hg5⟩
               have HG5 := Lib.hid hg5
               clear hg5)
  exact ⟨rfl, rfl, HW2.out.trans HG5.out, H2.out.gr HG5.out⟩
set_option maxRecDepth 100000 in
set_option maxHeartbeats 1000000 in
theorem stepComp_any (h : RunAt F w0.heap.size w B vp lps z r D vw vs) (hw0 : Gr w0 w) (hp : Sl 4 InsAt w0 vp p) (hm : r.may p) (he : r.pc < (p.length : Int)) (hn : r.n < 120) (op xa xb xc : Int) (hx : p[r.pc.toNat]? = some ⟨op, xa, xb, xc⟩) (hop : 3 ≤ op ∧ op ≤ 8) (hz : (op = 6 ∨ op = 7) → ¬ r.next.reg xc = 0) (ha : mayReg xa) (hb : mayReg xb) (hc : mayReg xc) :
    Calls Try.prog 163 #[.pointer (some ⟨B, 0, none⟩)] w fun e w' => e = .returned (.bool true) ∧ Gr w0 w' ∧ RunAt F w0.heap.size w' B vp lps z (r.next.out xa (twoV op (r.next.reg xb) (r.next.reg xc))) D vw vs := by
  obtain ⟨a, cap, rfl, hpc, hpm, -, hpe⟩ := hp
  unfold maxLen at hpm
  obtain ⟨q, o, rfl, x0, x1, x2, x3⟩ := hpe _ _ hx
  have X := Lib.hid (show InsAt w0 q (o + r.pc.toNat * 4) ⟨op, xa, xb, xc⟩ from ⟨x0, x1, x2, x3⟩)
  clear x0 x1 x2 x3
  have hm0 := hm.pc0
  have hm1 := hm.n0
  have c0 := h.c0
  have cP := h.cP
  have cN := h.cN
  have fP := h.free 13
  have fN := h.free 14
  have hlt := h.lt
  have H := Lib.hid h
  have HW := Lib.hid hw0
  have hbB : w0.heap.size ≤ B := h.bB
  have g0 : decide ((p.length : Int) ≤ r.pc) = false := by simpa using he
  have g1 : decide (r.n < 120) = true := by simpa using hn
  clear h hw0 hpe
  go_enter Try.func163, Try.ntmps163
  go_wp2
  go_quiet (fail)
  go_wp2_with (go_at_call 179; refine (needOk_any _ _).mono ?_; rintro e w' ⟨rfl, rfl⟩)
  have HW1 := Lib.hid ((HW.out.drewN nq).setCell (p := ⟨B, 14, none⟩) hbB (.int .i64 (r.n + 1)))
  have H1 := Lib.hid ((H.out.gr ((Gr.refl _).drewN nq)).setN (r.n + 1))
  clear c0 cP cN fP fN hlt
  have x0 := HW1.out.cell X.out.1
  have x1 := HW1.out.cell X.out.2.1
  have x2 := HW1.out.cell X.out.2.2.1
  have x3 := HW1.out.cell X.out.2.2.2
  have c0 := H1.out.c0
  have cP := H1.out.cP
  have fP := H1.out.free 13
  have hlt := H1.out.lt
  have hql := lt_of_cell x0
  simp only [] at hql
  generalize (w.drewN nq).setCell ⟨B, 14, none⟩ (.int .i64 (r.n + 1)) = W1 at HW1 H1 x0 x1 x2 x3 c0 cP fP hlt hql ⊢
  clear hx hm
  go_region
  have hsz : (W1.setCell ⟨B, 13, none⟩ (.int .i64 (r.pc + 1))).heap.size = W1.heap.size := by simp [World.setCell]
  have HW2 := Lib.hid (((HW1.out.setCell (p := ⟨B, 13, none⟩) hbB (.int .i64 (r.pc + 1))).alloc (.cells #[.int .i64 op, .int .i64 xa, .int .i64 xb, .int .i64 xc] 34)).drew)
  have H2 := Lib.hid (show RunAt F w0.heap.size _ B _ lps z r.next D vw vs from ((H1.out.setPc (r.pc + 1)).gr (((Gr.refl _).alloc (.cells #[.int .i64 op, .int .i64 xa, .int .i64 xb, .int .i64 xc] 34)).drew)))
  have HX2 := Lib.hid ((Out.new (w := W1.setCell ⟨B, 13, none⟩ (.int .i64 (r.pc + 1))) (T := 34) (cs := [.int .i64 op, .int .i64 xa, .int .i64 xb, .int .i64 xc])).drew)
  rw [hsz] at HX2
  clear hsz
  have n0 : (op == 0) = false := by simp; omega
  have n1 : (op == 1) = false := by simp; omega
  have n2 : (op == 2) = false := by simp; omega
  have n9 : (op == 9) = false := by simp; omega
  have n10 : (op == 10) = false := by simp; omega
  have n11 : (op == 11) = false := by simp; omega
  have n12 : (op == 12) = false := by simp; omega
  have n13 : (op == 13) = false := by simp; omega
  have n14 : (op == 14) = false := by simp; omega
  go_wp2_with (go_at_call 183
               refine (compute_any H2.out op xa xb xc hop hz ha hb hc rfl HW2.out).mono ?_
               rintro e w5 ⟨rfl, hg5, hr5⟩
               have HG5 := Lib.hid hg5
               have HR5 := Lib.hid hr5
               clear hg5 hr5)
  go_ret
  exact ⟨rfl, HG5.out, HR5.out⟩
set_option maxRecDepth 100000 in
set_option maxHeartbeats 1000000 in
theorem stepComp6Bad_any (h : RunAt F w0.heap.size w B vp lps z r D vw vs) (hw0 : Gr w0 w) (hp : Sl 4 InsAt w0 vp p) (hm : r.may p) (he : r.pc < (p.length : Int)) (hn : r.n < 120) (xa xb xc : Int) (hx : p[r.pc.toNat]? = some ⟨6, xa, xb, xc⟩) (hz : r.next.reg xc = 0) (ha : mayReg xa) (hb : mayReg xb) (hc : mayReg xc) :
    Calls Try.prog 163 #[.pointer (some ⟨B, 0, none⟩)] w fun e w' => e = faultP 2 ∧ Gr w0 w' ∧ RunAt F w0.heap.size w' B vp lps z r.next D vw vs := by
  obtain ⟨a, cap, rfl, hpc, hpm, -, hpe⟩ := hp
  unfold maxLen at hpm
  obtain ⟨q, o, rfl, x0, x1, x2, x3⟩ := hpe _ _ hx
  have X := Lib.hid (show InsAt w0 q (o + r.pc.toNat * 4) ⟨6, xa, xb, xc⟩ from ⟨x0, x1, x2, x3⟩)
  clear x0 x1 x2 x3
  have hm0 := hm.pc0
  have hm1 := hm.n0
  have c0 := h.c0
  have cP := h.cP
  have cN := h.cN
  have fP := h.free 13
  have fN := h.free 14
  have hlt := h.lt
  have H := Lib.hid h
  have HW := Lib.hid hw0
  have hbB : w0.heap.size ≤ B := h.bB
  have g0 : decide ((p.length : Int) ≤ r.pc) = false := by simpa using he
  have g1 : decide (r.n < 120) = true := by simpa using hn
  clear h hw0 hpe
  go_enter Try.func163, Try.ntmps163
  go_wp2
  go_quiet (fail)
  go_wp2_with (go_at_call 179; refine (needOk_any _ _).mono ?_; rintro e w' ⟨rfl, rfl⟩)
  have HW1 := Lib.hid ((HW.out.drewN nq).setCell (p := ⟨B, 14, none⟩) hbB (.int .i64 (r.n + 1)))
  have H1 := Lib.hid ((H.out.gr ((Gr.refl _).drewN nq)).setN (r.n + 1))
  clear c0 cP cN fP fN hlt
  have x0 := HW1.out.cell X.out.1
  have x1 := HW1.out.cell X.out.2.1
  have x2 := HW1.out.cell X.out.2.2.1
  have x3 := HW1.out.cell X.out.2.2.2
  have c0 := H1.out.c0
  have cP := H1.out.cP
  have fP := H1.out.free 13
  have hlt := H1.out.lt
  have hql := lt_of_cell x0
  simp only [] at hql
  generalize (w.drewN nq).setCell ⟨B, 14, none⟩ (.int .i64 (r.n + 1)) = W1 at HW1 H1 x0 x1 x2 x3 c0 cP fP hlt hql ⊢
  clear hx hm
  go_region
  have hsz : (W1.setCell ⟨B, 13, none⟩ (.int .i64 (r.pc + 1))).heap.size = W1.heap.size := by simp [World.setCell]
  have HW2 := Lib.hid (((HW1.out.setCell (p := ⟨B, 13, none⟩) hbB (.int .i64 (r.pc + 1))).alloc (.cells #[.int .i64 6, .int .i64 xa, .int .i64 xb, .int .i64 xc] 34)).drew)
  have H2 := Lib.hid (show RunAt F w0.heap.size _ B _ lps z r.next D vw vs from ((H1.out.setPc (r.pc + 1)).gr (((Gr.refl _).alloc (.cells #[.int .i64 6, .int .i64 xa, .int .i64 xb, .int .i64 xc] 34)).drew)))
  have HX2 := Lib.hid ((Out.new (w := W1.setCell ⟨B, 13, none⟩ (.int .i64 (r.pc + 1))) (T := 34) (cs := [.int .i64 6, .int .i64 xa, .int .i64 xb, .int .i64 xc])).drew)
  rw [hsz] at HX2
  clear hsz
  go_wp2_with (go_at_call 183
               refine (computeBad_any H2.out 6 xa xb xc (by simp) hz ha hb hc rfl HW2.out).mono ?_
               rintro e w5 ⟨rfl, hg5⟩
               have HG5 := Lib.hid hg5
               clear hg5)
  exact ⟨rfl, rfl, HW2.out.trans HG5.out, H2.out.gr HG5.out⟩
set_option maxRecDepth 100000 in
set_option maxHeartbeats 1000000 in
theorem stepComp7Bad_any (h : RunAt F w0.heap.size w B vp lps z r D vw vs) (hw0 : Gr w0 w) (hp : Sl 4 InsAt w0 vp p) (hm : r.may p) (he : r.pc < (p.length : Int)) (hn : r.n < 120) (xa xb xc : Int) (hx : p[r.pc.toNat]? = some ⟨7, xa, xb, xc⟩) (hz : r.next.reg xc = 0) (ha : mayReg xa) (hb : mayReg xb) (hc : mayReg xc) :
    Calls Try.prog 163 #[.pointer (some ⟨B, 0, none⟩)] w fun e w' => e = faultP 2 ∧ Gr w0 w' ∧ RunAt F w0.heap.size w' B vp lps z r.next D vw vs := by
  obtain ⟨a, cap, rfl, hpc, hpm, -, hpe⟩ := hp
  unfold maxLen at hpm
  obtain ⟨q, o, rfl, x0, x1, x2, x3⟩ := hpe _ _ hx
  have X := Lib.hid (show InsAt w0 q (o + r.pc.toNat * 4) ⟨7, xa, xb, xc⟩ from ⟨x0, x1, x2, x3⟩)
  clear x0 x1 x2 x3
  have hm0 := hm.pc0
  have hm1 := hm.n0
  have c0 := h.c0
  have cP := h.cP
  have cN := h.cN
  have fP := h.free 13
  have fN := h.free 14
  have hlt := h.lt
  have H := Lib.hid h
  have HW := Lib.hid hw0
  have hbB : w0.heap.size ≤ B := h.bB
  have g0 : decide ((p.length : Int) ≤ r.pc) = false := by simpa using he
  have g1 : decide (r.n < 120) = true := by simpa using hn
  clear h hw0 hpe
  go_enter Try.func163, Try.ntmps163
  go_wp2
  go_quiet (fail)
  go_wp2_with (go_at_call 179; refine (needOk_any _ _).mono ?_; rintro e w' ⟨rfl, rfl⟩)
  have HW1 := Lib.hid ((HW.out.drewN nq).setCell (p := ⟨B, 14, none⟩) hbB (.int .i64 (r.n + 1)))
  have H1 := Lib.hid ((H.out.gr ((Gr.refl _).drewN nq)).setN (r.n + 1))
  clear c0 cP cN fP fN hlt
  have x0 := HW1.out.cell X.out.1
  have x1 := HW1.out.cell X.out.2.1
  have x2 := HW1.out.cell X.out.2.2.1
  have x3 := HW1.out.cell X.out.2.2.2
  have c0 := H1.out.c0
  have cP := H1.out.cP
  have fP := H1.out.free 13
  have hlt := H1.out.lt
  have hql := lt_of_cell x0
  simp only [] at hql
  generalize (w.drewN nq).setCell ⟨B, 14, none⟩ (.int .i64 (r.n + 1)) = W1 at HW1 H1 x0 x1 x2 x3 c0 cP fP hlt hql ⊢
  clear hx hm
  go_region
  have hsz : (W1.setCell ⟨B, 13, none⟩ (.int .i64 (r.pc + 1))).heap.size = W1.heap.size := by simp [World.setCell]
  have HW2 := Lib.hid (((HW1.out.setCell (p := ⟨B, 13, none⟩) hbB (.int .i64 (r.pc + 1))).alloc (.cells #[.int .i64 7, .int .i64 xa, .int .i64 xb, .int .i64 xc] 34)).drew)
  have H2 := Lib.hid (show RunAt F w0.heap.size _ B _ lps z r.next D vw vs from ((H1.out.setPc (r.pc + 1)).gr (((Gr.refl _).alloc (.cells #[.int .i64 7, .int .i64 xa, .int .i64 xb, .int .i64 xc] 34)).drew)))
  have HX2 := Lib.hid ((Out.new (w := W1.setCell ⟨B, 13, none⟩ (.int .i64 (r.pc + 1))) (T := 34) (cs := [.int .i64 7, .int .i64 xa, .int .i64 xb, .int .i64 xc])).drew)
  rw [hsz] at HX2
  clear hsz
  go_wp2_with (go_at_call 183
               refine (computeBad_any H2.out 7 xa xb xc (by simp) hz ha hb hc rfl HW2.out).mono ?_
               rintro e w5 ⟨rfl, hg5⟩
               have HG5 := Lib.hid hg5
               clear hg5)
  exact ⟨rfl, rfl, HW2.out.trans HG5.out, H2.out.gr HG5.out⟩
end
end Go.Proofs.Ytkoopobfelcgpaa
