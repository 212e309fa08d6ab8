/- layer 7: a run in memory -/
import Derived.Test.YtkoopobfelcgpaaH2
import Derived.Test.YtkoopobfelcgpaaWLast
set_option linter.unusedSimpArgs false
set_option linter.unusedVariables false
namespace Go.Proofs.Ytkoopobfelcgpaa
open Go.RowKit Go.Proofs.YtkoopobfelcgpaaW.PrintLast

/-- append(v, u...) at a step of a region that is walked by hand (PrintLast). -/
theorem one_append_list {α : Type} {cells : α → List Value} {e sz bytes : Nat} {z : Value} {w : World} {ops : Array Oper} {o : Oper} {a : Act} {K : Act → World → Prop} {Q : Exit → Act → World → Prop} {E : Prop} (N : Option Tmp) (hN : o.dst = N) (hgd : o.guard = none) (s x : Operand) (t : TypeId) (ho : o.op = .call { callee := .builtin .append, args := #[s, x], argTypes := #[t, t] })
    (base : Nat) (ht : Try.prog.underlying t = some (.slice e)) (hi : (Try.prog.info? e).map (fun i => (i.zero, i.size, i.bytes)) = some (some z, sz, bytes))
    (hzs : z.cells.size = sz) (hsz : 0 < sz) (hlen : ∀ x, (cells x).length = sz) (h1 : ∀ x, ∀ u ∈ cells x, u.oneCell' = true)
    (v u : Value) (hs : a.eval s = v) (hx : a.eval x = u) (l r : List α) (hown : Own base e sz cells w v l) (hsl : Sl sz (FlatAt cells) w u r) (h63 : l.length + r.length ≤ maxLen) (hbytes : (l.length + r.length) * bytes ≤ 140737488355328) (hbase : base ≤ w.heap.size)
    (h : ∀ v' w', Own base e sz cells w' v' (l ++ r) → w.grownBy w' v.ownBlock → (v'.ownBlock = v.ownBlock ∨ v'.ownBlock = some w.heap.size) → K (a.put N v') w') :
    if Region.wanted o (yielded ops a.tmps) = true then Oper.wp Try.prog o a w K Q else E := by
  subst hN
  exact step_append_list hgd s x t ho base ht hi hzs hsz hlen h1 v u hs hx l r hown hsl h63 hbytes hbase h
structure PSent where
  dst : Int
  delay : Int
  pay : Int
def intC (n : Int) : List Value := [.int .i64 n]
def sentC (x : PSent) : List Value := [.int .i64 x.dst, .int .i64 x.delay, .int .i64 x.pay]
/-- a run: registers, words, what was sent, rolls, the place, steps -/
structure VR where
  g : List Int
  w : List Int
  sent : List PSent
  dice : Int
  pc : Int
  n : Int
def VR.reg (r : VR) (k : Int) : Int := r.g.getD k.toNat 0
/-- the cells of a run's block -/
def runC (vp : Value) (g : List Int) (vw : Value) (lps : Int) (D : Nat) (vs : Value) (pc n : Int) : List Value :=
  vp :: (g.map (.int .i64) ++ [vw, .int .i64 lps, .pointer (some ⟨D, 0, none⟩), vs, .int .i64 pc, .int .i64 n])
/-- k, if it is one, is a block of whole numbers that may be written -/
def IntBlk (w : World) (F : Option Nat) : Prop := ∀ k, F = some k → ∃ c : Array Value, w.heap[k]? = some (.cells c 3 (0, 0)) ∧ 0 < c.size
theorem IntBlk.gr {w w' : World} {F : Option Nat} (h : IntBlk w F) (g : Gr w w') : IntBlk w' F := fun k hk => by
  obtain ⟨c, hc, h0⟩ := h k hk
  refine ⟨c, ?_, h0⟩
  have hl : k < w.heap.size := by
    rcases Nat.lt_or_ge k w.heap.size with g | g
    · exact g
    · rw [Array.getElem?_eq_none g] at hc; cases hc
  rw [g.block k hl]; exact hc
theorem IntBlk.set {w : World} {F : Option Nat} (h : IntBlk w F) (a : Addr) (v : Value) : IntBlk (w.setCell a v) F := fun k hk => by
  obtain ⟨c, hc, h0⟩ := h k hk
  by_cases he : a.block = k
  · refine ⟨if a.spot.isSome = true then c else c.setIfInBounds a.off v, ?_, by split <;> simpa using h0⟩
    simp only [World.setCell]
    rw [Array.getElem?_modify, if_pos he, hc]
    simp
  · refine ⟨c, ?_, h0⟩
    rw [Below.heap_setCell w a v k (fun e => he e.symm)]; exact hc
theorem IntBlk.grown {α : Type} {base e sz : Nat} {cells : α → List Value} {w w' : World} {v : Value} {l : List α} {F : Option Nat} (h : IntBlk w F) (h' : Own base e sz cells w v l) (hne : e ≠ 3) (hg : w.grownBy w' v.ownBlock) : IntBlk w' F := fun k hk => by
  obtain ⟨c, hc, h0⟩ := h k hk
  refine ⟨c, ?_, h0⟩
  have hl : k < w.heap.size := by
    rcases Nat.lt_or_ge k w.heap.size with g | g
    · exact g
    · rw [Array.getElem?_eq_none g] at hc; cases hc
  rw [hg.block k hl (fun e => (h'.far hc hne) e.symm)]; exact hc
theorem IntBlk.none {w : World} : IntBlk w Option.none := fun k hk => by cases hk
theorem IntBlk.cell {w : World} {k : Nat} (h : IntBlk w (some k)) : (∃ v, w.cell? ⟨k, 0, Option.none⟩ = some v) ∧ w.frozen? ⟨k, 0, Option.none⟩ = false := by
  obtain ⟨c, hc, h0⟩ := h k rfl
  exact ⟨⟨c[0], by simp [World.cell?, hc, h0]⟩, by simp [World.frozen?, hc]⟩
structure RunAt (F : Option Nat) (b : Nat) (w : World) (B : Nat) (vp : Value) (lps z : Int) (r : VR) (D : Nat) (vw vs : Value) : Prop where
  g8 : r.g.length = 8
  bB : b ≤ B
  bD : b ≤ D
  out : Out 174 w B (runC vp r.g vw lps D vs r.pc r.n)
  dice : Out 207 w D [.int .u64 z, .int .i64 r.dice]
  words : Own b 3 1 intC w vw r.w
  sent : Own b 60 3 sentC w vs r.sent
  intF : IntBlk w F
  neF : ∀ k, F = some k → vw.ownBlock ≠ some k

section
variable {vp : Value} {g : List Int} {vw : Value} {lps : Int} {D : Nat} {vs : Value} {pc n : Int} (h8 : g.length = 8)
theorem runC_reg (k : Nat) (hk : k < 8) (h8 : g.length = 8) : (runC vp g vw lps D vs pc n)[1 + k]? = some (.int .i64 (g.getD k 0)) := by
  unfold runC
  rw [Nat.add_comm, List.getElem?_cons_succ, List.getElem?_append_left (by simp; omega)]
  simp [List.getElem?_eq_getElem (show k < g.length by omega)]
theorem runC_tail (k : Nat) (h8 : g.length = 8) : (runC vp g vw lps D vs pc n)[9 + k]? = ([vw, .int .i64 lps, .pointer (some ⟨D, 0, none⟩), vs, .int .i64 pc, .int .i64 n] : List Value)[k]? := by
  unfold runC
  rw [show 9 + k = (8 + k) + 1 by omega, List.getElem?_cons_succ, List.getElem?_append_right (by simp; omega)]
  simp [h8]
theorem runC_setReg (k : Nat) (hk : k < 8) (x : Int) (h8 : g.length = 8) : (runC vp g vw lps D vs pc n).set (1 + k) (.int .i64 x) = runC vp (g.set k x) vw lps D vs pc n := by
  unfold runC
  rw [Nat.add_comm, List.set_cons_succ, List.set_append_left _ _ (by simp; omega)]
  simp
theorem runC_setPc (x : Int) (h8 : g.length = 8) : (runC vp g vw lps D vs pc n).set 13 (.int .i64 x) = runC vp g vw lps D vs x n := by
  unfold runC
  rw [show 13 = 12 + 1 from rfl, List.set_cons_succ, List.set_append_right _ _ (by simp; omega)]
  simp [h8]
theorem runC_setN (x : Int) (h8 : g.length = 8) : (runC vp g vw lps D vs pc n).set 14 (.int .i64 x) = runC vp g vw lps D vs pc x := by
  unfold runC
  rw [show 14 = 13 + 1 from rfl, List.set_cons_succ, List.set_append_right _ _ (by simp; omega)]
  simp [h8]
theorem runC_setSent (x : Value) (h8 : g.length = 8) : (runC vp g vw lps D vs pc n).set 12 x = runC vp g vw lps D x pc n := by
  unfold runC
  rw [show 12 = 11 + 1 from rfl, List.set_cons_succ, List.set_append_right _ _ (by simp; omega)]
  simp [h8]
end

section
variable {F : Option Nat} {b : Nat} {w : World} {B : Nat} {vp : Value} {lps z : Int} {r : VR} {D : Nat} {vw vs : Value} (h : RunAt F b w B vp lps z r D vw vs)
theorem RunAt.c0 (h : RunAt F b w B vp lps z r D vw vs) : w.cell? ⟨B, 0, none⟩ = some vp := h.out.cell rfl
theorem RunAt.cR (h : RunAt F b w B vp lps z r D vw vs) (k : Int) (h0 : 0 ≤ k) (h7 : k ≤ 7) : w.cell? ⟨B, 1 + k.toNat, none⟩ = some (.int .i64 (r.reg k)) := h.out.cell (runC_reg _ (by omega) h.g8)
theorem RunAt.cW (h : RunAt F b w B vp lps z r D vw vs) : w.cell? ⟨B, 9, none⟩ = some vw := h.out.cell (runC_tail 0 h.g8)
theorem RunAt.cL (h : RunAt F b w B vp lps z r D vw vs) : w.cell? ⟨B, 10, none⟩ = some (.int .i64 lps) := h.out.cell (runC_tail 1 h.g8)
theorem RunAt.cD (h : RunAt F b w B vp lps z r D vw vs) : w.cell? ⟨B, 11, none⟩ = some (.pointer (some ⟨D, 0, none⟩)) := h.out.cell (runC_tail 2 h.g8)
theorem RunAt.cS (h : RunAt F b w B vp lps z r D vw vs) : w.cell? ⟨B, 12, none⟩ = some vs := h.out.cell (runC_tail 3 h.g8)
theorem RunAt.cP (h : RunAt F b w B vp lps z r D vw vs) : w.cell? ⟨B, 13, none⟩ = some (.int .i64 r.pc) := h.out.cell (runC_tail 4 h.g8)
theorem RunAt.cN (h : RunAt F b w B vp lps z r D vw vs) : w.cell? ⟨B, 14, none⟩ = some (.int .i64 r.n) := h.out.cell (runC_tail 5 h.g8)
theorem RunAt.free (h : RunAt F b w B vp lps z r D vw vs) (k : Nat) : w.frozen? ⟨B, k, none⟩ = false := h.out.free k
theorem RunAt.gr {w' : World} (h : RunAt F b w B vp lps z r D vw vs) (g : Gr w w') : RunAt F b w' B vp lps z r D vw vs :=
  ⟨h.g8, h.bB, h.bD, h.out.gr g, h.dice.gr g, h.words.gr g, h.sent.gr g, h.intF.gr g, h.neF⟩
theorem RunAt.lt (h : RunAt F b w B vp lps z r D vw vs) : B < w.heap.size := h.out.lt
/-- a cell of the run's own block is written -/
theorem RunAt.setB (h : RunAt F b w B vp lps z r D vw vs) (i : Nat) (u : Value) (r' : VR) (h8 : r'.g.length = 8) (he : (runC vp r.g vw lps D vs r.pc r.n).set i u = runC vp r'.g vw lps D vs r'.pc r'.n) (e1 : r'.w = r.w) (e2 : r'.sent = r.sent) (e3 : r'.dice = r.dice) :
    RunAt F b (w.setCell ⟨B, i, none⟩ u) B vp lps z r' D vw vs := by
  have hDB : D ≠ B := by
    intro e
    have h1 := h.out.is
    have h2 := h.dice.is
    rw [e] at h2
    rw [h1] at h2
    injection h2 with h2; injection h2 with _ h2; exact absurd h2 (by decide)
  refine ⟨h8, h.bB, h.bD, ?_, ?_, ?_, ?_, h.intF.set _ _, h.neF⟩
  · rw [← he]; exact h.out.set i u
  · rw [e3]; exact h.dice.set_other hDB
  · rw [e1]; exact h.words.set h.out.is (by decide) u
  · rw [e2]; exact h.sent.set h.out.is (by decide) u
theorem RunAt.setReg (h : RunAt F b w B vp lps z r D vw vs) (k : Int) (h0 : 0 ≤ k) (h7 : k ≤ 7) (x : Int) : RunAt F b (w.setCell ⟨B, 1 + k.toNat, none⟩ (.int .i64 x)) B vp lps z { r with g := r.g.set k.toNat x } D vw vs :=
  h.setB _ _ _ (by simpa using h.g8) (runC_setReg _ (by omega) x h.g8) rfl rfl rfl
theorem RunAt.setPc (h : RunAt F b w B vp lps z r D vw vs) (x : Int) : RunAt F b (w.setCell ⟨B, 13, none⟩ (.int .i64 x)) B vp lps z { r with pc := x } D vw vs :=
  h.setB _ _ _ h.g8 (runC_setPc x h.g8) rfl rfl rfl
theorem RunAt.setN (h : RunAt F b w B vp lps z r D vw vs) (x : Int) : RunAt F b (w.setCell ⟨B, 14, none⟩ (.int .i64 x)) B vp lps z { r with n := x } D vw vs :=
  h.setB _ _ _ h.g8 (runC_setN x h.g8) rfl rfl rfl
end

theorem word_any {F : Option Nat} {b : Nat} {w : World} {B : Nat} {vp : Value} {lps z : Int} {r : VR} {D : Nat} {vw vs : Value} (h : RunAt F b w B vp lps z r D vw vs) (k : Int) (h0 : 0 ≤ k) (h7 : k ≤ 7)
    (hi : 0 ≤ r.reg k) (hl : r.reg k < r.w.length) :
    Calls Try.prog 182 #[.pointer (some ⟨B, 0, none⟩), .int .i64 k] w fun e w' => (∃ a m, vw = .slice (some ⟨a, 0, none⟩) r.w.length m ∧ e = .returned (.pointer (some ⟨a, (r.reg k).toNat, none⟩))) ∧ w = w' := by
  have c1 := h.cR k h0 h7
  have c2 := h.cW
  obtain ⟨hx, ⟨rfl, hn⟩ | ⟨g, cap, cur, rfl, hb, hg, hnc, hcm, hcs, ht⟩⟩ := h.words
  · omega
  have g0 : decide (0 ≤ r.reg k) = true := by simpa using hi
  have g1 : decide (r.reg k < (r.w.length : Int)) = true := by simpa using hl
  have hk : k < 8 := by omega
  go_enter Try.func182, Try.ntmps182
  go_wp2_with (go_at_call 179; refine (needOk_any _ _).mono ?_; rintro e w' ⟨rfl, rfl⟩)
  go_ret
  exact ⟨⟨g, cap, rfl, rfl⟩, rfl⟩
theorem wordBad_any {F : Option Nat} {b : Nat} {w : World} {B : Nat} {vp : Value} {lps z : Int} {r : VR} {D : Nat} {vw vs : Value} (h : RunAt F b w B vp lps z r D vw vs) (k : Int) (h0 : 0 ≤ k) (h7 : k ≤ 7)
    (hi : r.reg k < 0 ∨ (r.w.length : Int) ≤ r.reg k) :
    Calls Try.prog 182 #[.pointer (some ⟨B, 0, none⟩), .int .i64 k] w fun e w' => e = faultP 3 ∧ w = w' := by
  have c1 := h.cR k h0 h7
  have c2 := h.cW
  obtain ⟨a, cap, rfl⟩ := h.words.shape
  have hk : k < 8 := by omega
  by_cases hz : r.reg k < 0
  · have g0 : decide (0 ≤ r.reg k) = false := by simp; omega
    go_enter Try.func182, Try.ntmps182
    go_wp2_with (go_at_call 179; refine (needBad_any _ _).mono ?_; rintro e w' ⟨rfl, rfl⟩)
    exact ⟨rfl, rfl, rfl⟩
  · have g0 : decide (0 ≤ r.reg k) = true := by simp; omega
    have g1 : decide (r.reg k < (r.w.length : Int)) = false := by simp; omega
    go_enter Try.func182, Try.ntmps182
    go_wp2_with (go_at_call 179; refine (needBad_any _ _).mono ?_; rintro e w' ⟨rfl, rfl⟩)
    exact ⟨rfl, rfl, rfl⟩

abbrev insV (x : PIns) : Value := .agg #[.int .i64 x.op, .int .i64 x.a, .int .i64 x.b, .int .i64 x.c]
def mayReg (k : Int) : Prop := 0 ≤ k ∧ k ≤ 7
section
variable {F : Option Nat} {b : Nat} {w : World} {B : Nat} {vp : Value} {lps z : Int} {r : VR} {D : Nat} {vw vs : Value}
theorem sendDst_any (h : RunAt F b w B vp lps z r D vw vs) (x : PIns) (ha : mayReg x.a) (hd : r.reg x.a < 0 ∨ lps ≤ r.reg x.a) :
    Calls Try.prog 181 #[.pointer (some ⟨B, 0, none⟩), insV x] w fun e w' => e = faultP 6 ∧ Gr w w' := by
  obtain ⟨h0, h7⟩ := ha
  have hk : x.a < 8 := by omega
  have h' := h.gr ((Gr.refl w).alloc (.cells #[.int .i64 x.op, .int .i64 x.a, .int .i64 x.b, .int .i64 x.c] 34))
  have c1 := h'.cR x.a h0 h7
  have c2 := h'.cL
  have hlt := h.lt
  by_cases hz : r.reg x.a < 0
  · have g0 : decide (0 ≤ r.reg x.a) = false := by simp; omega
    go_enter Try.func181, Try.ntmps181
    go_wp2
    go_quiet (fail)
    go_wp2_with (go_at_call 179; refine (needBad_any _ _).mono ?_; rintro e w' ⟨rfl, rfl⟩)
    exact ⟨rfl, rfl, by repeat (first | exact Gr.refl _ | refine Gr.drewN ?_ _ | refine Gr.drew ?_ | refine Gr.alloc ?_ _)⟩
  · have g0 : decide (0 ≤ r.reg x.a) = true := by simp; omega
    have g1 : decide (r.reg x.a < lps) = false := by simp; omega
    go_enter Try.func181, Try.ntmps181
    go_wp2
    go_quiet (fail)
    go_wp2_with (go_at_call 179; refine (needBad_any _ _).mono ?_; rintro e w' ⟨rfl, rfl⟩)
    exact ⟨rfl, rfl, by repeat (first | exact Gr.refl _ | refine Gr.drewN ?_ _ | refine Gr.drew ?_ | refine Gr.alloc ?_ _)⟩
theorem sendFull_any (h : RunAt F b w B vp lps z r D vw vs) (x : PIns) (ha : mayReg x.a) (hd : 0 ≤ r.reg x.a) (hd' : r.reg x.a < lps) (hf : 4 ≤ r.sent.length) :
    Calls Try.prog 181 #[.pointer (some ⟨B, 0, none⟩), insV x] w fun e w' => e = faultP 5 ∧ Gr w w' := by
  obtain ⟨h0, h7⟩ := ha
  have hk : x.a < 8 := by omega
  have h' := h.gr ((Gr.refl w).alloc (.cells #[.int .i64 x.op, .int .i64 x.a, .int .i64 x.b, .int .i64 x.c] 34))
  have c1 := h'.cR x.a h0 h7
  have c2 := h'.cL
  have c3 := h'.cS
  obtain ⟨a, cap, rfl⟩ := h.sent.shape
  have hlt := h.lt
  have g0 : decide (0 ≤ r.reg x.a) = true := by simpa using hd
  have g1 : decide (r.reg x.a < lps) = true := by simpa using hd'
  have g2 : decide ((r.sent.length : Int) < 4) = false := by simp; omega
  go_enter Try.func181, Try.ntmps181
  go_wp2
  go_quiet (fail)
  go_wp2_with (go_at_call 179; first | (with_reducible refine (needOk_any _ _).mono ?_; rintro e w' ⟨rfl, rfl⟩) | (with_reducible refine (needBad_any _ _).mono ?_; rintro e w' ⟨rfl, rfl⟩))
  exact ⟨rfl, rfl, by repeat (first | exact Gr.refl _ | refine Gr.drewN ?_ _ | refine Gr.drew ?_ | refine Gr.alloc ?_ _)⟩
theorem i60 : (Try.prog.info? 60).map (fun i => (i.zero, i.size, i.bytes)) = some (some (.agg #[.int .i64 0, .int .i64 0, .int .i64 0]), 3, 24) := by kernel_rfl
theorem RunAt.sentGrown {W W' : World} {vs' : Value} {l : List PSent} (h : RunAt F b W B vp lps z r D vw vs) (hg : W.grownBy W' vs.ownBlock) (ho : Own b 60 3 sentC W' vs' l) :
    RunAt F b (W'.setCell ⟨B, 12, none⟩ vs') B vp lps z { r with sent := l } D vw vs' ∧ W'.frozen? ⟨B, 12, none⟩ = false ∧ W'.cell? ⟨B, 12, none⟩ = some vs := by
  have h1 : Out 174 W' B _ := h.out.grown h.sent (by decide) hg
  have h2 : Out 207 W' D _ := h.dice.grown h.sent (by decide) hg
  have h3 : Own b 3 1 intC W' vw r.w := h.words.grown h.sent (by decide) hg
  have hDB : D ≠ B := by
    intro e
    have a1 := h1.is
    have a2 := h2.is
    rw [e] at a2
    rw [a1] at a2
    injection a2 with a2; injection a2 with _ a2; exact absurd a2 (by decide)
  refine ⟨⟨h.g8, h.bB, h.bD, ?_, h2.set_other hDB, h3.set h1.is (by decide) _, ho.set h1.is (by decide) _, (h.intF.grown h.sent (by decide) hg).set _ _, h.neF⟩, h1.free 12, h1.cell (runC_tail 3 h.g8)⟩
  have := h1.set 12 vs'
  rw [runC_setSent vs' h.g8] at this
  exact this
set_option maxRecDepth 100000 in
set_option maxHeartbeats 2000000 in
theorem send_any (h : RunAt F b w B vp lps z r D vw vs) (x : PIns) (ha : mayReg x.a) (hb : mayReg x.b) (hc : mayReg x.c) (hd : 0 ≤ r.reg x.a) (hd' : r.reg x.a < lps) (hf : r.sent.length < 4) {w0 : World} (hb0' : b = w0.heap.size) (hw0 : Gr w0 w) :
    Calls Try.prog 181 #[.pointer (some ⟨B, 0, none⟩), insV x] w fun e w' => e = .returned (.tuple #[]) ∧ Gr w0 w' ∧ ∃ vs', RunAt F b w' B vp lps z { r with sent := r.sent ++ [⟨r.reg x.a, r.reg x.b, r.reg x.c⟩] } D vw vs' := by
  obtain ⟨h0, h7⟩ := ha
  obtain ⟨hb0, hb7⟩ := hb
  obtain ⟨hc0, hc7⟩ := hc
  have hk : x.a < 8 := by omega
  have hk1 : x.b < 8 := by omega
  have hk2 : x.c < 8 := by omega
  have h' := h.gr ((Gr.refl w).alloc (.cells #[.int .i64 x.op, .int .i64 x.a, .int .i64 x.b, .int .i64 x.c] 34))
  have c1 := h'.cR x.a h0 h7
  have c1b := h'.cR x.b hb0 hb7
  have c1c := h'.cR x.c hc0 hc7
  have c2 := h'.cL
  have c3 := h'.cS
  obtain ⟨a, cap, rfl⟩ := h.sent.shape
  have hlt := h.lt
  have g0 : decide (0 ≤ r.reg x.a) = true := by simpa using hd
  have g1 : decide (r.reg x.a < lps) = true := by simpa using hd'
  have g2 : decide ((r.sent.length : Int) < 4) = true := by simp; omega
  have H := Lib.hid h'
  have hbB : w0.heap.size ≤ B := by have := h.bB; omega
  have HW := Lib.hid (hw0.alloc (.cells #[.int .i64 x.op, .int .i64 x.a, .int .i64 x.b, .int .i64 x.c] 34))
  have hbase : b ≤ w.heap.size := by have := hw0.size; omega
  clear h h' hw0
  go_enter Try.func181, Try.ntmps181
  go_wp2
  go_quiet (fail)
  go_wp2_with (go_at_call 179; refine (needOk_any _ _).mono ?_; rintro e w' ⟨rfl, rfl⟩)
  have s1 : ((w.alloc (.cells #[.int .i64 x.op, .int .i64 x.a, .int .i64 x.b, .int .i64 x.c] 34)).drewN nq).cell? ⟨w.heap.size, 2, none⟩ = some (.int .i64 x.b) := by go_cell
  have s2 : ((w.alloc (.cells #[.int .i64 x.op, .int .i64 x.a, .int .i64 x.b, .int .i64 x.c] 34)).drewN nq).cell? ⟨w.heap.size, 3, none⟩ = some (.int .i64 x.c) := by go_cell
  have HX := Lib.hid ((Out.new (w := w) (T := 34) (cs := [.int .i64 x.op, .int .i64 x.a, .int .i64 x.b, .int .i64 x.c])).gr (((Gr.refl _).drewN nq).drew))
  have HR := Lib.hid (H.out.gr (((Gr.refl _).drewN nq).drew))
  have HG := Lib.hid ((HW.out.drewN nq).drew)
  have hlw : w.heap.size < ((w.alloc (.cells #[.int .i64 x.op, .int .i64 x.a, .int .i64 x.b, .int .i64 x.c] 34)).drewN nq).drew.heap.size := by simp
  refine start_ (n := 26) (S := fun W' => W'.cell? ⟨w.heap.size, 2, none⟩ = some (.int .i64 x.b) ∧ W'.cell? ⟨w.heap.size, 3, none⟩ = some (.int .i64 x.c) ∧ W'.cell? ⟨B, 12, none⟩ = some (.slice a r.sent.length cap) ∧ W'.cell? ⟨B, 1 + x.b.toNat, none⟩ = some (.int .i64 (r.reg x.b)) ∧ W'.cell? ⟨B, 1 + x.c.toNat, none⟩ = some (.int .i64 (r.reg x.c))) (ds := [25]) #[false, false, false, false, false, false, false, false, false, false, false, false, false, false, false, false, false, false, false, false, false, false, false, false, false, false] (by kernel_rfl) rfl rfl ⟨s1, s2, c3, c1b, c1c⟩ (fun hHeld => ?_)
  generalize ((w.alloc (.cells #[.int .i64 x.op, .int .i64 x.a, .int .i64 x.b, .int .i64 x.c] 34)).drewN nq).drew = W at HX HR HG hlw hHeld ⊢
  refine pure_ (i := 0) (N := (some 30)) (v := ?_) (a' := ?_) #[true, false, false, false, false, false, false, false, false, false, false, false, false, false, false, false, false, false, false, false, false, false, false, false, false, false] rfl rfl (by kernel_rfl) (fun _ _ _ h => h) (Or.inl ⟨by rfl, ?_⟩) ?_ ?_
  rotate_left
  · intro w'
    go_simp
    with_reducible rfl
  rotate_left
  · simp only [Act.put, List.setIfInBounds_toArray, List.set_cons_zero, List.set_cons_succ]
    rfl
  refine pure_ (i := 1) (N := (some 31)) (v := ?_) (a' := ?_) #[true, true, false, false, false, false, false, false, false, false, false, false, false, false, false, false, false, false, false, false, false, false, false, false, false, false] rfl rfl (by kernel_rfl) (fun _ _ _ h => h) (Or.inl ⟨by rfl, ?_⟩) ?_ ?_
  rotate_left
  · intro w'
    go_simp
    with_reducible rfl
  rotate_left
  · simp only [Act.put, List.setIfInBounds_toArray, List.set_cons_zero, List.set_cons_succ]
    rfl
  refine pure_ (i := 2) (N := (some 32)) (v := ?_) (a' := ?_) #[true, true, true, false, false, false, false, false, false, false, false, false, false, false, false, false, false, false, false, false, false, false, false, false, false, false] rfl rfl (by kernel_rfl) (fun _ _ _ h => h) (Or.inl ⟨by rfl, ?_⟩) ?_ ?_
  rotate_left
  · intro w'
    go_simp
    with_reducible rfl
  rotate_left
  · simp only [Act.put, List.setIfInBounds_toArray, List.set_cons_zero, List.set_cons_succ]
    rfl
  refine pure_ (i := 3) (N := (some 33)) (v := ?_) (a' := ?_) #[true, true, true, true, false, false, false, false, false, false, false, false, false, false, false, false, false, false, false, false, false, false, false, false, false, false] rfl rfl (by kernel_rfl) (fun _ _ _ h => h) (Or.inl ⟨by rfl, ?_⟩) ?_ ?_
  rotate_left
  · intro w'
    go_simp
    with_reducible rfl
  rotate_left
  · simp only [Act.put, List.setIfInBounds_toArray, List.set_cons_zero, List.set_cons_succ]
    rfl
  refine take_ (i := 4) (N := (some 34)) (v := ?_) (a' := ?_) #[true, true, true, true, true, false, false, false, false, false, false, false, false, false, false, false, false, false, false, false, false, false, false, false, false, false] rfl rfl (by kernel_rfl) (fun _ _ _ h => h) (Or.inl ⟨by rfl, ?_⟩) hHeld ?_ ?_
  rotate_left
  · rintro w' ⟨hS0, hS1, hS2, hS3, hS4⟩
    go_simp
    with_reducible rfl
  rotate_left
  · simp only [Act.put, List.setIfInBounds_toArray, List.set_cons_zero, List.set_cons_succ]
    rfl
  refine pure_ (i := 5) (N := (some 35)) (v := ?_) (a' := ?_) #[true, true, true, true, true, true, false, false, false, false, false, false, false, false, false, false, false, false, false, false, false, false, false, false, false, false] rfl rfl (by kernel_rfl) (fun _ _ _ h => h) (Or.inl ⟨by rfl, ?_⟩) ?_ ?_
  rotate_left
  · intro w'
    go_simp
    with_reducible rfl
  rotate_left
  · simp only [Act.put, List.setIfInBounds_toArray, List.set_cons_zero, List.set_cons_succ]
    rfl
  refine pure_ (i := 6) (N := (some 36)) (v := ?_) (a' := ?_) #[true, true, true, true, true, true, true, false, false, false, false, false, false, false, false, false, false, false, false, false, false, false, false, false, false, false] rfl rfl (by kernel_rfl) (fun _ _ _ h => h) (Or.inl ⟨by rfl, ?_⟩) ?_ ?_
  rotate_left
  · intro w'
    go_simp
    with_reducible rfl
  rotate_left
  · simp only [Act.put, List.setIfInBounds_toArray, List.set_cons_zero, List.set_cons_succ]
    rfl
  refine pure_ (i := 7) (N := (some 37)) (v := ?_) (a' := ?_) #[true, true, true, true, true, true, true, true, false, false, false, false, false, false, false, false, false, false, false, false, false, false, false, false, false, false] rfl rfl (by kernel_rfl) (fun _ _ _ h => h) (Or.inl ⟨by rfl, ?_⟩) ?_ ?_
  rotate_left
  · intro w'
    go_simp
    with_reducible rfl
  rotate_left
  · simp only [Act.put, List.setIfInBounds_toArray, List.set_cons_zero, List.set_cons_succ]
    rfl
  refine take_ (i := 8) (N := (some 38)) (v := ?_) (a' := ?_) #[true, true, true, true, true, true, true, true, true, false, false, false, false, false, false, false, false, false, false, false, false, false, false, false, false, false] rfl rfl (by kernel_rfl) (fun _ _ _ h => h) (Or.inl ⟨by rfl, ?_⟩) hHeld ?_ ?_
  rotate_left
  · rintro w' ⟨hS0, hS1, hS2, hS3, hS4⟩
    go_simp
    with_reducible rfl
  rotate_left
  · simp only [Act.put, List.setIfInBounds_toArray, List.set_cons_zero, List.set_cons_succ]
    rfl
  refine pure_ (i := 9) (N := (some 39)) (v := ?_) (a' := ?_) #[true, true, true, true, true, true, true, true, true, true, false, false, false, false, false, false, false, false, false, false, false, false, false, false, false, false] rfl rfl (by kernel_rfl) (fun _ _ _ h => h) (Or.inl ⟨by rfl, ?_⟩) ?_ ?_
  rotate_left
  · intro w'
    go_simp
    with_reducible rfl
  rotate_left
  · simp only [Act.put, List.setIfInBounds_toArray, List.set_cons_zero, List.set_cons_succ]
    rfl
  refine pure_ (i := 10) (N := (some 40)) (v := ?_) (a' := ?_) #[true, true, true, true, true, true, true, true, true, true, true, false, false, false, false, false, false, false, false, false, false, false, false, false, false, false] rfl rfl (by kernel_rfl) (fun _ _ _ h => h) (Or.inl ⟨by rfl, ?_⟩) ?_ ?_
  rotate_left
  · intro w'
    go_simp
    with_reducible rfl
  rotate_left
  · simp only [Act.put, List.setIfInBounds_toArray, List.set_cons_zero, List.set_cons_succ]
    rfl
  refine pure_ (i := 11) (N := (some 41)) (v := ?_) (a' := ?_) #[true, true, true, true, true, true, true, true, true, true, true, true, false, false, false, false, false, false, false, false, false, false, false, false, false, false] rfl rfl (by kernel_rfl) (fun _ _ _ h => h) (Or.inl ⟨by rfl, ?_⟩) ?_ ?_
  rotate_left
  · intro w'
    go_simp
    with_reducible rfl
  rotate_left
  · simp only [Act.put, List.setIfInBounds_toArray, List.set_cons_zero, List.set_cons_succ]
    rfl
  refine take_ (i := 12) (N := (some 42)) (v := ?_) (a' := ?_) #[true, true, true, true, true, true, true, true, true, true, true, true, true, false, false, false, false, false, false, false, false, false, false, false, false, false] rfl rfl (by kernel_rfl) (fun _ _ _ h => h) (Or.inl ⟨by rfl, ?_⟩) hHeld ?_ ?_
  rotate_left
  · rintro w' ⟨hS0, hS1, hS2, hS3, hS4⟩
    go_simp
    with_reducible rfl
  rotate_left
  · simp only [Act.put, List.setIfInBounds_toArray, List.set_cons_zero, List.set_cons_succ]
    rfl
  refine pure_ (i := 13) (N := (some 43)) (v := ?_) (a' := ?_) #[true, true, true, true, true, true, true, true, true, true, true, true, true, true, false, false, false, false, false, false, false, false, false, false, false, false] rfl rfl (by kernel_rfl) (fun _ _ _ h => h) (Or.inl ⟨by rfl, ?_⟩) ?_ ?_
  rotate_left
  · intro w'
    go_simp
    with_reducible rfl
  rotate_left
  · simp only [Act.put, List.setIfInBounds_toArray, List.set_cons_zero, List.set_cons_succ]
    rfl
  refine pure_ (i := 14) (N := (some 44)) (v := ?_) (a' := ?_) #[true, true, true, true, true, true, true, true, true, true, true, true, true, true, true, false, false, false, false, false, false, false, false, false, false, false] rfl rfl (by kernel_rfl) (fun _ _ _ h => h) (Or.inl ⟨by rfl, ?_⟩) ?_ ?_
  rotate_left
  · intro w'
    go_simp
    with_reducible rfl
  rotate_left
  · simp only [Act.put, List.setIfInBounds_toArray, List.set_cons_zero, List.set_cons_succ]
    rfl
  refine take_ (i := 15) (N := (some 45)) (v := ?_) (a' := ?_) #[true, true, true, true, true, true, true, true, true, true, true, true, true, true, true, true, false, false, false, false, false, false, false, false, false, false] rfl rfl (by kernel_rfl) (fun _ _ _ h => h) (Or.inl ⟨by rfl, ?_⟩) hHeld ?_ ?_
  rotate_left
  · rintro w' ⟨hS0, hS1, hS2, hS3, hS4⟩
    go_simp
    with_reducible rfl
  rotate_left
  · simp only [Act.put, List.setIfInBounds_toArray, List.set_cons_zero, List.set_cons_succ]
    rfl
  refine pure_ (i := 16) (N := (some 46)) (v := ?_) (a' := ?_) #[true, true, true, true, true, true, true, true, true, true, true, true, true, true, true, true, true, false, false, false, false, false, false, false, false, false] rfl rfl (by kernel_rfl) (fun _ _ _ h => h) (Or.inl ⟨by rfl, ?_⟩) ?_ ?_
  rotate_left
  · intro w'
    go_simp
    with_reducible rfl
  rotate_left
  · simp only [Act.put, List.setIfInBounds_toArray, List.set_cons_zero, List.set_cons_succ]
    rfl
  refine pure_ (i := 17) (N := (some 47)) (v := ?_) (a' := ?_) #[true, true, true, true, true, true, true, true, true, true, true, true, true, true, true, true, true, true, false, false, false, false, false, false, false, false] rfl rfl (by kernel_rfl) (fun _ _ _ h => h) (Or.inl ⟨by rfl, ?_⟩) ?_ ?_
  rotate_left
  · intro w'
    go_simp
    with_reducible rfl
  rotate_left
  · simp only [Act.put, List.setIfInBounds_toArray, List.set_cons_zero, List.set_cons_succ]
    rfl
  refine pure_ (i := 18) (N := (some 48)) (v := ?_) (a' := ?_) #[true, true, true, true, true, true, true, true, true, true, true, true, true, true, true, true, true, true, true, false, false, false, false, false, false, false] rfl rfl (by kernel_rfl) (fun _ _ _ h => h) (Or.inl ⟨by rfl, ?_⟩) ?_ ?_
  rotate_left
  · intro w'
    go_simp
    with_reducible rfl
  rotate_left
  · simp only [Act.put, List.setIfInBounds_toArray, List.set_cons_zero, List.set_cons_succ]
    rfl
  refine take_ (i := 19) (N := (some 49)) (v := ?_) (a' := ?_) #[true, true, true, true, true, true, true, true, true, true, true, true, true, true, true, true, true, true, true, true, false, false, false, false, false, false] rfl rfl (by kernel_rfl) (fun _ _ _ h => h) (Or.inl ⟨by rfl, ?_⟩) hHeld ?_ ?_
  rotate_left
  · rintro w' ⟨hS0, hS1, hS2, hS3, hS4⟩
    go_simp
    with_reducible rfl
  rotate_left
  · simp only [Act.put, List.setIfInBounds_toArray, List.set_cons_zero, List.set_cons_succ]
    rfl
  refine pure_ (i := 20) (N := (some 50)) (v := ?_) (a' := ?_) #[true, true, true, true, true, true, true, true, true, true, true, true, true, true, true, true, true, true, true, true, true, false, false, false, false, false] rfl rfl (by kernel_rfl) (fun _ _ _ h => h) (Or.inl ⟨by rfl, ?_⟩) ?_ ?_
  rotate_left
  · intro w'
    go_simp
    with_reducible rfl
  rotate_left
  · simp only [Act.put, List.setIfInBounds_toArray, List.set_cons_zero, List.set_cons_succ]
    rfl
  refine one_ (i := 21) (N := (some 51)) #[true, true, true, true, true, true, true, true, true, true, true, true, true, true, true, true, true, true, true, true, true, true, false, false, false, false] rfl rfl (by kernel_rfl) (by decide) (fun K hK => ?_)
  refine value_ (v := ?_) (w1 := ?_) (by rfl) rfl ?_ ?_
  rotate_left 2
  · go_simp
    constructor <;> rfl
  refine hK.out _ _ ⟨Gr.cell ((Gr.refl _).alloc _) hHeld.1, Gr.cell ((Gr.refl _).alloc _) hHeld.2.1, Gr.cell ((Gr.refl _).alloc _) hHeld.2.2.1, Gr.cell ((Gr.refl _).alloc _) hHeld.2.2.2.1, Gr.cell ((Gr.refl _).alloc _) hHeld.2.2.2.2⟩ (fun hHeld => ?_)
  clear hK K
  refine one_ (i := 22) (N := (some 52)) #[true, true, true, true, true, true, true, true, true, true, true, true, true, true, true, true, true, true, true, true, true, true, true, false, false, false] rfl rfl (by kernel_rfl) (by decide) (fun K hK => ?_)
  refine one_append_list (some 52) rfl rfl _ _ 53 rfl b Try.underlying53 i60 rfl (by omega) (fun _ => rfl) (fun y u hu => by simp [sentC] at hu; rcases hu with rfl | rfl | rfl <;> rfl) _ _ rfl rfl r.sent [⟨r.reg x.a, r.reg x.b, r.reg x.c⟩] (HR.out.sent.gr ((Gr.refl _).alloc _))
    (Sl_one (fun j u hu => by match j with | 0 => simp [sentC] at hu; subst hu; go_cell | 1 => simp [sentC] at hu; subst hu; go_cell | 2 => simp [sentC] at hu; subst hu; go_cell | j + 3 => simp [sentC] at hu)) (by simp [maxLen]; omega) (by simp; omega) (by simp; omega) ?_
  intro v' w' o' g' lie'
  have hg1 : Gr w0 w' := Gr.grown (HG.out.alloc _) (HR.out.sent.gr ((Gr.refl _).alloc _)) (by omega) g'
  obtain ⟨hr1, hf1, hc1⟩ := (HR.out.gr ((Gr.refl _).alloc _)).sentGrown g' o'
  have hx' := (HX.out.gr ((Gr.refl _).alloc _)).grown (HR.out.sent.gr ((Gr.refl _).alloc _)) (by decide) g'
  have hb' := (HR.out.out.gr ((Gr.refl _).alloc _)).grown (HR.out.sent.gr ((Gr.refl _).alloc _)) (by decide) g'
  have hS' := And.intro (hx'.cell (i := 2) rfl) (And.intro (hx'.cell (i := 3) rfl) (And.intro hc1 (And.intro (hb'.cell (runC_reg x.b.toNat (by omega) HR.out.g8)) (hb'.cell (runC_reg x.c.toNat (by omega) HR.out.g8)))))
  obtain ⟨a', c', rfl⟩ := o'.shape
  simp only [List.length_append, List.length_cons, List.length_nil, Nat.zero_add] at hr1
  have HG1 := Lib.hid hg1
  have HR1 := Lib.hid hr1
  clear o' lie' g' hg1 hr1 hx' hb'
  refine hK.out _ _ hS' (fun hHeld => ?_)
  clear hK K hS'
  refine pure_ (i := 23) (N := (some 53)) (v := ?_) (a' := ?_) #[true, true, true, true, true, true, true, true, true, true, true, true, true, true, true, true, true, true, true, true, true, true, true, true, false, false] rfl rfl (by kernel_rfl) (fun _ _ _ h => h) (Or.inl ⟨by rfl, ?_⟩) ?_ ?_
  rotate_left
  · intro w'
    go_simp
    with_reducible rfl
  rotate_left
  · simp only [Act.put, List.setIfInBounds_toArray, List.set_cons_zero, List.set_cons_succ]
    rfl
  refine pure_ (i := 24) (N := (some 54)) (v := ?_) (a' := ?_) #[true, true, true, true, true, true, true, true, true, true, true, true, true, true, true, true, true, true, true, true, true, true, true, true, true, false] rfl rfl (by kernel_rfl) (fun _ _ _ h => h) (Or.inl ⟨by rfl, ?_⟩) ?_ ?_
  rotate_left
  · intro w'
    go_simp
    with_reducible rfl
  rotate_left
  · simp only [Act.put, List.setIfInBounds_toArray, List.set_cons_zero, List.set_cons_succ]
    rfl
  refine last_ (i := 25) (N := none) #[true, true, true, true, true, true, true, true, true, true, true, true, true, true, true, true, true, true, true, true, true, true, true, true, true, true] rfl rfl (by kernel_rfl) (by decide) (fun K hK => ?_)
  refine skip_ (w1 := ?_) (by rfl) rfl ?_ ?_
  rotate_left
  · go_simp
    rfl
  refine hK.out _ _ ?_
  clear hK K
  refine done_ (by kernel_rfl) ?_
  go_wp2
  go_end0
  exact ⟨rfl, HG1.out.setCell hbB _, _, HR1.out⟩
end
end Go.Proofs.Ytkoopobfelcgpaa
