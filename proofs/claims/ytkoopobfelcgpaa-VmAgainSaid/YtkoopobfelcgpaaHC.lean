/- layer 7: the reference's run in memory -/
import Derived.Test.YtkoopobfelcgpaaHB
import Derived.Deep.RegionHeld3
import Derived.Test.YtkoopobfelcgpaaWLast
set_option linter.unusedSimpArgs false
set_option linter.unusedVariables false
namespace Go.Proofs.Ytkoopobfelcgpaa
open Go.RowKit Go.Proofs.YtkoopobfelcgpaaW.PrintLast

/-- the cells of the reference's run -/
abbrev refC (gb : Nat) (vw vs : Value) (r : VR) (f : Int) : List Value := [.slice (some ⟨gb, 0, none⟩) 8 8, vw, vs, .int .i64 r.dice, .int .i64 r.pc, .int .i64 r.n, .int .i64 f]
structure RRun (b : Nat) (w : World) (B : Nat) (r : VR) (f : Int) (gb : Nat) (vw vs : Value) : Prop where
  g8 : r.g.length = 8
  bB : b ≤ B
  bG : b ≤ gb
  out : Out 68 w B (refC gb vw vs r f)
  G : Out 3 w gb (r.g.map (.int .i64))
  words : Own b 3 1 intC w vw r.w
  ne : vw.ownBlock ≠ some gb
  sent : Own b 60 3 sentC w vs r.sent
section
variable {b : Nat} {w : World} {B : Nat} {r : VR} {f : Int} {gb : Nat} {vw vs : Value}
theorem RRun.cG (h : RRun b w B r f gb vw vs) : w.cell? ⟨B, 0, none⟩ = some (.slice (some ⟨gb, 0, none⟩) 8 8) := h.out.cell rfl
theorem RRun.cW (h : RRun b w B r f gb vw vs) : w.cell? ⟨B, 1, none⟩ = some vw := h.out.cell rfl
theorem RRun.cS (h : RRun b w B r f gb vw vs) : w.cell? ⟨B, 2, none⟩ = some vs := h.out.cell rfl
theorem RRun.cD (h : RRun b w B r f gb vw vs) : w.cell? ⟨B, 3, none⟩ = some (.int .i64 r.dice) := h.out.cell rfl
theorem RRun.cP (h : RRun b w B r f gb vw vs) : w.cell? ⟨B, 4, none⟩ = some (.int .i64 r.pc) := h.out.cell rfl
theorem RRun.cN (h : RRun b w B r f gb vw vs) : w.cell? ⟨B, 5, none⟩ = some (.int .i64 r.n) := h.out.cell rfl
theorem RRun.cF (h : RRun b w B r f gb vw vs) : w.cell? ⟨B, 6, none⟩ = some (.int .i64 f) := h.out.cell rfl
theorem RRun.cR (h : RRun b w B r f gb vw vs) (k : Int) (h0 : 0 ≤ k) (h7 : k ≤ 7) : w.cell? ⟨gb, k.toNat, none⟩ = some (.int .i64 (r.reg k)) := by
  have h8 := h.g8
  refine h.G.cell ?_
  have hk : k.toNat < r.g.length := by omega
  simp [VR.reg, List.getElem?_eq_getElem hk]
theorem RRun.free (h : RRun b w B r f gb vw vs) (k : Nat) : w.frozen? ⟨B, k, none⟩ = false := h.out.free k
theorem RRun.freeG (h : RRun b w B r f gb vw vs) (k : Nat) : w.frozen? ⟨gb, k, none⟩ = false := h.G.free k
theorem RRun.lt (h : RRun b w B r f gb vw vs) : B < w.heap.size := h.out.lt
theorem RRun.ltG (h : RRun b w B r f gb vw vs) : gb < w.heap.size := h.G.lt
theorem RRun.neBG (h : RRun b w B r f gb vw vs) : gb ≠ B := h.G.apart h.out (by decide)
theorem RRun.gr {w' : World} (h : RRun b w B r f gb vw vs) (g : Gr w w') : RRun b w' B r f gb vw vs := ⟨h.g8, h.bB, h.bG, h.out.gr g, h.G.gr g, h.words.gr g, h.ne, h.sent.gr g⟩
theorem RRun.setB (h : RRun b w B r f gb vw vs) (i : Nat) (u : Value) (r' : VR) (f' : Int) (e0 : r'.g = r.g) (he : (refC gb vw vs r f).set i u = refC gb vw vs r' f') (e1 : r'.w = r.w) (e2 : r'.sent = r.sent) :
    RRun b (w.setCell ⟨B, i, none⟩ u) B r' f' gb vw vs := by
  refine ⟨by rw [e0]; exact h.g8, h.bB, h.bG, ?_, ?_, ?_, h.ne, ?_⟩
  · rw [← he]; exact h.out.set i u
  · rw [e0]; exact h.G.set_other h.neBG
  · rw [e1]; exact h.words.set h.out.is (by decide) u
  · rw [e2]; exact h.sent.set h.out.is (by decide) u
theorem RRun.setDice (h : RRun b w B r f gb vw vs) (x : Int) : RRun b (w.setCell ⟨B, 3, none⟩ (.int .i64 x)) B { r with dice := x } f gb vw vs := h.setB 3 _ _ _ rfl rfl rfl rfl
theorem RRun.setPc (h : RRun b w B r f gb vw vs) (x : Int) : RRun b (w.setCell ⟨B, 4, none⟩ (.int .i64 x)) B { r with pc := x } f gb vw vs := h.setB 4 _ _ _ rfl rfl rfl rfl
theorem RRun.setN (h : RRun b w B r f gb vw vs) (x : Int) : RRun b (w.setCell ⟨B, 5, none⟩ (.int .i64 x)) B { r with n := x } f gb vw vs := h.setB 5 _ _ _ rfl rfl rfl rfl
theorem RRun.setF (h : RRun b w B r f gb vw vs) (x : Int) : RRun b (w.setCell ⟨B, 6, none⟩ (.int .i64 x)) B r x gb vw vs := h.setB 6 _ _ _ rfl rfl rfl rfl
theorem Own.setFar {α : Type} {base e sz : Nat} {cells : α → List Value} {v : Value} {l : List α} (h : Own base e sz cells w v l) {O i : Nat} (hne : v.ownBlock ≠ some O) (u : Value) : Own base e sz cells (w.setCell ⟨O, i, none⟩ u) v l :=
  World.ownsRow.kept (row := some O) h ⟨rfl, rfl, rfl, by simp [World.setCell], fun k _ hk => Below.heap_setCell w _ u k (fun e => hk (by rw [e]))⟩ (.inr hne)
theorem RRun.setReg (h : RRun b w B r f gb vw vs) (k : Int) (x : Int) : RRun b (w.setCell ⟨gb, k.toNat, none⟩ (.int .i64 x)) B (r.out k x) f gb vw vs := by
  refine ⟨by simpa using h.g8, h.bB, h.bG, h.out.set_other (fun e => h.neBG e.symm), ?_, h.words.setFar h.ne _, h.ne, h.sent.set h.G.is (by decide) _⟩
  have := h.G.set k.toNat (.int .i64 x)
  rw [← List.map_set] at this
  exact this
theorem RRun.wordCell (h : RRun b w B r f gb vw vs) (k : Int) (h0 : 0 ≤ k) (hl : k < r.w.length) :
    ∃ a m, vw = .slice (some ⟨a, 0, none⟩) r.w.length m ∧ w.cell? ⟨a, k.toNat, none⟩ = some (.int .i64 (r.word k)) ∧ w.frozen? ⟨a, k.toNat, none⟩ = false ∧ b ≤ a ∧ a ≠ B ∧ a < w.heap.size := by
  have hw := h.words
  obtain ⟨hx, ⟨rfl, hn⟩ | ⟨g, cap, cur, rfl, hb, hg, hnc, hcm, hcs, ht⟩⟩ := hw
  · omega
  have hown : w.ownsRow b 3 1 (.slice (some ⟨g, 0, none⟩) r.w.length cap) r.w.length (r.w.flatMap intC) := h.words
  have hc : w.cell? ⟨g, k.toNat, none⟩ = some (.int .i64 (r.word k)) := by
    rw [hown.cellAt k.toNat (by omega), flatInt, List.getElem?_eq_getElem (by omega : k.toNat < r.w.length)]
    simp [VR.word, List.getElem?_eq_getElem (by omega : k.toNat < r.w.length)]
  refine ⟨g, cap, rfl, hc, hown.frozenAt _, hb, ?_, lt_of_cell hc⟩
  intro e; subst e
  have a1 := h.out.is
  rw [hg] at a1
  injection a1 with a1; injection a1 with _ a1; exact absurd a1 (by decide)
theorem RRun.setWord {a m : Nat} (h : RRun b w B r f gb (.slice (some ⟨a, 0, none⟩) r.w.length m) vs) (k : Nat) (x : Int) :
    RRun b (w.setCell ⟨a, k, none⟩ (.int .i64 x)) B { r with w := r.w.set k x } f gb (.slice (some ⟨a, 0, none⟩) r.w.length m) vs := by
  have hown : w.ownsRow b 3 1 (.slice (some ⟨a, 0, none⟩) r.w.length m) r.w.length (r.w.flatMap intC) := h.words
  obtain h0 | ⟨g, cur, hg, -, hgb⟩ := h.words.block
  · simp [Value.ownBlock] at h0
  have hga : g = a := by simpa [Value.ownBlock] using hg.symm
  subst hga
  have nB : B ≠ g := by
    intro e; subst e
    have a1 := h.out.is
    rw [hgb] at a1
    injection a1 with a1; injection a1 with _ a1; exact absurd a1 (by decide)
  have nG : gb ≠ g := by
    intro e
    have := h.ne
    rw [hg] at this
    exact this (by rw [e])
  have hst := hown.stored k (.int .i64 x)
  refine ⟨h.g8, h.bB, h.bG, h.out.set_other nB, h.G.set_other nG, ?_, h.ne, h.sent.set hgb (by decide) _⟩
  show World.ownsRow _ _ _ _ _ _ _
  rw [← flatSet, List.length_set]
  exact hst.1
theorem RRun.sentGrown {W W' : World} {vs' : Value} {l : List PSent} (h : RRun b W B r f gb vw vs) (hg : W.grownBy W' vs.ownBlock) (ho : Own b 60 3 sentC W' vs' l) :
    RRun b (W'.setCell ⟨B, 2, none⟩ vs') B { r with sent := l } f gb vw vs' ∧ W'.frozen? ⟨B, 2, none⟩ = false ∧ W'.cell? ⟨B, 2, none⟩ = some vs := by
  have h1 : Out 68 W' B _ := h.out.grown h.sent (by decide) hg
  have h2 : Out 3 W' gb _ := h.G.grown h.sent (by decide) hg
  have h3 : Own b 3 1 intC W' vw r.w := h.words.grown h.sent (by decide) hg
  exact ⟨⟨h.g8, h.bB, h.bG, h1.set 2 vs', h2.set_other h.neBG, h3.set h1.is (by decide) _, h.ne, ho.set h1.is (by decide) _⟩, h1.free 2, h1.cell rfl⟩
end
end Go.Proofs.Ytkoopobfelcgpaa
