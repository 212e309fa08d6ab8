/- Arguments read as data, opened: whole numbers, floats, slices of whatever can be opened, models. -/
import Derived.Test.YtkoopobfelcgpaaA5
import Derived.Test.YtkoopobfelcgpaaRows
import Derived.ProofKit
import Derived.OpenShut
import Derived.Deep.Slices
namespace Go.Proofs.Ytkoopobfelcgpaa
open Go.ChangeShapes Go.WideShapes Go.ChangeAt Go.RowKit Go.Deep
set_option maxRecDepth 100000

def i64 (n : Int) : Prop := -9223372036854775808 ≤ n ∧ n ≤ 9223372036854775807
def u64n (n : Nat) : Prop := n < 18446744073709551616

theorem build_list {α : Type} {P : Nat → α → Prop} : ∀ (n : Nat), (∀ i, i < n → ∃ y, P i y) → ∃ l : List α, l.length = n ∧ ∀ i y, l[i]? = some y → P i y
  | 0, _ => ⟨[], rfl, fun i y h => by simp at h⟩
  | n + 1, h => by
    obtain ⟨l, hl, hP⟩ := build_list n (fun i hi => h i (by omega))
    obtain ⟨y, hy⟩ := h n (by omega)
    refine ⟨l ++ [y], by simp [hl], fun i z hz => ?_⟩
    rcases Nat.lt_or_ge i l.length with g | g
    · rw [List.getElem?_append_left g] at hz; exact hP i z hz
    · rw [List.getElem?_append_right g] at hz
      have : i - l.length = 0 := by
        rcases Nat.eq_zero_or_pos (i - l.length) with e | e
        · exact e
        · rw [List.getElem?_eq_none (by simp; omega)] at hz; cases hz
      rw [this] at hz
      simp at hz
      subst hz
      have e : i = n := by omega
      rw [e]; exact hy

section
variable {H : Type} {enc : TypeId × Value → H} {P : Program} {w : World} {base : Nat} {spare : Nat → Bool} {held : Bool}

theorem open_Sl {α : Type} {t e c fuel : Nat} {cs : List Value} {x : DataW H × List MemPlace} (ht : P.underlying t = some (.slice e)) (hc : P.cellsOf e = c) (hc1 : 1 ≤ c)
    (R : World → Nat → Nat → α → Prop) (G : α → Prop)
    (hE : ∀ (b o n : Nat) (cs' : List Value) (x' : DataW H × List MemPlace), (∀ i, i < c → w.cell? ⟨b, o + i, none⟩ = cs'[i]?) → cs'.length = c → DataW.trod enc P w base spare held n e cs' = some x' → ∃ y, R w b o y ∧ G y)
    (h : DataW.trod enc P w base spare held fuel t cs = some x) : ∃ v l, cs = [v] ∧ Sl c R w v l ∧ ∀ y ∈ l, G y := by
  rcases open_slice ht h with ⟨rfl, -⟩ | ⟨a, len, cap, m, n, D, Pl, rfl, -, hl, hm, hmm, -, hi⟩
  · exact ⟨_, [], rfl, ⟨none, 0, rfl, Nat.le_refl _, Nat.zero_le _, fun _ => rfl, fun i x h => by simp at h⟩, fun y hy => by simp at hy⟩
  have hlm : len ≤ m := by rw [hmm]; split <;> omega
  rcases Nat.eq_zero_or_pos len with e0 | e0
  · subst e0
    exact ⟨_, [], rfl, ⟨some a, cap, rfl, Nat.zero_le _, hm, (fun h => by cases h), fun i x h => by simp at h⟩, fun y hy => by simp at hy⟩
  have hcell : ∀ i, i < len → ∃ cs', (∀ j, j < c → w.cell? ((a.add (i * c)).add j) = cs'[j]?) ∧ cs'.length = c ∧ DataW.trod enc P w base spare held n e cs' = some (D i, Pl i) := by
    intro i hil
    obtain ⟨cs', h1, h2⟩ := hi i (by omega)
    obtain ⟨_, h3, h4⟩ := World.cells?_some h1
    rw [hc] at h3 h4
    exact ⟨cs', h4, h3, h2⟩
  have hspot : a.spot = none := by
    obtain ⟨cs', h1, h2, _⟩ := hcell 0 e0
    have h3 := h1 0 (by omega)
    rw [Nat.zero_mul] at h3
    have h4 : cs'[0]? = some (cs'[0]'(by omega)) := List.getElem?_eq_getElem (by omega)
    rw [h4] at h3
    cases hsp : a.spot with
    | none => rfl
    | some q =>
      exfalso
      have e1 : (a.add 0).add 0 = a := by simp [Addr.add]
      rw [e1] at h3
      unfold World.cell? at h3
      rw [hsp] at h3
      simp at h3
      split at h3 <;> cases h3
  obtain ⟨b, o, sp⟩ := a
  simp only at hspot
  subst hspot
  have hadd : ∀ x y : Nat, (Addr.add ⟨b, o, none⟩ x).add y = ⟨b, o + x + y, none⟩ := by
    intro x y
    simp only [Addr.add]
    split <;> split <;> simp_all
  obtain ⟨l, hll, hP⟩ := build_list (P := fun i y => R w b (o + i * c) y ∧ G y) len (fun i hil => by
    obtain ⟨cs', h1, h2, h3⟩ := hcell i hil
    refine hE b (o + i * c) n cs' _ (fun j hj => ?_) h2 h3
    rw [← h1 j hj, hadd])
  refine ⟨_, l, rfl, ⟨some ⟨b, o, none⟩, cap, by rw [hll], by omega, hm, (fun h => by cases h), fun i x hx => ⟨b, o, rfl, (hP i x hx).1⟩⟩, fun y hy => ?_⟩
  obtain ⟨i, hi'⟩ := List.getElem?_of_mem hy
  exact (hP i y hi').2

theorem trod_int_cell {t : Nat} (ht : P.underlying t = some (.int .i64)) (b o n : Nat) (cs' : List Value) (x' : DataW H × List MemPlace) (h1 : ∀ i, i < 1 → w.cell? ⟨b, o + i, none⟩ = cs'[i]?) (h2 : cs'.length = 1)
    (h : DataW.trod enc P w base spare held n t cs' = some x') : ∃ y, IntAt w b o y ∧ i64 y := by
  obtain ⟨k, rfl, -, hw⟩ := DataW.trod_int ht h
  exact ⟨k, by simpa [IntAt] using h1 0 (by omega), bounds_i64 hw⟩

theorem trod_float {fuel t : Nat} {cs : List Value} {x : DataW H × List MemPlace} (ht : P.underlying t = some (.float .f64)) (h : DataW.trod enc P w base spare held fuel t cs = some x) : ∃ n, cs = [.float .f64 n] ∧ u64n n := by
  cases fuel with
  | zero => simp [DataW.trod] at h
  | succ m =>
    unfold DataW.trod at h
    rw [ht] at h
    match cs, h with
    | [.float k b], h =>
      simp only at h
      split at h
      · rename_i hc
        obtain ⟨rfl, hw⟩ := hc
        exact ⟨b, rfl, by simpa [Lit.wf, u64n] using hw⟩
      · cases h
theorem field_of {fuel t : Nat} {fs : Array Field} {cs : List Value} {x : DataW H × List MemPlace} (ht : P.underlying t = some (.struct fs)) (h : DataW.trod enc P w base spare held fuel t cs = some x) (i T off : Nat) (hf : (fs[i]?).map (fun f => (f.type, f.offset)) = some (T, off)) :
    ∃ n y, DataW.trod enc P w base spare held n T ((cs.drop off).take (P.cellsOf T)) = some y := by
  cases hfi : fs[i]? with
  | none => rw [hfi] at hf; cases hf
  | some f =>
    rw [hfi] at hf
    simp only [Option.map_some, Option.some.injEq, Prod.mk.injEq] at hf
    obtain ⟨rfl, rfl⟩ := hf
    obtain ⟨xs, n, -, -, -, hl, hi⟩ := DataW.trod_struct ht h
    have hi' := hi i f hfi
    have hlt : i < xs.length := by rw [hl]; exact (Array.getElem?_eq_some_iff.1 hfi).1
    rw [List.getElem?_eq_getElem hlt] at hi'
    exact ⟨n, _, hi'⟩
theorem cells_of {fuel t : Nat} {fs : Array Field} {cs : List Value} {x : DataW H × List MemPlace} (ht : P.underlying t = some (.struct fs)) (h : DataW.trod enc P w base spare held fuel t cs = some x) : cs.length = P.cellsOf t := by
  obtain ⟨xs, n, -, -, hc, -⟩ := DataW.trod_struct ht h
  exact hc
end

section
variable {H : Type} {enc : TypeId × Value → H} {w : World} {base : Nat} {spare : Nat → Bool} {held : Bool}

theorem c3 : Try.prog.cellsOf 3 = 1 := by kernel_rfl
theorem c5 : Try.prog.cellsOf 5 = 1 := by kernel_rfl
theorem c22 : Try.prog.cellsOf 22 = 1 := by kernel_rfl
theorem c23 : Try.prog.cellsOf 23 = 1 := by kernel_rfl
theorem c24 : Try.prog.cellsOf 24 = 1 := by kernel_rfl
theorem c25 : Try.prog.cellsOf 25 = 1 := by kernel_rfl
theorem c26 : Try.prog.cellsOf 26 = 1 := by kernel_rfl
theorem c38 : Try.prog.cellsOf 38 = 1 := by kernel_rfl
theorem c39 : Try.prog.cellsOf 39 = 1 := by kernel_rfl
theorem c34 : Try.prog.cellsOf 34 = 4 := by kernel_rfl
theorem c41 : Try.prog.cellsOf 41 = 2 := by kernel_rfl
theorem c43 : Try.prog.cellsOf 43 = 3 := by kernel_rfl
theorem c28 : Try.prog.cellsOf 28 = 6 := by kernel_rfl

def PIns.wf (x : PIns) : Prop := i64 x.op ∧ i64 x.a ∧ i64 x.b ∧ i64 x.c
def PLP.wf (x : PLP) : Prop := i64 x.prog ∧ ∀ n ∈ x.words, i64 n
def PInit.wf (x : PInit) : Prop := u64n x.t ∧ i64 x.dst ∧ i64 x.pay
structure PModel.wf (m : PModel) : Prop where
  seed : i64 m.seed
  fin : u64n m.fin
  delays : ∀ d ∈ m.delays, u64n d
  programs : ∀ p ∈ m.programs, ∀ x ∈ p, x.wf
  lps : ∀ x ∈ m.lps, x.wf
  init : ∀ x ∈ m.init, x.wf

theorem open_ins {fuel : Nat} {cs : List Value} {x : DataW H × List MemPlace} (h : DataW.trod enc Try.prog w base spare held fuel 34 cs = some x) :
    ∃ y : PIns, cs = [.int .i64 y.op, .int .i64 y.a, .int .i64 y.b, .int .i64 y.c] ∧ y.wf := by
  have hl := cells_of Try.underlying34 h
  rw [c34] at hl
  obtain ⟨n0, y0, h0⟩ := field_of Try.underlying34 h 0 3 0 rfl
  obtain ⟨n1, y1, h1⟩ := field_of Try.underlying34 h 1 3 1 rfl
  obtain ⟨n2, y2, h2⟩ := field_of Try.underlying34 h 2 3 2 rfl
  obtain ⟨n3, y3, h3⟩ := field_of Try.underlying34 h 3 3 3 rfl
  match cs, hl with
  | [v0, v1, v2, v3], _ =>
    simp only [c3] at h0 h1 h2 h3
    obtain ⟨k0, e0, -, g0⟩ := DataW.trod_int Try.underlying3 h0
    obtain ⟨k1, e1, -, g1⟩ := DataW.trod_int Try.underlying3 h1
    obtain ⟨k2, e2, -, g2⟩ := DataW.trod_int Try.underlying3 h2
    obtain ⟨k3, e3, -, g3⟩ := DataW.trod_int Try.underlying3 h3
    simp at e0 e1 e2 e3
    subst e0 e1 e2 e3
    exact ⟨⟨k0, k1, k2, k3⟩, rfl, bounds_i64 g0, bounds_i64 g1, bounds_i64 g2, bounds_i64 g3⟩

theorem open_ints1 {fuel : Nat} {cs : List Value} {x : DataW H × List MemPlace} (h : DataW.trod enc Try.prog w base spare held fuel 39 cs = some x) : ∃ v l, cs = [v] ∧ Sl 1 IntAt w v l ∧ ∀ y ∈ l, i64 y :=
  open_Sl Try.underlying39 c3 (Nat.le_refl _) IntAt i64 (fun b o n cs' x' h1 h2 h3 => trod_int_cell Try.underlying3 b o n cs' x' h1 h2 h3) h
theorem open_code {fuel : Nat} {cs : List Value} {x : DataW H × List MemPlace} (h : DataW.trod enc Try.prog w base spare held fuel 38 cs = some x) : ∃ v l, cs = [v] ∧ Sl 4 InsAt w v l ∧ ∀ y ∈ l, y.wf :=
  open_Sl Try.underlying38 c34 (by omega) InsAt PIns.wf (fun b o n cs' x' h1 h2 h3 => by
    obtain ⟨y, rfl, hy⟩ := open_ins h3
    exact ⟨y, ⟨by simpa using h1 0 (by omega), by simpa using h1 1 (by omega), by simpa using h1 2 (by omega), by simpa using h1 3 (by omega)⟩, hy⟩) h
theorem open_lp {fuel : Nat} {cs : List Value} {x : DataW H × List MemPlace} (h : DataW.trod enc Try.prog w base spare held fuel 41 cs = some x) :
    ∃ (y : PLP) (v : Value), cs = [.int .i64 y.prog, v] ∧ Sl 1 IntAt w v y.words ∧ y.wf := by
  have hl := cells_of Try.underlying41 h
  rw [c41] at hl
  obtain ⟨n0, y0, h0⟩ := field_of Try.underlying41 h 0 3 0 rfl
  obtain ⟨n1, y1, h1⟩ := field_of Try.underlying41 h 1 39 1 rfl
  match cs, hl with
  | [v0, v1], _ =>
    simp only [c3, c39] at h0 h1
    obtain ⟨k0, e0, -, g0⟩ := DataW.trod_int Try.underlying3 h0
    obtain ⟨v, l, e1, hs, g1⟩ := open_ints1 h1
    simp at e0 e1
    subst e0 e1
    exact ⟨⟨k0, l⟩, _, rfl, hs, bounds_i64 g0, g1⟩
theorem open_init {fuel : Nat} {cs : List Value} {x : DataW H × List MemPlace} (h : DataW.trod enc Try.prog w base spare held fuel 43 cs = some x) :
    ∃ y : PInit, cs = [.float .f64 y.t, .int .i64 y.dst, .int .i64 y.pay] ∧ y.wf := by
  have hl := cells_of Try.underlying43 h
  rw [c43] at hl
  obtain ⟨n0, y0, h0⟩ := field_of Try.underlying43 h 0 22 0 rfl
  obtain ⟨n1, y1, h1⟩ := field_of Try.underlying43 h 1 3 1 rfl
  obtain ⟨n2, y2, h2⟩ := field_of Try.underlying43 h 2 3 2 rfl
  match cs, hl with
  | [v0, v1, v2], _ =>
    simp only [c3, c22] at h0 h1 h2
    obtain ⟨k0, e0, g0⟩ := trod_float Try.underlying22 h0
    obtain ⟨k1, e1, -, g1⟩ := DataW.trod_int Try.underlying3 h1
    obtain ⟨k2, e2, -, g2⟩ := DataW.trod_int Try.underlying3 h2
    simp at e0 e1 e2
    subst e0 e1 e2
    exact ⟨⟨k0, k1, k2⟩, rfl, g0, bounds_i64 g1, bounds_i64 g2⟩
theorem open_model {fuel : Nat} {cs : List Value} {x : DataW H × List MemPlace} (h : DataW.trod enc Try.prog w base spare held fuel 28 cs = some x) :
    ∃ (m : PModel) (vd vp vl vi : Value), cs = [.int .i64 m.seed, .float .f64 m.fin, vd, vp, vl, vi] ∧ ModelAt w vd vp vl vi m ∧ m.wf := by
  have hl := cells_of Try.underlying28 h
  rw [c28] at hl
  obtain ⟨n0, y0, h0⟩ := field_of Try.underlying28 h 0 3 0 rfl
  obtain ⟨n1, y1, h1⟩ := field_of Try.underlying28 h 1 22 1 rfl
  obtain ⟨n2, y2, h2⟩ := field_of Try.underlying28 h 2 23 2 rfl
  obtain ⟨n3, y3, h3⟩ := field_of Try.underlying28 h 3 24 3 rfl
  obtain ⟨n4, y4, h4⟩ := field_of Try.underlying28 h 4 25 4 rfl
  obtain ⟨n5, y5, h5⟩ := field_of Try.underlying28 h 5 26 5 rfl
  match cs, hl with
  | [v0, v1, v2, v3, v4, v5], _ =>
    simp only [c3, c22, c23, c24, c25, c26] at h0 h1 h2 h3 h4 h5
    obtain ⟨k0, e0, -, g0⟩ := DataW.trod_int Try.underlying3 h0
    obtain ⟨k1, e1, g1⟩ := trod_float Try.underlying22 h1
    obtain ⟨vd, ld, e2, hd, g2⟩ := open_Sl Try.underlying23 c22 (Nat.le_refl _) FloatAt u64n (fun b o n cs' x' q1 q2 q3 => by
      obtain ⟨k, rfl, hk⟩ := trod_float Try.underlying22 q3
      exact ⟨k, by simpa [FloatAt] using q1 0 (by omega), hk⟩) h2
    obtain ⟨vp, lp, e3, hp, g3⟩ := open_Sl Try.underlying24 c38 (Nat.le_refl _) (SlAt 4 InsAt) (fun p => ∀ x ∈ p, x.wf) (fun b o n cs' x' q1 q2 q3 => by
      obtain ⟨v, l, rfl, hs, hk⟩ := open_code q3
      exact ⟨l, ⟨v, by simpa using q1 0 (by omega), hs⟩, hk⟩) h3
    obtain ⟨vl, ll, e4, hll, g4⟩ := open_Sl Try.underlying25 c41 (by omega) LPAt PLP.wf (fun b o n cs' x' q1 q2 q3 => by
      obtain ⟨y, v, rfl, hs, hk⟩ := open_lp q3
      exact ⟨y, ⟨by simpa using q1 0 (by omega), v, by simpa using q1 1 (by omega), hs⟩, hk⟩) h4
    obtain ⟨vi, li, e5, hi, g5⟩ := open_Sl Try.underlying26 c43 (by omega) InitAt PInit.wf (fun b o n cs' x' q1 q2 q3 => by
      obtain ⟨y, rfl, hk⟩ := open_init q3
      exact ⟨y, ⟨by simpa using q1 0 (by omega), by simpa using q1 1 (by omega), by simpa using q1 2 (by omega)⟩, hk⟩) h5
    simp at e0 e1 e2 e3 e4 e5
    subst e0 e1 e2 e3 e4 e5
    exact ⟨⟨k0, k1, ld, lp, ll, li⟩, _, _, _, _, rfl, ⟨hd, hp, hll, hi⟩, bounds_i64 g0, g1, g2, g3, g4, g5⟩

/-- Arguments by value: structs as they stand in a frame. -/
theorem arg_model {r : Reach} {b0 : Nat} {v : Value} {d : DataW H} {p : List MemPlace} (hv : Value.okWide Try.prog w r b0 28 v) (h : DataW.Trod enc Try.prog w base spare held 28 v d p) :
    ∃ (m : PModel) (vd vp vl vi : Value), v = .agg #[.int .i64 m.seed, .float .f64 m.fin, vd, vp, vl, vi] ∧ ModelAt w vd vp vl vi m ∧ m.wf := by
  obtain ⟨cs, rfl, -⟩ := okWide_struct Try.underlying28 hv
  obtain ⟨fuel, hf⟩ := h
  obtain ⟨m, vd, vp, vl, vi, e, h1, h2⟩ := open_model hf
  exact ⟨m, vd, vp, vl, vi, by congr 1; apply Array.ext'; simpa [Value.cells] using e, h1, h2⟩
theorem arg_ins {r : Reach} {b0 : Nat} {v : Value} {d : DataW H} {p : List MemPlace} (hv : Value.okWide Try.prog w r b0 34 v) (h : DataW.Trod enc Try.prog w base spare held 34 v d p) :
    ∃ y : PIns, v = .agg #[.int .i64 y.op, .int .i64 y.a, .int .i64 y.b, .int .i64 y.c] ∧ y.wf := by
  obtain ⟨cs, rfl, -⟩ := okWide_struct Try.underlying34 hv
  obtain ⟨fuel, hf⟩ := h
  obtain ⟨y, e, h2⟩ := open_ins hf
  exact ⟨y, by congr 1; apply Array.ext'; simpa [Value.cells] using e, h2⟩
theorem arg_int {r : Reach} {b0 : Nat} {v : Value} {d : DataW H} {p : List MemPlace} (hv : Value.okWide Try.prog w r b0 3 v) (h : DataW.Trod enc Try.prog w base spare held 3 v d p) :
    ∃ n : Int, v = .int .i64 n ∧ i64 n := by
  obtain ⟨n, rfl⟩ := okWide_int Try.underlying3 hv
  obtain ⟨fuel, hf⟩ := h
  obtain ⟨k, e, -, g⟩ := DataW.trod_int Try.underlying3 hf
  simp [Value.cells] at e
  subst e
  exact ⟨_, rfl, bounds_i64 g⟩

end
end Go.Proofs.Ytkoopobfelcgpaa
