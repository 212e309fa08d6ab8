/- layer 7: arguments: programs, inputs -/
import Derived.Test.YtkoopobfelcgpaaHE
import Derived.Test.YtkoopobfelcgpaaRows
import Derived.ProofKit
import Derived.OpenShut
namespace Go.Proofs.Ytkoopobfelcgpaa
open Go.ChangeShapes Go.WideShapes Go.ChangeAt Go.RowKit Go.Deep
set_option maxRecDepth 100000
section
variable {H : Type} {enc : TypeId × Value → H} {w : World} {base : Nat} {spare : Nat → Bool} {held : Bool}
theorem c51 : Try.prog.cellsOf 51 = 6 := by kernel_rfl
theorem arg_code {r : Reach} {b0 : Nat} {v : Value} {d : DataW H} {p : List MemPlace} (hv : Value.okWide Try.prog w r b0 38 v) (h : DataW.Trod enc Try.prog w base spare held 38 v d p) :
    ∃ (u : Value) (c : List PIns), v = u ∧ Sl 4 InsAt w u c ∧ ∀ x ∈ c, x.wf := by
  obtain ⟨a, len, cap, rfl⟩ := okWide_slice Try.underlying38 hv
  obtain ⟨fuel, hf⟩ := h
  obtain ⟨u, l, e, h1, h2⟩ := open_code hf
  have e' : Value.slice a len cap = u := by simpa [Value.cells] using e
  exact ⟨u, l, e', h1, h2⟩
theorem open_input {fuel : Nat} {cs : List Value} {x : DataW H × List MemPlace} (h : DataW.trod enc Try.prog w base spare held fuel 51 cs = some x) :
    ∃ (y : PIn) (u : Value), cs = [u, .int .i64 y.pay, .int .i64 y.me, .int .i64 y.lps, .int .i64 y.seed, .int .i64 y.dice] ∧ Sl 1 IntAt w u y.words ∧ y.wf := by
  have hl := cells_of Try.underlying51 h
  rw [c51] at hl
  obtain ⟨n0, y0, h0⟩ := field_of Try.underlying51 h 0 39 0 rfl
  obtain ⟨n1, y1, h1⟩ := field_of Try.underlying51 h 1 3 1 rfl
  obtain ⟨n2, y2, h2⟩ := field_of Try.underlying51 h 2 3 2 rfl
  obtain ⟨n3, y3, h3⟩ := field_of Try.underlying51 h 3 3 3 rfl
  obtain ⟨n4, y4, h4⟩ := field_of Try.underlying51 h 4 3 4 rfl
  obtain ⟨n5, y5, h5⟩ := field_of Try.underlying51 h 5 3 5 rfl
  match cs, hl with
  | [v0, v1, v2, v3, v4, v5], _ =>
    simp only [c3, c39] at h0 h1 h2 h3 h4 h5
    obtain ⟨u, l, e0, hs, g0⟩ := open_ints1 h0
    obtain ⟨k1, e1, -, g1⟩ := DataW.trod_int Try.underlying3 h1
    obtain ⟨k2, e2, -, g2⟩ := DataW.trod_int Try.underlying3 h2
    obtain ⟨k3, e3, -, g3⟩ := DataW.trod_int Try.underlying3 h3
    obtain ⟨k4, e4, -, g4⟩ := DataW.trod_int Try.underlying3 h4
    obtain ⟨k5, e5, -, g5⟩ := DataW.trod_int Try.underlying3 h5
    simp at e0 e1 e2 e3 e4 e5
    subst e0 e1 e2 e3 e4 e5
    exact ⟨⟨l, k1, k2, k3, k4, k5⟩, _, rfl, hs, g0, bounds_i64 g1, bounds_i64 g2, bounds_i64 g3, bounds_i64 g4, bounds_i64 g5⟩
theorem arg_input {r : Reach} {b0 : Nat} {v : Value} {d : DataW H} {p : List MemPlace} (hv : Value.okWide Try.prog w r b0 51 v) (h : DataW.Trod enc Try.prog w base spare held 51 v d p) :
    ∃ (y : PIn) (u : Value), v = inV u y ∧ Sl 1 IntAt w u y.words ∧ y.wf := by
  obtain ⟨cs, rfl, -⟩ := okWide_struct Try.underlying51 hv
  obtain ⟨fuel, hf⟩ := h
  obtain ⟨y, u, e, h1, h2⟩ := open_input hf
  exact ⟨y, u, by unfold inV; congr 1; apply Array.ext'; simpa [Value.cells] using e, h1, h2⟩
theorem insI_of {c : List PIns} (h : ∀ x ∈ c, x.wf) : insI c := fun x hx => ⟨(h x hx).2.1, (h x hx).2.2.1, (h x hx).2.2.2⟩
end
end Go.Proofs.Ytkoopobfelcgpaa
