/- Words that all texts of this seat share: worlds that only grow, floats as their bits. -/
import Derived.Test.YtkoopobfelcgpaaProg
import Derived.WalkKit
import Derived.Handy
import Derived.WalkLawsBesides
import Derived.WalkSpells
import Derived.Lib.Hide
import Derived.Deep.LoopGhost
import Derived.Laws.EntriesVeiled
import Derived.WideLaws
namespace Go.Proofs.Ytkoopobfelcgpaa
open Go.RowKit

/-- A store of a float. -/
@[go_sem] theorem run_store_float (P : Program) (w : World) (a : Addr) (m : Mode) (k : FloatKind) (x : Nat) : (store a (.float k x) m).run P w = stored P w a (.float k x) m := run_store P w a _ m rfl

/-- w' is w and new blocks: all that was there is as it was. -/
def Gr (w w' : World) : Prop := Below w.heap.size w w'
theorem Gr.refl (w : World) : Gr w w := Below.refl _ _
theorem Gr.trans {a b c : World} (h : Gr a b) (k : Gr b c) : Gr a c := Below.trans h (Below.mono k h.size)
theorem Gr.size {a b : World} (h : Gr a b) : a.heap.size ≤ b.heap.size := Below.size h
theorem Gr.alloc {a b : World} (h : Gr a b) (o : Obj) : Gr a (b.alloc o) := Below.alloc h h.size o
theorem Gr.drew {a b : World} (h : Gr a b) : Gr a b.drew := Below.drew h
theorem Gr.below {a b : World} (h : Gr a b) : Below a.heap.size a b := h
theorem Gr.setCell {a b : World} (h : Gr a b) {p : Addr} (hp : a.heap.size ≤ p.block) (u : Value) : Gr a (b.setCell p u) := Below.setCell h hp u
theorem lt_of_cell {w : World} {p : Addr} {v : Value} (h : w.cell? p = some v) : p.block < w.heap.size := by
  unfold World.cell? at h
  rcases Nat.lt_or_ge p.block w.heap.size with g | g
  · exact g
  · rw [Array.getElem?_eq_none g] at h; cases h
theorem Gr.cell {a b : World} (h : Gr a b) {p : Addr} {v : Value} (hc : a.cell? p = some v) : b.cell? p = some v := by
  rw [Below.cell h (lt_of_cell hc)]; exact hc

/-- Is it no number? (a float64's bits) -/
def fnan (x : Nat) : Bool := FloatKind.f64.format.order x x != some Ordering.eq
def fgt (x y : Nat) : Bool := FloatKind.f64.format.order x y == some Ordering.gt
def flt (x y : Nat) : Bool := FloatKind.f64.format.order x y == some Ordering.lt
def feq (x y : Nat) : Bool := FloatKind.f64.format.order x y == some Ordering.eq
def fle (x y : Nat) : Bool := flt x y || feq x y

/-- the same float (model.float, horologeref05.Float) -/
def fsame (x y : Nat) : Bool := decide (x = y) || (fnan x && fnan y)

theorem run_fbits (x : Nat) (w : World) : (callFunc 152 #[.float .f64 x]).run Try.prog w = .ok (.value (.int .u64 x)) w := by kernel_rfl
theorem run_frombits (x : Int) (w : World) : (callFunc 158 #[.int .u64 x]).run Try.prog w = .ok (.value (.float .f64 x.toNat)) w := by kernel_rfl

theorem fnan_eq (x : Nat) : (FloatKind.f64.format.order x x != some Ordering.eq) = fnan x := rfl
theorem ret_bool {a b : Bool} (h : a = b) : Ending.returned (.bool a) = .returned (.bool b) := by rw [h]
theorem ret_int {k : IntKind} {a b : Int} (h : a = b) : Ending.returned (.int k a) = .returned (.int k b) := by rw [h]


/-- v is a slice whose elements, sz cells each, are told by R: the list l (nil, and an empty one, tell the empty list). -/
def Sl {α : Type} (sz : Nat) (R : World → Nat → Nat → α → Prop) (w : World) (v : Value) (l : List α) : Prop :=
  ∃ a cap, v = .slice a l.length cap ∧ l.length ≤ cap ∧ cap ≤ maxLen ∧ (a = none → cap = 0) ∧ ∀ i x, l[i]? = some x → ∃ b o, a = some ⟨b, o, none⟩ ∧ R w b (o + i * sz) x

/-- What stays when a world grows. -/
def Stays {α : Type} (R : World → Nat → Nat → α → Prop) : Prop := ∀ (w w' : World) (b o : Nat) (x : α), Gr w w' → R w b o x → R w' b o x

theorem Sl.gr {α : Type} {sz : Nat} {R : World → Nat → Nat → α → Prop} (hs : Stays R) {w w' : World} {v : Value} {l : List α} (g : Gr w w') (h : Sl sz R w v l) : Sl sz R w' v l := by
  obtain ⟨a, cap, e, h1, h2, h3, h4⟩ := h
  refine ⟨a, cap, e, h1, h2, h3, fun i x hx => ?_⟩
  obtain ⟨b, o, ea, hR⟩ := h4 i x hx
  exact ⟨b, o, ea, hs _ _ _ _ _ g hR⟩

/-- A whole number in a cell; a float. -/
def IntAt (w : World) (b o : Nat) (n : Int) : Prop := w.cell? ⟨b, o, none⟩ = some (.int .i64 n)
def FloatAt (w : World) (b o : Nat) (x : Nat) : Prop := w.cell? ⟨b, o, none⟩ = some (.float .f64 x)
theorem IntAt.gr : Stays IntAt := fun _ _ _ _ _ g h => g.cell h
theorem FloatAt.gr : Stays FloatAt := fun _ _ _ _ _ g h => g.cell h

/-- A new block of so many cells, in whatever came of its world. -/
theorem box1 {w W : World} {a0 : Value} {t : TypeId} (hW : Gr (w.alloc (.cells #[a0] t)) W) : Gr w W ∧ w.heap.size < W.heap.size ∧ W.cell? ⟨w.heap.size, 0, none⟩ = some a0 :=
  ⟨((Gr.refl w).alloc _).trans hW, Nat.lt_of_lt_of_le (by simp) hW.size, hW.cell (by simp)⟩
theorem box2 {w W : World} {a0 a1 : Value} {t : TypeId} (hW : Gr (w.alloc (.cells #[a0, a1] t)) W) : Gr w W ∧ w.heap.size < W.heap.size ∧ W.cell? ⟨w.heap.size, 0, none⟩ = some a0 ∧ W.cell? ⟨w.heap.size, 1, none⟩ = some a1 :=
  ⟨((Gr.refl w).alloc _).trans hW, Nat.lt_of_lt_of_le (by simp) hW.size, hW.cell (by simp), hW.cell (by simp)⟩
theorem box3 {w W : World} {a0 a1 a2 : Value} {t : TypeId} (hW : Gr (w.alloc (.cells #[a0, a1, a2] t)) W) : Gr w W ∧ w.heap.size < W.heap.size ∧ W.cell? ⟨w.heap.size, 0, none⟩ = some a0 ∧ W.cell? ⟨w.heap.size, 1, none⟩ = some a1 ∧ W.cell? ⟨w.heap.size, 2, none⟩ = some a2 :=
  ⟨((Gr.refl w).alloc _).trans hW, Nat.lt_of_lt_of_le (by simp) hW.size, hW.cell (by simp), hW.cell (by simp), hW.cell (by simp)⟩
theorem box4 {w W : World} {a0 a1 a2 a3 : Value} {t : TypeId} (hW : Gr (w.alloc (.cells #[a0, a1, a2, a3] t)) W) : Gr w W ∧ w.heap.size < W.heap.size ∧ W.cell? ⟨w.heap.size, 0, none⟩ = some a0 ∧ W.cell? ⟨w.heap.size, 1, none⟩ = some a1 ∧ W.cell? ⟨w.heap.size, 2, none⟩ = some a2 ∧ W.cell? ⟨w.heap.size, 3, none⟩ = some a3 :=
  ⟨((Gr.refl w).alloc _).trans hW, Nat.lt_of_lt_of_le (by simp) hW.size, hW.cell (by simp), hW.cell (by simp), hW.cell (by simp), hW.cell (by simp)⟩
theorem box5 {w W : World} {a0 a1 a2 a3 a4 : Value} {t : TypeId} (hW : Gr (w.alloc (.cells #[a0, a1, a2, a3, a4] t)) W) : Gr w W ∧ w.heap.size < W.heap.size ∧ W.cell? ⟨w.heap.size, 0, none⟩ = some a0 ∧ W.cell? ⟨w.heap.size, 1, none⟩ = some a1 ∧ W.cell? ⟨w.heap.size, 2, none⟩ = some a2 ∧ W.cell? ⟨w.heap.size, 3, none⟩ = some a3 ∧ W.cell? ⟨w.heap.size, 4, none⟩ = some a4 :=
  ⟨((Gr.refl w).alloc _).trans hW, Nat.lt_of_lt_of_le (by simp) hW.size, hW.cell (by simp), hW.cell (by simp), hW.cell (by simp), hW.cell (by simp), hW.cell (by simp)⟩
theorem box6 {w W : World} {a0 a1 a2 a3 a4 a5 : Value} {t : TypeId} (hW : Gr (w.alloc (.cells #[a0, a1, a2, a3, a4, a5] t)) W) : Gr w W ∧ w.heap.size < W.heap.size ∧ W.cell? ⟨w.heap.size, 0, none⟩ = some a0 ∧ W.cell? ⟨w.heap.size, 1, none⟩ = some a1 ∧ W.cell? ⟨w.heap.size, 2, none⟩ = some a2 ∧ W.cell? ⟨w.heap.size, 3, none⟩ = some a3 ∧ W.cell? ⟨w.heap.size, 4, none⟩ = some a4 ∧ W.cell? ⟨w.heap.size, 5, none⟩ = some a5 :=
  ⟨((Gr.refl w).alloc _).trans hW, Nat.lt_of_lt_of_le (by simp) hW.size, hW.cell (by simp), hW.cell (by simp), hW.cell (by simp), hW.cell (by simp), hW.cell (by simp), hW.cell (by simp)⟩

end Go.Proofs.Ytkoopobfelcgpaa
