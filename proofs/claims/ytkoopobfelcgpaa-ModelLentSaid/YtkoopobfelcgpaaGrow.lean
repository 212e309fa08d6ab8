/- A region that draws its order, whose operations only read and whose calls only add new blocks: one walk in the order of the text serves every order. -/
import Derived.Test.YtkoopobfelcgpaaBase
import Derived.Deep.QuietTactic
import Derived.BigQuiet
namespace Go.Proofs.Ytkoopobfelcgpaa
open Go.RowKit

/-- A world that has grown out of W0. -/
structure After (W0 : World) where
  w : World
  h : Gr W0 w

instance {W0 : World} : Nonempty (After W0) := ⟨⟨W0, Gr.refl _⟩⟩

theorem wp_region_grow {id : Nat} {Q : Exit → Act → World → Prop} {a : Act} {w : World} {l : List Oper} (W0 : World) (h0 : Gr W0 w) (hm : Try.prog.follows .mixedOrders = true) (hB : Region.lexB .any l.toArray = true)
    (h : wpQuiet Try.prog l.toArray (fun w' => ∃ x : After W0, w' = x.w) (fun a' => ∀ w', (∃ x : After W0, w' = x.w) → Q .normal a' w') l a) : (Code.region id l.toArray true).wp Try.prog Q a w :=
  wp_region_quiet (C := fun w' => ∃ x : After W0, w' = x.w) hm hB ⟨⟨_, h0.drew⟩, rfl⟩ (by simpa using h)

theorem After.calls {W0 : World} {x : After W0} {f : FuncId} {args : Array Value} {v : Value} (h : Calls Try.prog f args x.w fun e w' => e = .returned v ∧ Gr x.w w') :
    Calls Try.prog f args x.w fun e w'' => e = .returned v ∧ ∃ y : After W0, w'' = y.w :=
  h.mono fun _ w' ⟨he, hg⟩ => ⟨he, ⟨w', x.h.trans hg⟩, rfl⟩
theorem After.calls_same {W0 : World} {x : After W0} {f : FuncId} {args : Array Value} {v : Value} (h : Calls Try.prog f args x.w fun e w' => e = .returned v ∧ x.w = w') :
    Calls Try.prog f args x.w fun e w'' => e = .returned v ∧ ∃ y : After W0, w'' = y.w :=
  h.mono fun _ _ ⟨he, hg⟩ => ⟨he, x, hg.symm⟩
theorem After.box1 {w W : World} {a0 : Value} {t : TypeId} (hW : Gr (w.alloc (.cells #[a0] t)) W) : (∀ x : After W, Gr w x.w) ∧ (∀ x : After W, x.w.cell? ⟨w.heap.size, 0, none⟩ = some a0) :=
  ⟨fun x => (((Gr.refl w).alloc _).trans hW).trans x.h, fun x => (hW.trans x.h).cell (by simp)⟩
theorem After.box2 {w W : World} {a0 a1 : Value} {t : TypeId} (hW : Gr (w.alloc (.cells #[a0, a1] t)) W) : (∀ x : After W, Gr w x.w) ∧ (∀ x : After W, x.w.cell? ⟨w.heap.size, 0, none⟩ = some a0) ∧ (∀ x : After W, x.w.cell? ⟨w.heap.size, 1, none⟩ = some a1) :=
  ⟨fun x => (((Gr.refl w).alloc _).trans hW).trans x.h, fun x => (hW.trans x.h).cell (by simp), fun x => (hW.trans x.h).cell (by simp)⟩
theorem After.box3 {w W : World} {a0 a1 a2 : Value} {t : TypeId} (hW : Gr (w.alloc (.cells #[a0, a1, a2] t)) W) : (∀ x : After W, Gr w x.w) ∧ (∀ x : After W, x.w.cell? ⟨w.heap.size, 0, none⟩ = some a0) ∧ (∀ x : After W, x.w.cell? ⟨w.heap.size, 1, none⟩ = some a1) ∧ (∀ x : After W, x.w.cell? ⟨w.heap.size, 2, none⟩ = some a2) :=
  ⟨fun x => (((Gr.refl w).alloc _).trans hW).trans x.h, fun x => (hW.trans x.h).cell (by simp), fun x => (hW.trans x.h).cell (by simp), fun x => (hW.trans x.h).cell (by simp)⟩
theorem After.box4 {w W : World} {a0 a1 a2 a3 : Value} {t : TypeId} (hW : Gr (w.alloc (.cells #[a0, a1, a2, a3] t)) W) : (∀ x : After W, Gr w x.w) ∧ (∀ x : After W, x.w.cell? ⟨w.heap.size, 0, none⟩ = some a0) ∧ (∀ x : After W, x.w.cell? ⟨w.heap.size, 1, none⟩ = some a1) ∧ (∀ x : After W, x.w.cell? ⟨w.heap.size, 2, none⟩ = some a2) ∧ (∀ x : After W, x.w.cell? ⟨w.heap.size, 3, none⟩ = some a3) :=
  ⟨fun x => (((Gr.refl w).alloc _).trans hW).trans x.h, fun x => (hW.trans x.h).cell (by simp), fun x => (hW.trans x.h).cell (by simp), fun x => (hW.trans x.h).cell (by simp), fun x => (hW.trans x.h).cell (by simp)⟩
theorem After.box5 {w W : World} {a0 a1 a2 a3 a4 : Value} {t : TypeId} (hW : Gr (w.alloc (.cells #[a0, a1, a2, a3, a4] t)) W) : (∀ x : After W, Gr w x.w) ∧ (∀ x : After W, x.w.cell? ⟨w.heap.size, 0, none⟩ = some a0) ∧ (∀ x : After W, x.w.cell? ⟨w.heap.size, 1, none⟩ = some a1) ∧ (∀ x : After W, x.w.cell? ⟨w.heap.size, 2, none⟩ = some a2) ∧ (∀ x : After W, x.w.cell? ⟨w.heap.size, 3, none⟩ = some a3) ∧ (∀ x : After W, x.w.cell? ⟨w.heap.size, 4, none⟩ = some a4) :=
  ⟨fun x => (((Gr.refl w).alloc _).trans hW).trans x.h, fun x => (hW.trans x.h).cell (by simp), fun x => (hW.trans x.h).cell (by simp), fun x => (hW.trans x.h).cell (by simp), fun x => (hW.trans x.h).cell (by simp), fun x => (hW.trans x.h).cell (by simp)⟩
theorem After.box6 {w W : World} {a0 a1 a2 a3 a4 a5 : Value} {t : TypeId} (hW : Gr (w.alloc (.cells #[a0, a1, a2, a3, a4, a5] t)) W) : (∀ x : After W, Gr w x.w) ∧ (∀ x : After W, x.w.cell? ⟨w.heap.size, 0, none⟩ = some a0) ∧ (∀ x : After W, x.w.cell? ⟨w.heap.size, 1, none⟩ = some a1) ∧ (∀ x : After W, x.w.cell? ⟨w.heap.size, 2, none⟩ = some a2) ∧ (∀ x : After W, x.w.cell? ⟨w.heap.size, 3, none⟩ = some a3) ∧ (∀ x : After W, x.w.cell? ⟨w.heap.size, 4, none⟩ = some a4) ∧ (∀ x : After W, x.w.cell? ⟨w.heap.size, 5, none⟩ = some a5) :=
  ⟨fun x => (((Gr.refl w).alloc _).trans hW).trans x.h, fun x => (hW.trans x.h).cell (by simp), fun x => (hW.trans x.h).cell (by simp), fun x => (hW.trans x.h).cell (by simp), fun x => (hW.trans x.h).cell (by simp), fun x => (hW.trans x.h).cell (by simp), fun x => (hW.trans x.h).cell (by simp)⟩
theorem mixed : Try.prog.follows .mixedOrders = true := by kernel_rfl
theorem Calls.to {f : FuncId} {args : Array Value} {v u : Value} {w : World} (h : Calls Try.prog f args w fun e w' => e = .returned v ∧ Gr w w') (e : v = u) : Calls Try.prog f args w fun e w' => e = .returned u ∧ Gr w w' := e ▸ h
theorem boolv {a b : Bool} (h : a = b) : Value.bool a = Value.bool b := by rw [h]
theorem intv {k : IntKind} {a b : Int} (h : a = b) : Value.int k a = Value.int k b := by rw [h]
end Go.Proofs.Ytkoopobfelcgpaa
