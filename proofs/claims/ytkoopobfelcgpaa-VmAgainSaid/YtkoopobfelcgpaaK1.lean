/- K1: the texts Base A1 A2 A3 A4 A5 Open Facts A6 A7 A8 A9 A10 A11, merged by tools/merge.py -/
import Derived.Test.YtkoopobfelcgpaaProg
import Derived.WalkKit
import Derived.Handy
import Derived.WalkLawsBesides
import Derived.WalkSpells
import Derived.Lib.Hide
import Derived.Deep.LoopGhost
import Derived.Laws.EntriesVeiled
import Derived.WideLaws
import Derived.Test.YtkoopobfelcgpaaRows
import Derived.ProofKit
import Derived.OpenShut
import Derived.Deep.Slices
import Derived.JoinedOf
import Derived.KernelRfl
import Derived.Deep.QuietTactic
import Derived.BigQuiet

section -- Base
/- Words that all texts of this seat share: worlds that only grow, floats as their bits. -/
namespace Go.Proofs.Ytkoopobfelcgpaa
open Go.RowKit

/-- A store of a float. -/
@[go_sem] theorem run_store_float (P : Program) (w : World) (a : Addr) (m : Mode) (k : FloatKind) (x : Nat) : (store a (.float k x) m).run P w = stored P w a (.float k x) m := run_store P w a _ m rfl

/-- w' is w and new blocks: all that was there is as it was. -/
def Gr (w w' : World) : Prop := Below w.heap.size w w'
theorem Gr.refl (w : World) : Gr w w := Below.refl _ _
theorem Gr.trans {a b c : World} (h : Gr a b) (k : Gr b c) : Gr a c := Below.trans h (Below.mono k h.size)
theorem Gr.size {a b : World} (h : Gr a b) : a.heap.size ≤ b.heap.size := Below.size h
theorem Gr.alloc {a b : World} (h : Gr a b) (o : Obj) : Gr a (b.alloc o) := Below.alloc h h.size o
theorem Gr.drew {a b : World} (h : Gr a b) : Gr a b.drew := Below.drew h
theorem Gr.below {a b : World} (h : Gr a b) : Below a.heap.size a b := h
theorem Gr.setCell {a b : World} (h : Gr a b) {p : Addr} (hp : a.heap.size ≤ p.block) (u : Value) : Gr a (b.setCell p u) := Below.setCell h hp u
theorem lt_of_cell {w : World} {p : Addr} {v : Value} (h : w.cell? p = some v) : p.block < w.heap.size := by
  unfold World.cell? at h
  rcases Nat.lt_or_ge p.block w.heap.size with g | g
  · exact g
  · rw [Array.getElem?_eq_none g] at h; cases h
theorem Gr.cell {a b : World} (h : Gr a b) {p : Addr} {v : Value} (hc : a.cell? p = some v) : b.cell? p = some v := by
  rw [Below.cell h (lt_of_cell hc)]; exact hc

/-- Is it no number? (a float64's bits) -/
def fnan (x : Nat) : Bool := FloatKind.f64.format.order x x != some Ordering.eq
def fgt (x y : Nat) : Bool := FloatKind.f64.format.order x y == some Ordering.gt
def flt (x y : Nat) : Bool := FloatKind.f64.format.order x y == some Ordering.lt
def feq (x y : Nat) : Bool := FloatKind.f64.format.order x y == some Ordering.eq
def fle (x y : Nat) : Bool := flt x y || feq x y

/-- the same float (model.float, horologeref05.Float) -/
def fsame (x y : Nat) : Bool := decide (x = y) || (fnan x && fnan y)

theorem run_fbits (x : Nat) (w : World) : (callFunc 152 #[.float .f64 x]).run Try.prog w = .ok (.value (.int .u64 x)) w := by kernel_rfl
theorem run_frombits (x : Int) (w : World) : (callFunc 158 #[.int .u64 x]).run Try.prog w = .ok (.value (.float .f64 x.toNat)) w := by kernel_rfl

theorem fnan_eq (x : Nat) : (FloatKind.f64.format.order x x != some Ordering.eq) = fnan x := rfl
theorem ret_bool {a b : Bool} (h : a = b) : Ending.returned (.bool a) = .returned (.bool b) := by rw [h]
theorem ret_int {k : IntKind} {a b : Int} (h : a = b) : Ending.returned (.int k a) = .returned (.int k b) := by rw [h]


/-- v is a slice whose elements, sz cells each, are told by R: the list l (nil, and an empty one, tell the empty list). -/
def Sl {α : Type} (sz : Nat) (R : World → Nat → Nat → α → Prop) (w : World) (v : Value) (l : List α) : Prop :=
  ∃ a cap, v = .slice a l.length cap ∧ l.length ≤ cap ∧ cap ≤ maxLen ∧ (a = none → cap = 0) ∧ ∀ i x, l[i]? = some x → ∃ b o, a = some ⟨b, o, none⟩ ∧ R w b (o + i * sz) x

/-- What stays when a world grows. -/
def Stays {α : Type} (R : World → Nat → Nat → α → Prop) : Prop := ∀ (w w' : World) (b o : Nat) (x : α), Gr w w' → R w b o x → R w' b o x

theorem Sl.gr {α : Type} {sz : Nat} {R : World → Nat → Nat → α → Prop} (hs : Stays R) {w w' : World} {v : Value} {l : List α} (g : Gr w w') (h : Sl sz R w v l) : Sl sz R w' v l := by
  obtain ⟨a, cap, e, h1, h2, h3, h4⟩ := h
  refine ⟨a, cap, e, h1, h2, h3, fun i x hx => ?_⟩
  obtain ⟨b, o, ea, hR⟩ := h4 i x hx
  exact ⟨b, o, ea, hs _ _ _ _ _ g hR⟩

/-- A whole number in a cell; a float. -/
def IntAt (w : World) (b o : Nat) (n : Int) : Prop := w.cell? ⟨b, o, none⟩ = some (.int .i64 n)
def FloatAt (w : World) (b o : Nat) (x : Nat) : Prop := w.cell? ⟨b, o, none⟩ = some (.float .f64 x)
theorem IntAt.gr : Stays IntAt := fun _ _ _ _ _ g h => g.cell h
theorem FloatAt.gr : Stays FloatAt := fun _ _ _ _ _ g h => g.cell h

/-- A new block of so many cells, in whatever came of its world. -/
theorem box1 {w W : World} {a0 : Value} {t : TypeId} (hW : Gr (w.alloc (.cells #[a0] t)) W) : Gr w W ∧ w.heap.size < W.heap.size ∧ W.cell? ⟨w.heap.size, 0, none⟩ = some a0 :=
  ⟨((Gr.refl w).alloc _).trans hW, Nat.lt_of_lt_of_le (by simp) hW.size, hW.cell (by simp)⟩
theorem box2 {w W : World} {a0 a1 : Value} {t : TypeId} (hW : Gr (w.alloc (.cells #[a0, a1] t)) W) : Gr w W ∧ w.heap.size < W.heap.size ∧ W.cell? ⟨w.heap.size, 0, none⟩ = some a0 ∧ W.cell? ⟨w.heap.size, 1, none⟩ = some a1 :=
  ⟨((Gr.refl w).alloc _).trans hW, Nat.lt_of_lt_of_le (by simp) hW.size, hW.cell (by simp), hW.cell (by simp)⟩
theorem box3 {w W : World} {a0 a1 a2 : Value} {t : TypeId} (hW : Gr (w.alloc (.cells #[a0, a1, a2] t)) W) : Gr w W ∧ w.heap.size < W.heap.size ∧ W.cell? ⟨w.heap.size, 0, none⟩ = some a0 ∧ W.cell? ⟨w.heap.size, 1, none⟩ = some a1 ∧ W.cell? ⟨w.heap.size, 2, none⟩ = some a2 :=
  ⟨((Gr.refl w).alloc _).trans hW, Nat.lt_of_lt_of_le (by simp) hW.size, hW.cell (by simp), hW.cell (by simp), hW.cell (by simp)⟩
theorem box4 {w W : World} {a0 a1 a2 a3 : Value} {t : TypeId} (hW : Gr (w.alloc (.cells #[a0, a1, a2, a3] t)) W) : Gr w W ∧ w.heap.size < W.heap.size ∧ W.cell? ⟨w.heap.size, 0, none⟩ = some a0 ∧ W.cell? ⟨w.heap.size, 1, none⟩ = some a1 ∧ W.cell? ⟨w.heap.size, 2, none⟩ = some a2 ∧ W.cell? ⟨w.heap.size, 3, none⟩ = some a3 :=
  ⟨((Gr.refl w).alloc _).trans hW, Nat.lt_of_lt_of_le (by simp) hW.size, hW.cell (by simp), hW.cell (by simp), hW.cell (by simp), hW.cell (by simp)⟩
theorem box5 {w W : World} {a0 a1 a2 a3 a4 : Value} {t : TypeId} (hW : Gr (w.alloc (.cells #[a0, a1, a2, a3, a4] t)) W) : Gr w W ∧ w.heap.size < W.heap.size ∧ W.cell? ⟨w.heap.size, 0, none⟩ = some a0 ∧ W.cell? ⟨w.heap.size, 1, none⟩ = some a1 ∧ W.cell? ⟨w.heap.size, 2, none⟩ = some a2 ∧ W.cell? ⟨w.heap.size, 3, none⟩ = some a3 ∧ W.cell? ⟨w.heap.size, 4, none⟩ = some a4 :=
  ⟨((Gr.refl w).alloc _).trans hW, Nat.lt_of_lt_of_le (by simp) hW.size, hW.cell (by simp), hW.cell (by simp), hW.cell (by simp), hW.cell (by simp), hW.cell (by simp)⟩
theorem box6 {w W : World} {a0 a1 a2 a3 a4 a5 : Value} {t : TypeId} (hW : Gr (w.alloc (.cells #[a0, a1, a2, a3, a4, a5] t)) W) : Gr w W ∧ w.heap.size < W.heap.size ∧ W.cell? ⟨w.heap.size, 0, none⟩ = some a0 ∧ W.cell? ⟨w.heap.size, 1, none⟩ = some a1 ∧ W.cell? ⟨w.heap.size, 2, none⟩ = some a2 ∧ W.cell? ⟨w.heap.size, 3, none⟩ = some a3 ∧ W.cell? ⟨w.heap.size, 4, none⟩ = some a4 ∧ W.cell? ⟨w.heap.size, 5, none⟩ = some a5 :=
  ⟨((Gr.refl w).alloc _).trans hW, Nat.lt_of_lt_of_le (by simp) hW.size, hW.cell (by simp), hW.cell (by simp), hW.cell (by simp), hW.cell (by simp), hW.cell (by simp), hW.cell (by simp)⟩

end Go.Proofs.Ytkoopobfelcgpaa
end -- Base

section -- A1
/- layer 5: the leaves -/
namespace Go.Proofs.Ytkoopobfelcgpaa
open Go.RowKit

theorem isnan_any (x : Nat) (w : World) : Calls Try.prog 80 #[.float .f64 x] w fun e w' => e = .returned (.bool (fnan x)) ∧ w = w' := by
  go_enter Try.func80, Try.ntmps80
  go_wp2
  go_ret; exact ⟨rfl, rfl⟩

def regB (n : Int) : Bool := decide (0 ≤ n) && decide (n ≤ 7)
theorem reg_any (n : Int) (w : World) : Calls Try.prog 85 #[.int .i64 n] w fun e w' => e = .returned (.bool (regB n)) ∧ w = w' := by
  go_enter Try.func85, Try.ntmps85
  go_wp2
  all_goals (go_ret; exact ⟨ret_bool (by grind [regB]), rfl⟩)

def withinB (n a b : Int) : Bool := decide (a ≤ n) && decide (n ≤ b)
theorem within_any (n a b : Int) (w : World) : Calls Try.prog 82 #[.int .i64 n, .int .i64 a, .int .i64 b] w fun e w' => e = .returned (.bool (withinB n a b)) ∧ w = w' := by
  go_enter Try.func82, Try.ntmps82
  go_wp2
  all_goals (go_ret; exact ⟨ret_bool (by grind [withinB]), rfl⟩)

theorem float_any (x y : Nat) (w : World) : Calls Try.prog 86 #[.float .f64 x, .float .f64 y] w fun e w' => e = .returned (.bool (fsame x y)) ∧ w = w' := by
  have hx := run_fbits
  go_enter Try.func86, Try.ntmps86
  go_wp2_with (go_at_call 80; refine (isnan_any _ _).mono ?_; rintro e w' ⟨rfl, rfl⟩)
  all_goals (clear hx; go_ret; exact ⟨ret_bool (by grind [fsame]), rfl⟩)

theorem Float_any (x y : Nat) (w : World) : Calls Try.prog 94 #[.float .f64 x, .float .f64 y] w fun e w' => e = .returned (.bool (fsame x y)) ∧ w = w' := by
  have hx := run_fbits
  go_enter Try.func94, Try.ntmps94
  go_wp2
  all_goals (clear hx; go_ret; exact ⟨ret_bool (by grind [fsame, fnan]), rfl⟩)

end Go.Proofs.Ytkoopobfelcgpaa
end -- A1

section -- A2
/- layer 5: instructions -/
namespace Go.Proofs.Ytkoopobfelcgpaa
open Go.RowKit

/-- may an instruction be (P5.2)? -/
def insB (op a b c len : Int) : Bool :=
  if op = 0 then true
  else if op = 1 then regB a
  else if op = 2 ∨ op = 11 ∨ op = 13 ∨ op = 14 then regB a && regB b
  else if op = 3 ∨ op = 4 ∨ op = 5 ∨ op = 6 ∨ op = 7 ∨ op = 8 ∨ op = 12 then regB a && (regB b && regB c)
  else if op = 9 then decide (0 ≤ a) && decide (a ≤ len)
  else if op = 10 then regB a && (decide (0 ≤ b) && decide (b ≤ len))
  else false

theorem RIns_any (op a b c len : Int) (w : World) : Calls Try.prog 34 #[.agg #[.int .i64 op, .int .i64 a, .int .i64 b, .int .i64 c], .int .i64 len] w
    fun e w' => e = .returned (.bool (insB op a b c len)) ∧ Gr w w' := by
  go_enter Try.func34, Try.ntmps34
  go_wp2_with (go_at_call 85; refine (reg_any _ _).mono ?_; rintro e w' ⟨rfl, rfl⟩)
  all_goals (go_ret; exact ⟨ret_bool (by grind [insB]), (Gr.refl _).alloc _⟩)

def needsS (op : Int) : ByteArray :=
  if op = 0 then ⟨#[45, 45, 45]⟩
  else if op = 1 then ⟨#[114, 45, 45]⟩
  else if op = 2 ∨ op = 11 ∨ op = 13 ∨ op = 14 then ⟨#[114, 114, 45]⟩
  else if op = 3 ∨ op = 4 ∨ op = 5 ∨ op = 6 ∨ op = 7 ∨ op = 8 ∨ op = 12 then ⟨#[114, 114, 114]⟩
  else if op = 9 then ⟨#[112, 45, 45]⟩
  else if op = 10 then ⟨#[114, 112, 45]⟩
  else ⟨#[]⟩

theorem ret_string {a b : ByteArray} (h : a = b) : Ending.returned (.string a) = .returned (.string b) := by rw [h]
theorem needs_any (op : Int) (w : World) : Calls Try.prog 84 #[.int .i64 op] w fun e w' => e = .returned (.string (needsS op)) ∧ w = w' := by
  go_enter Try.func84, Try.ntmps84
  go_wp2
  all_goals (go_ret; exact ⟨ret_string (by grind [needsS]), rfl⟩)
end Go.Proofs.Ytkoopobfelcgpaa
end -- A2

section -- A3
/- layer 5: instructions -/
namespace Go.Proofs.Ytkoopobfelcgpaa
open Go.RowKit

def letB (x : UInt8) (n len : Int) : Bool := if (x.toNat : Int) = 114 then regB n else if (x.toNat : Int) = 112 then (decide (0 ≤ n) && decide (n ≤ len)) else true

theorem iter_cell {w : World} {s : ByteArray} {k : Nat} {p : Addr} {v : Value} (h : w.cell? p = some v) : (w.iter s k).cell? p = some v := ((Gr.refl w).alloc _).cell h

set_option maxHeartbeats 2000000 in
theorem Ins3_any (op a b c len : Int) (x0 x1 x2 : UInt8) (h0 : x0.toNat < 128) (h1 : x1.toNat < 128) (h2 : x2.toNat < 128) (hs : needsS op = ⟨#[x0, x1, x2]⟩) (w : World) :
    Calls Try.prog 33 #[.agg #[.int .i64 op, .int .i64 a, .int .i64 b, .int .i64 c], .int .i64 len] w
    fun e w' => e = .returned (.bool (letB x0 a len && (letB x1 b len && letB x2 c len))) ∧ Gr w w' := by
  have H := Lib.hid hs; clear hs
  have hsz : (ByteArray.mk #[x0, x1, x2]).size = 3 := rfl
  have n0 : ∀ (o1 o2 : Obj) (ty : TypeId), (Instr.next (.pointer (some ⟨w.heap.size + 1 + 1, 0, none⟩)) true ty).run Try.prog (((w.alloc o1).alloc o2).iter ⟨#[x0, x1, x2]⟩ 0) =
      .ok (.tuple #[.bool true, .int .i64 0, .int .i32 x0.toNat]) (((w.alloc o1).alloc o2).iter ⟨#[x0, x1, x2]⟩ 1) := by
    intro o1 o2 ty
    have := run_next_ascii (P := Try.prog) ((w.alloc o1).alloc o2) ⟨#[x0, x1, x2]⟩ 0 ty (by omega) h0
    simp only [World.size_alloc] at this
    exact this
  have n1 : ∀ (o1 o2 : Obj) (ty : TypeId), (Instr.next (.pointer (some ⟨w.heap.size + 1 + 1, 0, none⟩)) true ty).run Try.prog (((w.alloc o1).alloc o2).iter ⟨#[x0, x1, x2]⟩ 1) =
      .ok (.tuple #[.bool true, .int .i64 1, .int .i32 x1.toNat]) (((w.alloc o1).alloc o2).iter ⟨#[x0, x1, x2]⟩ 2) := by
    intro o1 o2 ty
    have := run_next_ascii (P := Try.prog) ((w.alloc o1).alloc o2) ⟨#[x0, x1, x2]⟩ 1 ty (by omega) h1
    simp only [World.size_alloc] at this
    exact this
  have n2 : ∀ (o1 o2 : Obj) (ty : TypeId), (Instr.next (.pointer (some ⟨w.heap.size + 1 + 1, 0, none⟩)) true ty).run Try.prog (((w.alloc o1).alloc o2).iter ⟨#[x0, x1, x2]⟩ 2) =
      .ok (.tuple #[.bool true, .int .i64 2, .int .i32 x2.toNat]) (((w.alloc o1).alloc o2).iter ⟨#[x0, x1, x2]⟩ 3) := by
    intro o1 o2 ty
    have := run_next_ascii (P := Try.prog) ((w.alloc o1).alloc o2) ⟨#[x0, x1, x2]⟩ 2 ty (by omega) h2
    simp only [World.size_alloc] at this
    exact this
  have n3 : ∀ (o1 o2 : Obj) (ty : TypeId), (Instr.next (.pointer (some ⟨w.heap.size + 1 + 1, 0, none⟩)) true ty).run Try.prog (((w.alloc o1).alloc o2).iter ⟨#[x0, x1, x2]⟩ 3) =
      .ok (.tuple #[.bool false]) (((w.alloc o1).alloc o2).iter ⟨#[x0, x1, x2]⟩ 3) := by
    intro o1 o2 ty
    have := run_next_end (P := Try.prog) ((w.alloc o1).alloc o2) ⟨#[x0, x1, x2]⟩ 3 ty (by omega)
    simp only [World.size_alloc] at this
    exact this
  clear hsz h0 h1 h2
  have c0 : ∀ (o1 : Obj) (k : Nat), (((w.alloc o1).alloc (Obj.cells #[Value.int IntKind.i64 a, Value.int IntKind.i64 b, Value.int IntKind.i64 c] 119)).iter ⟨#[x0, x1, x2]⟩ k).cell? ⟨w.heap.size + 1, 0, none⟩ = some (.int .i64 a) := by
    intro o1 k; exact iter_cell (by simp)
  have c1 : ∀ (o1 : Obj) (k : Nat), (((w.alloc o1).alloc (Obj.cells #[Value.int IntKind.i64 a, Value.int IntKind.i64 b, Value.int IntKind.i64 c] 119)).iter ⟨#[x0, x1, x2]⟩ k).cell? ⟨w.heap.size + 1, 1, none⟩ = some (.int .i64 b) := by
    intro o1 k; exact iter_cell (by simp)
  have c2 : ∀ (o1 : Obj) (k : Nat), (((w.alloc o1).alloc (Obj.cells #[Value.int IntKind.i64 a, Value.int IntKind.i64 b, Value.int IntKind.i64 c] 119)).iter ⟨#[x0, x1, x2]⟩ k).cell? ⟨w.heap.size + 1, 2, none⟩ = some (.int .i64 c) := by
    intro o1 k; exact iter_cell (by simp)
  go_enter Try.func33, Try.ntmps33
  go_wp2_with (go_at_call 84; refine (needs_any _ _).mono ?_; rintro e w' ⟨rfl, rfl⟩)
  rw [H.out]
  go_wp2
  go_loopg [] 4 (fun g wr => ∃ k, g + k = 4 ∧ k ≤ 3 ∧ (0 < k → letB x0 a len = true) ∧ (1 < k → letB x1 b len = true) ∧ (2 < k → letB x2 c len = true) ∧
    wr = ((w.alloc (Obj.cells #[Value.int IntKind.i64 op, Value.int IntKind.i64 a, Value.int IntKind.i64 b, Value.int IntKind.i64 c] 34)).alloc
          (Obj.cells #[Value.int IntKind.i64 a, Value.int IntKind.i64 b, Value.int IntKind.i64 c] 119)).iter ⟨#[x0, x1, x2]⟩ k)
  case atStart => exact ⟨0, rfl, by omega, by omega, by omega, by omega, rfl⟩
  case round =>
    obtain ⟨k, hg, hk, g0, g1, g2, rfl⟩ := hrel
    obtain rfl | rfl | rfl | rfl : k = 0 ∨ k = 1 ∨ k = 2 ∨ k = 3 := by omega
    all_goals go_wp2
    all_goals first
      | (go_ret; exact ⟨ret_bool (by grind [letB, regB]), ((Gr.refl _).alloc _).alloc _ |>.alloc _⟩)
      | (go_roundg (gk - 1)
         case measure => omega
         case rel => exact ⟨_, by omega, by omega, by grind [letB, regB], by grind [letB, regB], by grind [letB, regB], rfl⟩)

theorem Ins0_any (op a b c len : Int) (hs : needsS op = ⟨#[]⟩) (w : World) :
    Calls Try.prog 33 #[.agg #[.int .i64 op, .int .i64 a, .int .i64 b, .int .i64 c], .int .i64 len] w
    fun e w' => e = .returned (.bool false) ∧ Gr w w' := by
  have H := Lib.hid hs; clear hs
  have n0 : ∀ (o1 o2 : Obj) (ty : TypeId), (Instr.next (.pointer (some ⟨w.heap.size + 1 + 1, 0, none⟩)) true ty).run Try.prog (((w.alloc o1).alloc o2).iter ⟨#[]⟩ 0) =
      .ok (.tuple #[.bool false]) (((w.alloc o1).alloc o2).iter ⟨#[]⟩ 0) := by
    intro o1 o2 ty
    have := run_next_end (P := Try.prog) ((w.alloc o1).alloc o2) ⟨#[]⟩ 0 ty (by decide)
    simp only [World.size_alloc] at this
    exact this
  go_enter Try.func33, Try.ntmps33
  go_wp2_with (go_at_call 84; refine (needs_any _ _).mono ?_; rintro e w' ⟨rfl, rfl⟩)
  rw [H.out]
  go_wp2
  go_loopg [] 0 (fun g wr => wr = ((w.alloc (Obj.cells #[Value.int IntKind.i64 op, Value.int IntKind.i64 a, Value.int IntKind.i64 b, Value.int IntKind.i64 c] 34)).alloc
          (Obj.cells #[Value.int IntKind.i64 a, Value.int IntKind.i64 b, Value.int IntKind.i64 c] 119)).iter ⟨#[]⟩ 0)
  case atStart => rfl
  case round =>
    subst hrel
    go_wp2
    go_ret; exact ⟨rfl, ((Gr.refl _).alloc _).alloc _ |>.alloc _⟩

theorem Ins_any (op a b c len : Int) (w : World) :
    Calls Try.prog 33 #[.agg #[.int .i64 op, .int .i64 a, .int .i64 b, .int .i64 c], .int .i64 len] w
    fun e w' => e = .returned (.bool (insB op a b c len)) ∧ Gr w w' := by
  have key : ∀ (x0 x1 x2 : UInt8), x0.toNat < 128 → x1.toNat < 128 → x2.toNat < 128 → needsS op = ⟨#[x0, x1, x2]⟩ → (letB x0 a len && (letB x1 b len && letB x2 c len)) = insB op a b c len →
      Calls Try.prog 33 #[.agg #[.int .i64 op, .int .i64 a, .int .i64 b, .int .i64 c], .int .i64 len] w fun e w' => e = .returned (.bool (insB op a b c len)) ∧ Gr w w' := by
    intro x0 x1 x2 h0 h1 h2 hs hb
    rw [← hb]
    exact Ins3_any op a b c len x0 x1 x2 h0 h1 h2 hs w
  have l114 : ∀ n, letB 114 n len = regB n := fun n => rfl
  have l112 : ∀ n, letB 112 n len = (decide (0 ≤ n) && decide (n ≤ len)) := fun n => rfl
  have l45 : ∀ n, letB 45 n len = true := fun n => rfl
  by_cases h0 : op = 0
  · exact key 45 45 45 (by decide) (by decide) (by decide) (by simp [needsS, h0]) (by simp [insB, h0, l45])
  by_cases h1 : op = 1
  · exact key 114 45 45 (by decide) (by decide) (by decide) (by simp [needsS, h1]) (by simp [insB, h1, l45, l114])
  by_cases h2 : op = 2 ∨ op = 11 ∨ op = 13 ∨ op = 14
  · exact key 114 114 45 (by decide) (by decide) (by decide) (by simp only [needsS]; rw [if_neg h0, if_neg h1, if_pos h2]) (by simp only [insB, l45, l114]; rw [if_neg h0, if_neg h1, if_pos h2]; simp)
  by_cases h3 : op = 3 ∨ op = 4 ∨ op = 5 ∨ op = 6 ∨ op = 7 ∨ op = 8 ∨ op = 12
  · exact key 114 114 114 (by decide) (by decide) (by decide) (by simp only [needsS]; rw [if_neg h0, if_neg h1, if_neg h2, if_pos h3]) (by simp only [insB, l114]; rw [if_neg h0, if_neg h1, if_neg h2, if_pos h3])
  by_cases h4 : op = 9
  · exact key 112 45 45 (by decide) (by decide) (by decide) (by simp [needsS, h4]) (by simp [insB, h4, l45, l112])
  by_cases h5 : op = 10
  · exact key 114 112 45 (by decide) (by decide) (by decide) (by simp [needsS, h5]) (by simp [insB, h5, l45, l112, l114])
  have hi : insB op a b c len = false := by simp only [insB]; rw [if_neg h0, if_neg h1, if_neg h2, if_neg h3, if_neg h4, if_neg h5]
  rw [hi]
  exact Ins0_any op a b c len (by simp only [needsS]; rw [if_neg h0, if_neg h1, if_neg h2, if_neg h3, if_neg h4, if_neg h5]) w
end Go.Proofs.Ytkoopobfelcgpaa
end -- A3

section -- A4
/- layer 5: programs -/
namespace Go.Proofs.Ytkoopobfelcgpaa
open Go.RowKit

/-- An instruction. -/
structure PIns where
  op : Int
  a : Int
  b : Int
  c : Int
deriving DecidableEq

def PIns.ok (x : PIns) (len : Nat) : Bool := insB x.op x.a x.b x.c len
def PIns.val (x : PIns) : Value := .agg #[.int .i64 x.op, .int .i64 x.a, .int .i64 x.b, .int .i64 x.c]

def InsAt (w : World) (b o : Nat) (x : PIns) : Prop :=
  w.cell? ⟨b, o, none⟩ = some (.int .i64 x.op) ∧ w.cell? ⟨b, o + 1, none⟩ = some (.int .i64 x.a) ∧ w.cell? ⟨b, o + 2, none⟩ = some (.int .i64 x.b) ∧ w.cell? ⟨b, o + 3, none⟩ = some (.int .i64 x.c)
theorem InsAt.gr : Stays InsAt := fun _ _ _ _ _ g h => ⟨g.cell h.1, g.cell h.2.1, g.cell h.2.2.1, g.cell h.2.2.2⟩

def progB (l : List PIns) : Bool := l.all (fun x => x.ok l.length) && (decide (1 ≤ l.length) && decide (l.length ≤ 48))

theorem all_take_succ {α : Type} (p : α → Bool) (l : List α) (k : Nat) (x : α) (h : l[k]? = some x) (h1 : (l.take k).all p = true) (h2 : p x = true) : (l.take (k + 1)).all p = true := by
  rw [List.take_add_one, h]; simp [List.all_append, h1, h2]
theorem all_false {α : Type} (p : α → Bool) (l : List α) (k : Nat) (x : α) (h : l[k]? = some x) (h2 : p x = false) : l.all p = false := by
  rw [List.all_eq_false]; exact ⟨x, List.mem_of_getElem? h, by simp [h2]⟩
theorem all_whole {α : Type} (p : α → Bool) (l : List α) (k : Nat) (hk : l.length ≤ k) (h1 : (l.take k).all p = true) : l.all p = true := by
  rwa [List.take_of_length_le hk] at h1

set_option maxHeartbeats 1000000 in
theorem Rprogram_any (l : List PIns) (v : Value) (w : World) (h : Sl 4 InsAt w v l) :
    Calls Try.prog 83 #[v] w fun e w' => e = .returned (.bool (progB l)) ∧ Gr w w' := by
  obtain ⟨a, cap, rfl, hlc, hcm, hnil, hel⟩ := h
  unfold maxLen at hcm
  have HEL := Lib.hid hel; clear hel hnil
  go_enter Try.func83, Try.ntmps83
  go_wp2
  go_loopg [3] l.length (fun g i wr => ∃ k : Nat, g + k = l.length ∧ i = .int .i64 k ∧ (l.take k).all (fun x => x.ok l.length) = true ∧ Gr w wr)
  case atStart => exact ⟨0, by omega, rfl, by simp, Gr.refl _⟩
  case round =>
    obtain ⟨k, hk, rfl, hall, hg⟩ := hrel
    have HA := Lib.hid hall; clear hall
    by_cases hlt : k < l.length
    · obtain ⟨b, o, rfl, hR⟩ := HEL.out k l[k] (by simp [hlt])
      have hR' := InsAt.gr _ _ _ _ _ hg hR
      obtain ⟨c0, c1, c2, c3⟩ := hR'
      clear hR
      go_wp2_with (go_at_call 34; refine (RIns_any _ _ _ _ _ _).mono ?_; rintro e w' ⟨rfl, hg'⟩)
      · have hb : insB l[k].op l[k].a l[k].b l[k].c l.length = false := by grind
        go_ret
        exact ⟨ret_bool (by rw [progB, all_false _ l k l[k] (by simp [hlt]) hb, Bool.false_and]), hg.trans hg'⟩
      · have hb : insB l[k].op l[k].a l[k].b l[k].c l.length = true := by grind
        go_roundg (gk - 1)
        case measure => omega
        case rel => exact ⟨k + 1, by omega, by go_num, all_take_succ _ l k l[k] (by simp [hlt]) HA.out hb, hg.trans hg'⟩
    · have hw := all_whole _ l k (by omega) HA.out
      have HW := Lib.hid hw; clear hw
      go_wp2
      all_goals (go_ret; exact ⟨ret_bool (by rw [progB, HW.out]; grind), hg⟩)

/-- The closure 'right' of model.program. -/
theorem right_any (x : PIns) (l : List PIns) (B : Nat) (a : Option Addr) (cap : Nat) (w : World) (h : w.cell? ⟨B, 0, none⟩ = some (.slice a l.length cap)) :
    Calls Try.prog 151 #[.agg #[.int .i64 x.op, .int .i64 x.a, .int .i64 x.b, .int .i64 x.c], .pointer (some ⟨B, 0, none⟩)] w fun e w' => e = .returned (.bool (x.ok l.length)) ∧ Gr w w' := by
  have hB := lt_of_cell h
  go_enter Try.func151, Try.ntmps151
  go_wp2_with (go_at_call 33; refine (Ins_any _ _ _ _ _ _).mono ?_; rintro e w' ⟨rfl, hg'⟩)
  go_ret
  exact ⟨rfl, ((Gr.refl _).alloc _).trans hg'⟩

set_option maxHeartbeats 1000000 in
theorem program_any (l : List PIns) (v : Value) (w : World) (h : Sl 4 InsAt w v l) :
    Calls Try.prog 81 #[v] w fun e w' => e = .returned (.bool (progB l)) ∧ Gr w w' := by
  obtain ⟨a, cap, rfl, hlc, hcm, hnil, hel⟩ := h
  unfold maxLen at hcm
  have HEL := Lib.hid hel; clear hel hnil
  go_enter Try.func81, Try.ntmps81
  go_wp2
  go_loopg [9] l.length (fun g i wr => ∃ k : Nat, g + k = l.length ∧ i = .int .i64 k ∧ (l.take k).all (fun x => x.ok l.length) = true ∧ Gr (w.alloc (Obj.cells #[Value.slice a l.length cap] 38)) wr)
  case atStart => exact ⟨0, by omega, rfl, by simp, Gr.refl _⟩
  case round =>
    obtain ⟨k, hk, rfl, hall, hg⟩ := hrel
    have HA := Lib.hid hall; clear hall
    have hg0 : Gr w wr := Gr.trans ((Gr.refl w).alloc _) hg
    have hcell : wr.cell? ⟨w.heap.size, 0, none⟩ = some (.slice a l.length cap) := hg.cell (by simp)
    by_cases hlt : k < l.length
    · obtain ⟨b, o, rfl, hR⟩ := HEL.out k l[k] (by simp [hlt])
      have hR' := InsAt.gr _ _ _ _ _ hg0 hR
      obtain ⟨c0, c1, c2, c3⟩ := hR'
      clear hR
      go_wp2_with (go_at_call 151; refine (right_any l[k] l _ _ _ _ (by exact ((Gr.refl _).alloc _).cell hcell)).mono ?_; rintro e w' ⟨rfl, hg'⟩)
      · have hb : insB l[k].op l[k].a l[k].b l[k].c l.length = false := by grind [PIns.ok]
        go_ret
        exact ⟨ret_bool (by rw [progB, all_false _ l k l[k] (by simp [hlt]) hb, Bool.false_and]), (hg0.alloc _).trans hg'⟩
      · have hb : insB l[k].op l[k].a l[k].b l[k].c l.length = true := by grind [PIns.ok]
        go_roundg (gk - 1)
        case measure => omega
        case rel => exact ⟨k + 1, by omega, by go_num, all_take_succ _ l k l[k] (by simp [hlt]) HA.out hb, (hg.alloc _).trans hg'⟩
    · have hw := all_whole _ l k (by omega) HA.out
      have HW := Lib.hid hw; clear hw
      go_wp2_with (go_at_call 82; refine (within_any _ _ _ _).mono ?_; rintro e w' ⟨rfl, rfl⟩)
      go_ret
      exact ⟨ret_bool (by rw [progB, HW.out]; simp [withinB]; grind), hg0⟩
end Go.Proofs.Ytkoopobfelcgpaa
end -- A4

section -- A5
/- layer 5: models as they lie in memory; counts -/
namespace Go.Proofs.Ytkoopobfelcgpaa
open Go.RowKit

structure PLP where
  prog : Int
  words : List Int
deriving DecidableEq
structure PInit where
  t : Nat
  dst : Int
  pay : Int
deriving DecidableEq
structure PModel where
  seed : Int
  fin : Nat
  delays : List Nat
  programs : List (List PIns)
  lps : List PLP
  init : List PInit

def SlAt {α : Type} (sz : Nat) (R : World → Nat → Nat → α → Prop) (w : World) (b o : Nat) (l : List α) : Prop := ∃ v, w.cell? ⟨b, o, none⟩ = some v ∧ Sl sz R w v l
theorem SlAt.gr {α : Type} {sz : Nat} {R : World → Nat → Nat → α → Prop} (hs : Stays R) : Stays (SlAt sz R) := fun _ _ _ _ _ g ⟨v, h1, h2⟩ => ⟨v, g.cell h1, h2.gr hs g⟩
def LPAt (w : World) (b o : Nat) (x : PLP) : Prop := w.cell? ⟨b, o, none⟩ = some (.int .i64 x.prog) ∧ SlAt 1 IntAt w b (o + 1) x.words
theorem LPAt.gr : Stays LPAt := fun _ _ _ _ _ g h => ⟨g.cell h.1, SlAt.gr IntAt.gr _ _ _ _ _ g h.2⟩
def InitAt (w : World) (b o : Nat) (x : PInit) : Prop := w.cell? ⟨b, o, none⟩ = some (.float .f64 x.t) ∧ w.cell? ⟨b, o + 1, none⟩ = some (.int .i64 x.dst) ∧ w.cell? ⟨b, o + 2, none⟩ = some (.int .i64 x.pay)
theorem InitAt.gr : Stays InitAt := fun _ _ _ _ _ g h => ⟨g.cell h.1, g.cell h.2.1, g.cell h.2.2⟩

/-- The four lists of a model. -/
structure ModelAt (w : World) (vd vp vl vi : Value) (m : PModel) : Prop where
  delays : Sl 1 FloatAt w vd m.delays
  programs : Sl 1 (SlAt 4 InsAt) w vp m.programs
  lps : Sl 2 LPAt w vl m.lps
  init : Sl 3 InitAt w vi m.init
theorem ModelAt.gr {w w' : World} {vd vp vl vi : Value} {m : PModel} (g : Gr w w') (h : ModelAt w vd vp vl vi m) : ModelAt w' vd vp vl vi m :=
  ⟨h.delays.gr FloatAt.gr g, h.programs.gr (SlAt.gr InsAt.gr) g, h.lps.gr LPAt.gr g, h.init.gr InitAt.gr g⟩

def countsB (m : PModel) : Bool := (decide (1 ≤ m.lps.length) && decide (m.lps.length ≤ 6)) && ((decide (1 ≤ m.programs.length) && decide (m.programs.length ≤ 4)) && ((decide (1 ≤ m.delays.length) && decide (m.delays.length ≤ 8)) && decide (m.init.length ≤ 16)))

theorem withinB_nat (n a b : Nat) : withinB (n : Int) (a : Int) (b : Int) = (decide (a ≤ n) && decide (n ≤ b)) := by simp [withinB]

theorem counts_any (m : PModel) (vd vp vl vi : Value) (w : World) (h : ModelAt w vd vp vl vi m) :
    Calls Try.prog 79 #[.agg #[.int .i64 m.seed, .float .f64 m.fin, vd, vp, vl, vi]] w fun e w' => e = .returned (.bool (countsB m)) ∧ Gr w w' := by
  obtain ⟨ad, cd, rfl, -⟩ := h.delays
  obtain ⟨ap, cp, rfl, -⟩ := h.programs
  obtain ⟨al, cl, rfl, -⟩ := h.lps
  obtain ⟨ai, ci, rfl, -⟩ := h.init
  clear h
  go_enter Try.func79, Try.ntmps79
  go_wp2_with (go_at_call 82; refine (within_any _ _ _ _).mono ?_; rintro e w' ⟨rfl, rfl⟩)
  all_goals (go_ret; exact ⟨ret_bool (by grind [withinB, countsB]), (Gr.refl _).alloc _⟩)

def lightB (a b c d e f : Nat) (m : PModel) : Bool := decide (m.programs.length ≤ a) && decide (m.lps.length ≤ b) && decide (m.delays.length ≤ c) && decide (m.init.length ≤ d) &&
  m.programs.all (fun p => decide (p.length ≤ e)) && m.lps.all (fun x => decide (x.words.length ≤ f))

set_option maxHeartbeats 1000000 in
theorem light5_any (m : PModel) (vd vp vl vi : Value) (w : World) (h : ModelAt w vd vp vl vi m) :
    Calls Try.prog 30 #[.agg #[.int .i64 m.seed, .float .f64 m.fin, vd, vp, vl, vi]] w fun e w' => e = .returned (.bool (lightB 20 40 60 60 200 100 m)) ∧ Gr w w' := by
  obtain ⟨ad, cd, rfl, -⟩ := h.delays
  obtain ⟨ap, cp, rfl, hpc, hpm, -, hp⟩ := h.programs
  obtain ⟨al, cl, rfl, hlc, hlm, -, hl⟩ := h.lps
  obtain ⟨ai, ci, rfl, -⟩ := h.init
  clear h
  unfold maxLen at hpm hlm
  have HP := Lib.hid hp; clear hp
  have HL := Lib.hid hl; clear hl
  go_enter Try.func30, Try.ntmps30
  go_wp2
  all_goals (try (go_ret; exact ⟨ret_bool (by grind [lightB]), (Gr.refl _).alloc _⟩))
  have C0 := Lib.hid (show (m.programs.length ≤ 20 ∧ m.lps.length ≤ 40) ∧ m.delays.length ≤ 60 ∧ m.init.length ≤ 60 by omega)
  go_loopg [3] m.programs.length (fun g i wr => ∃ k : Nat, g + k = m.programs.length ∧ i = .int .i64 k ∧ (m.programs.take k).all (fun p => decide (p.length ≤ 200)) = true ∧
    Gr (w.alloc (.cells #[.int .i64 m.seed, .float .f64 m.fin, .slice ad m.delays.length cd, .slice ap m.programs.length cp, .slice al m.lps.length cl, .slice ai m.init.length ci] 28)) wr)
  case atStart => exact ⟨0, by omega, rfl, by simp, Gr.refl _⟩
  case round =>
    obtain ⟨k, hk, rfl, hall, hg⟩ := hrel
    have HA := Lib.hid hall; clear hall
    have hcp : wr.cell? ⟨w.heap.size, 3, none⟩ = some (.slice ap m.programs.length cp) := hg.cell (by simp)
    have hcl : wr.cell? ⟨w.heap.size, 4, none⟩ = some (.slice al m.lps.length cl) := hg.cell (by simp)
    have hg0 : Gr w wr := Gr.trans ((Gr.refl w).alloc _) hg
    by_cases hlt : k < m.programs.length
    · obtain ⟨b, o, rfl, v, hv, a', c', rfl, -⟩ := HP.out k m.programs[k] (by simp [hlt])
      rw [Nat.mul_one] at hv
      have hv' := hg0.cell hv
      clear hv
      go_wp2
      · have hb : decide (m.programs[k].length ≤ 200) = false := by grind
        go_ret
        exact ⟨ret_bool (by have := all_false (fun p : List PIns => decide (p.length ≤ 200)) m.programs k m.programs[k] (by simp [hlt]) hb; simp [lightB, this]), hg0⟩
      · have hb : decide (m.programs[k].length ≤ 200) = true := by grind
        go_roundg (gk - 1)
        case measure => omega
        case rel => exact ⟨k + 1, by omega, by go_num, all_take_succ _ m.programs k m.programs[k] (by simp [hlt]) HA.out hb, hg⟩
    · have hw := all_whole _ m.programs k (by omega) HA.out
      have HW := Lib.hid hw; clear hw
      go_wp2
      go_loopg [4] m.lps.length (fun g i wr => ∃ k : Nat, g + k = m.lps.length ∧ i = .int .i64 k ∧ (m.lps.take k).all (fun x => decide (x.words.length ≤ 100)) = true ∧
        Gr (w.alloc (.cells #[.int .i64 m.seed, .float .f64 m.fin, .slice ad m.delays.length cd, .slice ap m.programs.length cp, .slice al m.lps.length cl, .slice ai m.init.length ci] 28)) wr)
      case atStart => exact ⟨0, by omega, rfl, by simp, hg⟩
      case round =>
        clear hg hg0 hcp hcl
        obtain ⟨j, hj, rfl, hall, hg⟩ := hrel
        have HB := Lib.hid hall; clear hall
        have hcl : wr.cell? ⟨w.heap.size, 4, none⟩ = some (.slice al m.lps.length cl) := hg.cell (by simp)
        have hg0 : Gr w wr := Gr.trans ((Gr.refl w).alloc _) hg
        by_cases hlt : j < m.lps.length
        · obtain ⟨b, o, rfl, hpr, v, hv, a', c', rfl, -⟩ := HL.out j m.lps[j] (by simp [hlt])
          have hv' := hg0.cell hv
          clear hv hpr
          go_wp2
          · have hb : decide (m.lps[j].words.length ≤ 100) = false := by grind
            go_ret
            exact ⟨ret_bool (by have := all_false (fun x : PLP => decide (x.words.length ≤ 100)) m.lps j m.lps[j] (by simp [hlt]) hb; simp [lightB, this]), hg0⟩
          · have hb : decide (m.lps[j].words.length ≤ 100) = true := by grind
            go_roundg (gk - 1)
            case measure => omega
            case rel => exact ⟨j + 1, by omega, by go_num, all_take_succ _ m.lps j m.lps[j] (by simp [hlt]) HB.out hb, hg⟩
        · have hw := all_whole _ m.lps j (by omega) HB.out
          have HW2 := Lib.hid hw; clear hw
          go_wp2
          go_ret
          exact ⟨ret_bool (by rw [lightB, HW.out, HW2.out]; have := C0.out; simp; omega), hg0⟩
end Go.Proofs.Ytkoopobfelcgpaa
end -- A5

section -- Open
/- Arguments read as data, opened: whole numbers, floats, slices of whatever can be opened, models. -/
namespace Go.Proofs.Ytkoopobfelcgpaa
open Go.ChangeShapes Go.WideShapes Go.ChangeAt Go.RowKit Go.Deep
set_option maxRecDepth 100000

def i64 (n : Int) : Prop := -9223372036854775808 ≤ n ∧ n ≤ 9223372036854775807
def u64n (n : Nat) : Prop := n < 18446744073709551616

theorem build_list {α : Type} {P : Nat → α → Prop} : ∀ (n : Nat), (∀ i, i < n → ∃ y, P i y) → ∃ l : List α, l.length = n ∧ ∀ i y, l[i]? = some y → P i y
  | 0, _ => ⟨[], rfl, fun i y h => by simp at h⟩
  | n + 1, h => by
    obtain ⟨l, hl, hP⟩ := build_list n (fun i hi => h i (by omega))
    obtain ⟨y, hy⟩ := h n (by omega)
    refine ⟨l ++ [y], by simp [hl], fun i z hz => ?_⟩
    rcases Nat.lt_or_ge i l.length with g | g
    · rw [List.getElem?_append_left g] at hz; exact hP i z hz
    · rw [List.getElem?_append_right g] at hz
      have : i - l.length = 0 := by
        rcases Nat.eq_zero_or_pos (i - l.length) with e | e
        · exact e
        · rw [List.getElem?_eq_none (by simp; omega)] at hz; cases hz
      rw [this] at hz
      simp at hz
      subst hz
      have e : i = n := by omega
      rw [e]; exact hy

section
variable {H : Type} {enc : TypeId × Value → H} {P : Program} {w : World} {base : Nat} {spare : Nat → Bool} {held : Bool}

theorem open_Sl {α : Type} {t e c fuel : Nat} {cs : List Value} {x : DataW H × List MemPlace} (ht : P.underlying t = some (.slice e)) (hc : P.cellsOf e = c) (hc1 : 1 ≤ c)
    (R : World → Nat → Nat → α → Prop) (G : α → Prop)
    (hE : ∀ (b o n : Nat) (cs' : List Value) (x' : DataW H × List MemPlace), (∀ i, i < c → w.cell? ⟨b, o + i, none⟩ = cs'[i]?) → cs'.length = c → DataW.trod enc P w base spare held n e cs' = some x' → ∃ y, R w b o y ∧ G y)
    (h : DataW.trod enc P w base spare held fuel t cs = some x) : ∃ v l, cs = [v] ∧ Sl c R w v l ∧ ∀ y ∈ l, G y := by
  rcases open_slice ht h with ⟨rfl, -⟩ | ⟨a, len, cap, m, n, D, Pl, rfl, -, hl, hm, hmm, -, hi⟩
  · exact ⟨_, [], rfl, ⟨none, 0, rfl, Nat.le_refl _, Nat.zero_le _, fun _ => rfl, fun i x h => by simp at h⟩, fun y hy => by simp at hy⟩
  have hlm : len ≤ m := by rw [hmm]; split <;> omega
  rcases Nat.eq_zero_or_pos len with e0 | e0
  · subst e0
    exact ⟨_, [], rfl, ⟨some a, cap, rfl, Nat.zero_le _, hm, (fun h => by cases h), fun i x h => by simp at h⟩, fun y hy => by simp at hy⟩
  have hcell : ∀ i, i < len → ∃ cs', (∀ j, j < c → w.cell? ((a.add (i * c)).add j) = cs'[j]?) ∧ cs'.length = c ∧ DataW.trod enc P w base spare held n e cs' = some (D i, Pl i) := by
    intro i hil
    obtain ⟨cs', h1, h2⟩ := hi i (by omega)
    obtain ⟨_, h3, h4⟩ := World.cells?_some h1
    rw [hc] at h3 h4
    exact ⟨cs', h4, h3, h2⟩
  have hspot : a.spot = none := by
    obtain ⟨cs', h1, h2, _⟩ := hcell 0 e0
    have h3 := h1 0 (by omega)
    rw [Nat.zero_mul] at h3
    have h4 : cs'[0]? = some (cs'[0]'(by omega)) := List.getElem?_eq_getElem (by omega)
    rw [h4] at h3
    cases hsp : a.spot with
    | none => rfl
    | some q =>
      exfalso
      have e1 : (a.add 0).add 0 = a := by simp [Addr.add]
      rw [e1] at h3
      unfold World.cell? at h3
      rw [hsp] at h3
      simp at h3
      split at h3 <;> cases h3
  obtain ⟨b, o, sp⟩ := a
  simp only at hspot
  subst hspot
  have hadd : ∀ x y : Nat, (Addr.add ⟨b, o, none⟩ x).add y = ⟨b, o + x + y, none⟩ := by
    intro x y
    simp only [Addr.add]
    split <;> split <;> simp_all
  obtain ⟨l, hll, hP⟩ := build_list (P := fun i y => R w b (o + i * c) y ∧ G y) len (fun i hil => by
    obtain ⟨cs', h1, h2, h3⟩ := hcell i hil
    refine hE b (o + i * c) n cs' _ (fun j hj => ?_) h2 h3
    rw [← h1 j hj, hadd])
  refine ⟨_, l, rfl, ⟨some ⟨b, o, none⟩, cap, by rw [hll], by omega, hm, (fun h => by cases h), fun i x hx => ⟨b, o, rfl, (hP i x hx).1⟩⟩, fun y hy => ?_⟩
  obtain ⟨i, hi'⟩ := List.getElem?_of_mem hy
  exact (hP i y hi').2

theorem trod_int_cell {t : Nat} (ht : P.underlying t = some (.int .i64)) (b o n : Nat) (cs' : List Value) (x' : DataW H × List MemPlace) (h1 : ∀ i, i < 1 → w.cell? ⟨b, o + i, none⟩ = cs'[i]?) (h2 : cs'.length = 1)
    (h : DataW.trod enc P w base spare held n t cs' = some x') : ∃ y, IntAt w b o y ∧ i64 y := by
  obtain ⟨k, rfl, -, hw⟩ := DataW.trod_int ht h
  exact ⟨k, by simpa [IntAt] using h1 0 (by omega), bounds_i64 hw⟩

theorem trod_float {fuel t : Nat} {cs : List Value} {x : DataW H × List MemPlace} (ht : P.underlying t = some (.float .f64)) (h : DataW.trod enc P w base spare held fuel t cs = some x) : ∃ n, cs = [.float .f64 n] ∧ u64n n := by
  cases fuel with
  | zero => simp [DataW.trod] at h
  | succ m =>
    unfold DataW.trod at h
    rw [ht] at h
    match cs, h with
    | [.float k b], h =>
      simp only at h
      split at h
      · rename_i hc
        obtain ⟨rfl, hw⟩ := hc
        exact ⟨b, rfl, by simpa [Lit.wf, u64n] using hw⟩
      · cases h
theorem field_of {fuel t : Nat} {fs : Array Field} {cs : List Value} {x : DataW H × List MemPlace} (ht : P.underlying t = some (.struct fs)) (h : DataW.trod enc P w base spare held fuel t cs = some x) (i T off : Nat) (hf : (fs[i]?).map (fun f => (f.type, f.offset)) = some (T, off)) :
    ∃ n y, DataW.trod enc P w base spare held n T ((cs.drop off).take (P.cellsOf T)) = some y := by
  cases hfi : fs[i]? with
  | none => rw [hfi] at hf; cases hf
  | some f =>
    rw [hfi] at hf
    simp only [Option.map_some, Option.some.injEq, Prod.mk.injEq] at hf
    obtain ⟨rfl, rfl⟩ := hf
    obtain ⟨xs, n, -, -, -, hl, hi⟩ := DataW.trod_struct ht h
    have hi' := hi i f hfi
    have hlt : i < xs.length := by rw [hl]; exact (Array.getElem?_eq_some_iff.1 hfi).1
    rw [List.getElem?_eq_getElem hlt] at hi'
    exact ⟨n, _, hi'⟩
theorem cells_of {fuel t : Nat} {fs : Array Field} {cs : List Value} {x : DataW H × List MemPlace} (ht : P.underlying t = some (.struct fs)) (h : DataW.trod enc P w base spare held fuel t cs = some x) : cs.length = P.cellsOf t := by
  obtain ⟨xs, n, -, -, hc, -⟩ := DataW.trod_struct ht h
  exact hc
end

section
variable {H : Type} {enc : TypeId × Value → H} {w : World} {base : Nat} {spare : Nat → Bool} {held : Bool}

theorem c3 : Try.prog.cellsOf 3 = 1 := by kernel_rfl
theorem c5 : Try.prog.cellsOf 5 = 1 := by kernel_rfl
theorem c22 : Try.prog.cellsOf 22 = 1 := by kernel_rfl
theorem c23 : Try.prog.cellsOf 23 = 1 := by kernel_rfl
theorem c24 : Try.prog.cellsOf 24 = 1 := by kernel_rfl
theorem c25 : Try.prog.cellsOf 25 = 1 := by kernel_rfl
theorem c26 : Try.prog.cellsOf 26 = 1 := by kernel_rfl
theorem c38 : Try.prog.cellsOf 38 = 1 := by kernel_rfl
theorem c39 : Try.prog.cellsOf 39 = 1 := by kernel_rfl
theorem c34 : Try.prog.cellsOf 34 = 4 := by kernel_rfl
theorem c41 : Try.prog.cellsOf 41 = 2 := by kernel_rfl
theorem c43 : Try.prog.cellsOf 43 = 3 := by kernel_rfl
theorem c28 : Try.prog.cellsOf 28 = 6 := by kernel_rfl

def PIns.wf (x : PIns) : Prop := i64 x.op ∧ i64 x.a ∧ i64 x.b ∧ i64 x.c
def PLP.wf (x : PLP) : Prop := i64 x.prog ∧ ∀ n ∈ x.words, i64 n
def PInit.wf (x : PInit) : Prop := u64n x.t ∧ i64 x.dst ∧ i64 x.pay
structure PModel.wf (m : PModel) : Prop where
  seed : i64 m.seed
  fin : u64n m.fin
  delays : ∀ d ∈ m.delays, u64n d
  programs : ∀ p ∈ m.programs, ∀ x ∈ p, x.wf
  lps : ∀ x ∈ m.lps, x.wf
  init : ∀ x ∈ m.init, x.wf

theorem open_ins {fuel : Nat} {cs : List Value} {x : DataW H × List MemPlace} (h : DataW.trod enc Try.prog w base spare held fuel 34 cs = some x) :
    ∃ y : PIns, cs = [.int .i64 y.op, .int .i64 y.a, .int .i64 y.b, .int .i64 y.c] ∧ y.wf := by
  have hl := cells_of Try.underlying34 h
  rw [c34] at hl
  obtain ⟨n0, y0, h0⟩ := field_of Try.underlying34 h 0 3 0 rfl
  obtain ⟨n1, y1, h1⟩ := field_of Try.underlying34 h 1 3 1 rfl
  obtain ⟨n2, y2, h2⟩ := field_of Try.underlying34 h 2 3 2 rfl
  obtain ⟨n3, y3, h3⟩ := field_of Try.underlying34 h 3 3 3 rfl
  match cs, hl with
  | [v0, v1, v2, v3], _ =>
    simp only [c3] at h0 h1 h2 h3
    obtain ⟨k0, e0, -, g0⟩ := DataW.trod_int Try.underlying3 h0
    obtain ⟨k1, e1, -, g1⟩ := DataW.trod_int Try.underlying3 h1
    obtain ⟨k2, e2, -, g2⟩ := DataW.trod_int Try.underlying3 h2
    obtain ⟨k3, e3, -, g3⟩ := DataW.trod_int Try.underlying3 h3
    simp at e0 e1 e2 e3
    subst e0 e1 e2 e3
    exact ⟨⟨k0, k1, k2, k3⟩, rfl, bounds_i64 g0, bounds_i64 g1, bounds_i64 g2, bounds_i64 g3⟩

theorem open_ints1 {fuel : Nat} {cs : List Value} {x : DataW H × List MemPlace} (h : DataW.trod enc Try.prog w base spare held fuel 39 cs = some x) : ∃ v l, cs = [v] ∧ Sl 1 IntAt w v l ∧ ∀ y ∈ l, i64 y :=
  open_Sl Try.underlying39 c3 (Nat.le_refl _) IntAt i64 (fun b o n cs' x' h1 h2 h3 => trod_int_cell Try.underlying3 b o n cs' x' h1 h2 h3) h
theorem open_code {fuel : Nat} {cs : List Value} {x : DataW H × List MemPlace} (h : DataW.trod enc Try.prog w base spare held fuel 38 cs = some x) : ∃ v l, cs = [v] ∧ Sl 4 InsAt w v l ∧ ∀ y ∈ l, y.wf :=
  open_Sl Try.underlying38 c34 (by omega) InsAt PIns.wf (fun b o n cs' x' h1 h2 h3 => by
    obtain ⟨y, rfl, hy⟩ := open_ins h3
    exact ⟨y, ⟨by simpa using h1 0 (by omega), by simpa using h1 1 (by omega), by simpa using h1 2 (by omega), by simpa using h1 3 (by omega)⟩, hy⟩) h
theorem open_lp {fuel : Nat} {cs : List Value} {x : DataW H × List MemPlace} (h : DataW.trod enc Try.prog w base spare held fuel 41 cs = some x) :
    ∃ (y : PLP) (v : Value), cs = [.int .i64 y.prog, v] ∧ Sl 1 IntAt w v y.words ∧ y.wf := by
  have hl := cells_of Try.underlying41 h
  rw [c41] at hl
  obtain ⟨n0, y0, h0⟩ := field_of Try.underlying41 h 0 3 0 rfl
  obtain ⟨n1, y1, h1⟩ := field_of Try.underlying41 h 1 39 1 rfl
  match cs, hl with
  | [v0, v1], _ =>
    simp only [c3, c39] at h0 h1
    obtain ⟨k0, e0, -, g0⟩ := DataW.trod_int Try.underlying3 h0
    obtain ⟨v, l, e1, hs, g1⟩ := open_ints1 h1
    simp at e0 e1
    subst e0 e1
    exact ⟨⟨k0, l⟩, _, rfl, hs, bounds_i64 g0, g1⟩
theorem open_init {fuel : Nat} {cs : List Value} {x : DataW H × List MemPlace} (h : DataW.trod enc Try.prog w base spare held fuel 43 cs = some x) :
    ∃ y : PInit, cs = [.float .f64 y.t, .int .i64 y.dst, .int .i64 y.pay] ∧ y.wf := by
  have hl := cells_of Try.underlying43 h
  rw [c43] at hl
  obtain ⟨n0, y0, h0⟩ := field_of Try.underlying43 h 0 22 0 rfl
  obtain ⟨n1, y1, h1⟩ := field_of Try.underlying43 h 1 3 1 rfl
  obtain ⟨n2, y2, h2⟩ := field_of Try.underlying43 h 2 3 2 rfl
  match cs, hl with
  | [v0, v1, v2], _ =>
    simp only [c3, c22] at h0 h1 h2
    obtain ⟨k0, e0, g0⟩ := trod_float Try.underlying22 h0
    obtain ⟨k1, e1, -, g1⟩ := DataW.trod_int Try.underlying3 h1
    obtain ⟨k2, e2, -, g2⟩ := DataW.trod_int Try.underlying3 h2
    simp at e0 e1 e2
    subst e0 e1 e2
    exact ⟨⟨k0, k1, k2⟩, rfl, g0, bounds_i64 g1, bounds_i64 g2⟩
theorem open_model {fuel : Nat} {cs : List Value} {x : DataW H × List MemPlace} (h : DataW.trod enc Try.prog w base spare held fuel 28 cs = some x) :
    ∃ (m : PModel) (vd vp vl vi : Value), cs = [.int .i64 m.seed, .float .f64 m.fin, vd, vp, vl, vi] ∧ ModelAt w vd vp vl vi m ∧ m.wf := by
  have hl := cells_of Try.underlying28 h
  rw [c28] at hl
  obtain ⟨n0, y0, h0⟩ := field_of Try.underlying28 h 0 3 0 rfl
  obtain ⟨n1, y1, h1⟩ := field_of Try.underlying28 h 1 22 1 rfl
  obtain ⟨n2, y2, h2⟩ := field_of Try.underlying28 h 2 23 2 rfl
  obtain ⟨n3, y3, h3⟩ := field_of Try.underlying28 h 3 24 3 rfl
  obtain ⟨n4, y4, h4⟩ := field_of Try.underlying28 h 4 25 4 rfl
  obtain ⟨n5, y5, h5⟩ := field_of Try.underlying28 h 5 26 5 rfl
  match cs, hl with
  | [v0, v1, v2, v3, v4, v5], _ =>
    simp only [c3, c22, c23, c24, c25, c26] at h0 h1 h2 h3 h4 h5
    obtain ⟨k0, e0, -, g0⟩ := DataW.trod_int Try.underlying3 h0
    obtain ⟨k1, e1, g1⟩ := trod_float Try.underlying22 h1
    obtain ⟨vd, ld, e2, hd, g2⟩ := open_Sl Try.underlying23 c22 (Nat.le_refl _) FloatAt u64n (fun b o n cs' x' q1 q2 q3 => by
      obtain ⟨k, rfl, hk⟩ := trod_float Try.underlying22 q3
      exact ⟨k, by simpa [FloatAt] using q1 0 (by omega), hk⟩) h2
    obtain ⟨vp, lp, e3, hp, g3⟩ := open_Sl Try.underlying24 c38 (Nat.le_refl _) (SlAt 4 InsAt) (fun p => ∀ x ∈ p, x.wf) (fun b o n cs' x' q1 q2 q3 => by
      obtain ⟨v, l, rfl, hs, hk⟩ := open_code q3
      exact ⟨l, ⟨v, by simpa using q1 0 (by omega), hs⟩, hk⟩) h3
    obtain ⟨vl, ll, e4, hll, g4⟩ := open_Sl Try.underlying25 c41 (by omega) LPAt PLP.wf (fun b o n cs' x' q1 q2 q3 => by
      obtain ⟨y, v, rfl, hs, hk⟩ := open_lp q3
      exact ⟨y, ⟨by simpa using q1 0 (by omega), v, by simpa using q1 1 (by omega), hs⟩, hk⟩) h4
    obtain ⟨vi, li, e5, hi, g5⟩ := open_Sl Try.underlying26 c43 (by omega) InitAt PInit.wf (fun b o n cs' x' q1 q2 q3 => by
      obtain ⟨y, rfl, hk⟩ := open_init q3
      exact ⟨y, ⟨by simpa using q1 0 (by omega), by simpa using q1 1 (by omega), by simpa using q1 2 (by omega)⟩, hk⟩) h5
    simp at e0 e1 e2 e3 e4 e5
    subst e0 e1 e2 e3 e4 e5
    exact ⟨⟨k0, k1, ld, lp, ll, li⟩, _, _, _, _, rfl, ⟨hd, hp, hll, hi⟩, bounds_i64 g0, g1, g2, g3, g4, g5⟩

/-- Arguments by value: structs as they stand in a frame. -/
theorem arg_model {r : Reach} {b0 : Nat} {v : Value} {d : DataW H} {p : List MemPlace} (hv : Value.okWide Try.prog w r b0 28 v) (h : DataW.Trod enc Try.prog w base spare held 28 v d p) :
    ∃ (m : PModel) (vd vp vl vi : Value), v = .agg #[.int .i64 m.seed, .float .f64 m.fin, vd, vp, vl, vi] ∧ ModelAt w vd vp vl vi m ∧ m.wf := by
  obtain ⟨cs, rfl, -⟩ := okWide_struct Try.underlying28 hv
  obtain ⟨fuel, hf⟩ := h
  obtain ⟨m, vd, vp, vl, vi, e, h1, h2⟩ := open_model hf
  exact ⟨m, vd, vp, vl, vi, by congr 1; apply Array.ext'; simpa [Value.cells] using e, h1, h2⟩
theorem arg_ins {r : Reach} {b0 : Nat} {v : Value} {d : DataW H} {p : List MemPlace} (hv : Value.okWide Try.prog w r b0 34 v) (h : DataW.Trod enc Try.prog w base spare held 34 v d p) :
    ∃ y : PIns, v = .agg #[.int .i64 y.op, .int .i64 y.a, .int .i64 y.b, .int .i64 y.c] ∧ y.wf := by
  obtain ⟨cs, rfl, -⟩ := okWide_struct Try.underlying34 hv
  obtain ⟨fuel, hf⟩ := h
  obtain ⟨y, e, h2⟩ := open_ins hf
  exact ⟨y, by congr 1; apply Array.ext'; simpa [Value.cells] using e, h2⟩
theorem arg_int {r : Reach} {b0 : Nat} {v : Value} {d : DataW H} {p : List MemPlace} (hv : Value.okWide Try.prog w r b0 3 v) (h : DataW.Trod enc Try.prog w base spare held 3 v d p) :
    ∃ n : Int, v = .int .i64 n ∧ i64 n := by
  obtain ⟨n, rfl⟩ := okWide_int Try.underlying3 hv
  obtain ⟨fuel, hf⟩ := h
  obtain ⟨k, e, -, g⟩ := DataW.trod_int Try.underlying3 hf
  simp [Value.cells] at e
  subst e
  exact ⟨_, rfl, bounds_i64 g⟩

end
end Go.Proofs.Ytkoopobfelcgpaa
end -- Open

section -- Facts
/- Closed facts of this seat's program that hang on the word in its head alone. -/
namespace Go.Proofs.Ytkoopobfelcgpaa
open Go
set_option maxRecDepth 100000

def headChars : List Char := [Char.ofNat 104, Char.ofNat 97, Char.ofNat 114, Char.ofNat 110, Char.ofNat 101, Char.ofNat 115, Char.ofNat 115, Char.ofNat 32, Char.ofNat 51, Char.ofNat 53, Char.ofNat 53, Char.ofNat 48, Char.ofNat 57, Char.ofNat 48, Char.ofNat 102, Char.ofNat 100, Char.ofNat 98, Char.ofNat 97, Char.ofNat 98, Char.ofNat 101, Char.ofNat 52, Char.ofNat 57, Char.ofNat 50, Char.ofNat 98, Char.ofNat 51, Char.ofNat 97, Char.ofNat 97, Char.ofNat 57, Char.ofNat 98, Char.ofNat 101, Char.ofNat 101, Char.ofNat 99, Char.ofNat 53, Char.ofNat 97, Char.ofNat 57, Char.ofNat 55, Char.ofNat 48, Char.ofNat 48, Char.ofNat 48, Char.ofNat 53, Char.ofNat 98, Char.ofNat 102, Char.ofNat 100, Char.ofNat 55, Char.ofNat 97, Char.ofNat 101, Char.ofNat 97, Char.ofNat 55, Char.ofNat 97, Char.ofNat 54, Char.ofNat 52, Char.ofNat 102, Char.ofNat 101, Char.ofNat 53, Char.ofNat 56, Char.ofNat 98, Char.ofNat 55, Char.ofNat 48, Char.ofNat 99, Char.ofNat 52, Char.ofNat 52, Char.ofNat 48, Char.ofNat 57, Char.ofNat 101, Char.ofNat 102, Char.ofNat 99, Char.ofNat 52, Char.ofNat 57, Char.ofNat 51, Char.ofNat 50, Char.ofNat 101, Char.ofNat 55, Char.ofNat 32, Char.ofNat 99, Char.ofNat 117, Char.ofNat 116, Char.ofNat 32, Char.ofNat 97, Char.ofNat 116, Char.ofNat 32, Char.ofNat 104, Char.ofNat 111, Char.ofNat 114, Char.ofNat 111, Char.ofNat 108, Char.ofNat 111, Char.ofNat 103, Char.ofNat 101, Char.ofNat 47, Char.ofNat 104, Char.ofNat 111, Char.ofNat 114, Char.ofNat 111, Char.ofNat 108, Char.ofNat 111, Char.ofNat 103, Char.ofNat 101, Char.ofNat 108, Char.ofNat 97, Char.ofNat 119, Char.ofNat 48, Char.ofNat 53, Char.ofNat 46, Char.ofNat 77, Char.ofNat 111, Char.ofNat 100, Char.ofNat 101, Char.ofNat 108, Char.ofNat 67, Char.ofNat 104, Char.ofNat 101, Char.ofNat 99, Char.ofNat 107, Char.ofNat 115, Char.ofNat 32, Char.ofNat 104, Char.ofNat 111, Char.ofNat 114, Char.ofNat 111, Char.ofNat 108, Char.ofNat 111, Char.ofNat 103, Char.ofNat 101, Char.ofNat 47, Char.ofNat 104, Char.ofNat 111, Char.ofNat 114, Char.ofNat 111, Char.ofNat 108, Char.ofNat 111, Char.ofNat 103, Char.ofNat 101, Char.ofNat 108, Char.ofNat 97, Char.ofNat 119, Char.ofNat 48, Char.ofNat 53, Char.ofNat 46, Char.ofNat 77, Char.ofNat 111, Char.ofNat 100, Char.ofNat 101, Char.ofNat 108, Char.ofNat 73, Char.ofNat 110, Char.ofNat 115, Char.ofNat 32, Char.ofNat 104, Char.ofNat 111, Char.ofNat 114, Char.ofNat 111, Char.ofNat 108, Char.ofNat 111, Char.ofNat 103, Char.ofNat 101, Char.ofNat 47, Char.ofNat 104, Char.ofNat 111, Char.ofNat 114, Char.ofNat 111, Char.ofNat 108, Char.ofNat 111, Char.ofNat 103, Char.ofNat 101, Char.ofNat 108, Char.ofNat 97, Char.ofNat 119, Char.ofNat 48, Char.ofNat 53, Char.ofNat 46, Char.ofNat 77, Char.ofNat 111, Char.ofNat 100, Char.ofNat 101, Char.ofNat 108, Char.ofNat 83, Char.ofNat 97, Char.ofNat 109, Char.ofNat 101, Char.ofNat 32, Char.ofNat 104, Char.ofNat 111, Char.ofNat 114, Char.ofNat 111, Char.ofNat 108, Char.ofNat 111, Char.ofNat 103, Char.ofNat 101, Char.ofNat 47, Char.ofNat 104, Char.ofNat 111, Char.ofNat 114, Char.ofNat 111, Char.ofNat 108, Char.ofNat 111, Char.ofNat 103, Char.ofNat 101, Char.ofNat 108, Char.ofNat 97, Char.ofNat 119, Char.ofNat 48, Char.ofNat 53, Char.ofNat 46, Char.ofNat 77, Char.ofNat 111, Char.ofNat 100, Char.ofNat 101, Char.ofNat 108, Char.ofNat 67, Char.ofNat 111, Char.ofNat 112, Char.ofNat 105, Char.ofNat 101, Char.ofNat 115, Char.ofNat 32, Char.ofNat 104, Char.ofNat 111, Char.ofNat 114, Char.ofNat 111, Char.ofNat 108, Char.ofNat 111, Char.ofNat 103, Char.ofNat 101, Char.ofNat 47, Char.ofNat 104, Char.ofNat 111, Char.ofNat 114, Char.ofNat 111, Char.ofNat 108, Char.ofNat 111, Char.ofNat 103, Char.ofNat 101, Char.ofNat 108, Char.ofNat 97, Char.ofNat 119, Char.ofNat 48, Char.ofNat 53, Char.ofNat 46, Char.ofNat 77, Char.ofNat 111, Char.ofNat 100, Char.ofNat 101, Char.ofNat 108, Char.ofNat 76, Char.ofNat 101, Char.ofNat 110, Char.ofNat 116, Char.ofNat 32, Char.ofNat 104, Char.ofNat 111, Char.ofNat 114, Char.ofNat 111, Char.ofNat 108, Char.ofNat 111, Char.ofNat 103, Char.ofNat 101, Char.ofNat 47, Char.ofNat 104, Char.ofNat 111, Char.ofNat 114, Char.ofNat 111, Char.ofNat 108, Char.ofNat 111, Char.ofNat 103, Char.ofNat 101, Char.ofNat 108, Char.ofNat 97, Char.ofNat 119, Char.ofNat 48, Char.ofNat 54, Char.ofNat 46, Char.ofNat 77, Char.ofNat 111, Char.ofNat 100, Char.ofNat 101, Char.ofNat 108, Char.ofNat 105, Char.ofNat 111, Char.ofNat 80, Char.ofNat 117, Char.ofNat 116, Char.ofNat 115, Char.ofNat 32, Char.ofNat 104, Char.ofNat 111, Char.ofNat 114, Char.ofNat 111, Char.ofNat 108, Char.ofNat 111, Char.ofNat 103, Char.ofNat 101, Char.ofNat 47, Char.ofNat 104, Char.ofNat 111, Char.ofNat 114, Char.ofNat 111, Char.ofNat 108, Char.ofNat 111, Char.ofNat 103, Char.ofNat 101, Char.ofNat 108, Char.ofNat 97, Char.ofNat 119, Char.ofNat 48, Char.ofNat 54, Char.ofNat 46, Char.ofNat 77, Char.ofNat 111, Char.ofNat 100, Char.ofNat 101, Char.ofNat 108, Char.ofNat 105, Char.ofNat 111, Char.ofNat 71, Char.ofNat 101, Char.ofNat 116, Char.ofNat 115, Char.ofNat 32, Char.ofNat 104, Char.ofNat 111, Char.ofNat 114, Char.ofNat 111, Char.ofNat 108, Char.ofNat 111, Char.ofNat 103, Char.ofNat 101, Char.ofNat 47, Char.ofNat 104, Char.ofNat 111, Char.ofNat 114, Char.ofNat 111, Char.ofNat 108, Char.ofNat 111, Char.ofNat 103, Char.ofNat 101, Char.ofNat 108, Char.ofNat 97, Char.ofNat 119, Char.ofNat 48, Char.ofNat 54, Char.ofNat 46, Char.ofNat 77, Char.ofNat 111, Char.ofNat 100, Char.ofNat 101, Char.ofNat 108, Char.ofNat 105, Char.ofNat 111, Char.ofNat 66, Char.ofNat 97, Char.ofNat 99, Char.ofNat 107, Char.ofNat 32, Char.ofNat 104, Char.ofNat 111, Char.ofNat 114, Char.ofNat 111, Char.ofNat 108, Char.ofNat 111, Char.ofNat 103, Char.ofNat 101, Char.ofNat 47, Char.ofNat 104, Char.ofNat 111, Char.ofNat 114, Char.ofNat 111, Char.ofNat 108, Char.ofNat 111, Char.ofNat 103, Char.ofNat 101, Char.ofNat 108, Char.ofNat 97, Char.ofNat 119, Char.ofNat 48, Char.ofNat 54, Char.ofNat 46, Char.ofNat 77, Char.ofNat 111, Char.ofNat 100, Char.ofNat 101, Char.ofNat 108, Char.ofNat 105, Char.ofNat 111, Char.ofNat 79, Char.ofNat 110, Char.ofNat 99, Char.ofNat 101, Char.ofNat 32, Char.ofNat 104, Char.ofNat 111, Char.ofNat 114, Char.ofNat 111, Char.ofNat 108, Char.ofNat 111, Char.ofNat 103, Char.ofNat 101, Char.ofNat 47, Char.ofNat 104, Char.ofNat 111, Char.ofNat 114, Char.ofNat 111, Char.ofNat 108, Char.ofNat 111, Char.ofNat 103, Char.ofNat 101, Char.ofNat 108, Char.ofNat 97, Char.ofNat 119, Char.ofNat 48, Char.ofNat 54, Char.ofNat 46, Char.ofNat 77, Char.ofNat 111, Char.ofNat 100, Char.ofNat 101, Char.ofNat 108, Char.ofNat 105, Char.ofNat 111, Char.ofNat 65, Char.ofNat 112, Char.ofNat 97, Char.ofNat 114, Char.ofNat 116, Char.ofNat 32, Char.ofNat 104, Char.ofNat 111, Char.ofNat 114, Char.ofNat 111, Char.ofNat 108, Char.ofNat 111, Char.ofNat 103, Char.ofNat 101, Char.ofNat 47, Char.ofNat 104, Char.ofNat 111, Char.ofNat 114, Char.ofNat 111, Char.ofNat 108, Char.ofNat 111, Char.ofNat 103, Char.ofNat 101, Char.ofNat 108, Char.ofNat 97, Char.ofNat 119, Char.ofNat 48, Char.ofNat 55, Char.ofNat 46, Char.ofNat 86, Char.ofNat 109, Char.ofNat 82, Char.ofNat 117, Char.ofNat 110, Char.ofNat 115, Char.ofNat 32, Char.ofNat 104, Char.ofNat 111, Char.ofNat 114, Char.ofNat 111, Char.ofNat 108, Char.ofNat 111, Char.ofNat 103, Char.ofNat 101, Char.ofNat 47, Char.ofNat 104, Char.ofNat 111, Char.ofNat 114, Char.ofNat 111, Char.ofNat 108, Char.ofNat 111, Char.ofNat 103, Char.ofNat 101, Char.ofNat 108, Char.ofNat 97, Char.ofNat 119, Char.ofNat 48, Char.ofNat 55, Char.ofNat 46, Char.ofNat 86, Char.ofNat 109, Char.ofNat 87, Char.ofNat 104, Char.ofNat 111, Char.ofNat 108, Char.ofNat 101, Char.ofNat 32, Char.ofNat 104, Char.ofNat 111, Char.ofNat 114, Char.ofNat 111, Char.ofNat 108, Char.ofNat 111, Char.ofNat 103, Char.ofNat 101, Char.ofNat 47, Char.ofNat 104, Char.ofNat 111, Char.ofNat 114, Char.ofNat 111, Char.ofNat 108, Char.ofNat 111, Char.ofNat 103, Char.ofNat 101, Char.ofNat 108, Char.ofNat 97, Char.ofNat 119, Char.ofNat 48, Char.ofNat 55, Char.ofNat 46, Char.ofNat 86, Char.ofNat 109, Char.ofNat 65, Char.ofNat 103, Char.ofNat 97, Char.ofNat 105, Char.ofNat 110, Char.ofNat 32, Char.ofNat 104, Char.ofNat 111, Char.ofNat 114, Char.ofNat 111, Char.ofNat 108, Char.ofNat 111, Char.ofNat 103, Char.ofNat 101, Char.ofNat 47, Char.ofNat 104, Char.ofNat 111, Char.ofNat 114, Char.ofNat 111, Char.ofNat 108, Char.ofNat 111, Char.ofNat 103, Char.ofNat 101, Char.ofNat 108, Char.ofNat 97, Char.ofNat 119, Char.ofNat 48, Char.ofNat 55, Char.ofNat 46, Char.ofNat 86, Char.ofNat 109, Char.ofNat 68, Char.ofNat 105, Char.ofNat 118, Char.ofNat 105, Char.ofNat 100, Char.ofNat 101, Char.ofNat 115, Char.ofNat 32, Char.ofNat 104, Char.ofNat 111, Char.ofNat 114, Char.ofNat 111, Char.ofNat 108, Char.ofNat 111, Char.ofNat 103, Char.ofNat 101, Char.ofNat 47, Char.ofNat 104, Char.ofNat 111, Char.ofNat 114, Char.ofNat 111, Char.ofNat 108, Char.ofNat 111, Char.ofNat 103, Char.ofNat 101, Char.ofNat 108, Char.ofNat 97, Char.ofNat 119, Char.ofNat 48, Char.ofNat 55, Char.ofNat 46, Char.ofNat 86, Char.ofNat 109, Char.ofNat 83, Char.ofNat 116, Char.ofNat 101, Char.ofNat 112, Char.ofNat 115, Char.ofNat 32, Char.ofNat 104, Char.ofNat 111, Char.ofNat 114, Char.ofNat 111, Char.ofNat 108, Char.ofNat 111, Char.ofNat 103, Char.ofNat 101, Char.ofNat 47, Char.ofNat 104, Char.ofNat 111, Char.ofNat 114, Char.ofNat 111, Char.ofNat 108, Char.ofNat 111, Char.ofNat 103, Char.ofNat 101, Char.ofNat 108, Char.ofNat 97, Char.ofNat 119, Char.ofNat 48, Char.ofNat 56, Char.ofNat 46, Char.ofNat 65, Char.ofNat 99, Char.ofNat 116, Char.ofNat 76, Char.ofNat 97, Char.ofNat 116, Char.ofNat 101, Char.ofNat 114, Char.ofNat 32, Char.ofNat 104, Char.ofNat 111, Char.ofNat 114, Char.ofNat 111, Char.ofNat 108, Char.ofNat 111, Char.ofNat 103, Char.ofNat 101, Char.ofNat 47, Char.ofNat 104, Char.ofNat 111, Char.ofNat 114, Char.ofNat 111, Char.ofNat 108, Char.ofNat 111, Char.ofNat 103, Char.ofNat 101, Char.ofNat 108, Char.ofNat 97, Char.ofNat 119, Char.ofNat 48, Char.ofNat 56, Char.ofNat 46, Char.ofNat 65, Char.ofNat 99, Char.ofNat 116, Char.ofNat 72, Char.ofNat 97, Char.ofNat 110, Char.ofNat 100, Char.ofNat 108, Char.ofNat 101, Char.ofNat 115, Char.ofNat 32, Char.ofNat 104, Char.ofNat 111, Char.ofNat 114, Char.ofNat 111, Char.ofNat 108, Char.ofNat 111, Char.ofNat 103, Char.ofNat 101, Char.ofNat 47, Char.ofNat 104, Char.ofNat 111, Char.ofNat 114, Char.ofNat 111, Char.ofNat 108, Char.ofNat 111, Char.ofNat 103, Char.ofNat 101, Char.ofNat 108, Char.ofNat 97, Char.ofNat 119, Char.ofNat 48, Char.ofNat 56, Char.ofNat 46, Char.ofNat 65, Char.ofNat 99, Char.ofNat 116, Char.ofNat 65, Char.ofNat 103, Char.ofNat 97, Char.ofNat 105, Char.ofNat 110, Char.ofNat 32, Char.ofNat 104, Char.ofNat 111, Char.ofNat 114, Char.ofNat 111, Char.ofNat 108, Char.ofNat 111, Char.ofNat 103, Char.ofNat 101, Char.ofNat 47, Char.ofNat 104, Char.ofNat 111, Char.ofNat 114, Char.ofNat 111, Char.ofNat 108, Char.ofNat 111, Char.ofNat 103, Char.ofNat 101, Char.ofNat 108, Char.ofNat 97, Char.ofNat 119, Char.ofNat 48, Char.ofNat 56, Char.ofNat 46, Char.ofNat 65, Char.ofNat 99, Char.ofNat 116, Char.ofNat 83, Char.ofNat 97, Char.ofNat 109, Char.ofNat 101, Char.ofNat 32, Char.ofNat 104, Char.ofNat 111, Char.ofNat 114, Char.ofNat 111, Char.ofNat 108, Char.ofNat 111, Char.ofNat 103, Char.ofNat 101, Char.ofNat 47, Char.ofNat 104, Char.ofNat 111, Char.ofNat 114, Char.ofNat 111, Char.ofNat 108, Char.ofNat 111, Char.ofNat 103, Char.ofNat 101, Char.ofNat 108, Char.ofNat 97, Char.ofNat 119, Char.ofNat 48, Char.ofNat 56, Char.ofNat 46, Char.ofNat 65, Char.ofNat 99, Char.ofNat 116, Char.ofNat 66, Char.ofNat 101, Char.ofNat 103, Char.ofNat 105, Char.ofNat 110, Char.ofNat 115, Char.ofNat 32, Char.ofNat 104, Char.ofNat 111, Char.ofNat 114, Char.ofNat 111, Char.ofNat 108, Char.ofNat 111, Char.ofNat 103, Char.ofNat 101, Char.ofNat 47, Char.ofNat 104, Char.ofNat 111, Char.ofNat 114, Char.ofNat 111, Char.ofNat 108, Char.ofNat 111, Char.ofNat 103, Char.ofNat 101, Char.ofNat 108, Char.ofNat 97, Char.ofNat 119, Char.ofNat 48, Char.ofNat 56, Char.ofNat 46, Char.ofNat 65, Char.ofNat 99, Char.ofNat 116, Char.ofNat 79, Char.ofNat 114, Char.ofNat 100, Char.ofNat 101, Char.ofNat 114, Char.ofNat 115, Char.ofNat 32, Char.ofNat 104, Char.ofNat 111, Char.ofNat 114, Char.ofNat 111, Char.ofNat 108, Char.ofNat 111, Char.ofNat 103, Char.ofNat 101, Char.ofNat 47, Char.ofNat 104, Char.ofNat 111, Char.ofNat 114, Char.ofNat 111, Char.ofNat 108, Char.ofNat 111, Char.ofNat 103, Char.ofNat 101, Char.ofNat 108, Char.ofNat 97, Char.ofNat 119, Char.ofNat 48, Char.ofNat 57, Char.ofNat 46, Char.ofNat 80, Char.ofNat 108, Char.ofNat 97, Char.ofNat 105, Char.ofNat 110, Char.ofNat 79, Char.ofNat 114, Char.ofNat 100, Char.ofNat 101, Char.ofNat 114, Char.ofNat 32, Char.ofNat 104, Char.ofNat 111, Char.ofNat 114, Char.ofNat 111, Char.ofNat 108, Char.ofNat 111, Char.ofNat 103, Char.ofNat 101, Char.ofNat 47, Char.ofNat 104, Char.ofNat 111, Char.ofNat 114, Char.ofNat 111, Char.ofNat 108, Char.ofNat 111, Char.ofNat 103, Char.ofNat 101, Char.ofNat 108, Char.ofNat 97, Char.ofNat 119, Char.ofNat 48, Char.ofNat 57, Char.ofNat 46, Char.ofNat 80, Char.ofNat 108, Char.ofNat 97, Char.ofNat 105, Char.ofNat 110, Char.ofNat 80, Char.ofNat 97, Char.ofNat 114, Char.ofNat 116, Char.ofNat 115, Char.ofNat 32, Char.ofNat 104, Char.ofNat 111, Char.ofNat 114, Char.ofNat 111, Char.ofNat 108, Char.ofNat 111, Char.ofNat 103, Char.ofNat 101, Char.ofNat 47, Char.ofNat 104, Char.ofNat 111, Char.ofNat 114, Char.ofNat 111, Char.ofNat 108, Char.ofNat 111, Char.ofNat 103, Char.ofNat 101, Char.ofNat 108, Char.ofNat 97, Char.ofNat 119, Char.ofNat 48, Char.ofNat 57, Char.ofNat 46, Char.ofNat 80, Char.ofNat 108, Char.ofNat 97, Char.ofNat 105, Char.ofNat 110, Char.ofNat 67, Char.ofNat 111, Char.ofNat 117, Char.ofNat 110, Char.ofNat 116, Char.ofNat 115, Char.ofNat 32, Char.ofNat 104, Char.ofNat 111, Char.ofNat 114, Char.ofNat 111, Char.ofNat 108, Char.ofNat 111, Char.ofNat 103, Char.ofNat 101, Char.ofNat 47, Char.ofNat 104, Char.ofNat 111, Char.ofNat 114, Char.ofNat 111, Char.ofNat 108, Char.ofNat 111, Char.ofNat 103, Char.ofNat 101, Char.ofNat 108, Char.ofNat 97, Char.ofNat 119, Char.ofNat 48, Char.ofNat 57, Char.ofNat 46, Char.ofNat 80, Char.ofNat 108, Char.ofNat 97, Char.ofNat 105, Char.ofNat 110, Char.ofNat 78, Char.ofNat 111, Char.ofNat 110, Char.ofNat 101, Char.ofNat 32, Char.ofNat 104, Char.ofNat 111, Char.ofNat 114, Char.ofNat 111, Char.ofNat 108, Char.ofNat 111, Char.ofNat 103, Char.ofNat 101, Char.ofNat 47, Char.ofNat 104, Char.ofNat 111, Char.ofNat 114, Char.ofNat 111, Char.ofNat 108, Char.ofNat 111, Char.ofNat 103, Char.ofNat 101, Char.ofNat 108, Char.ofNat 97, Char.ofNat 119, Char.ofNat 48, Char.ofNat 57, Char.ofNat 46, Char.ofNat 80, Char.ofNat 108, Char.ofNat 97, Char.ofNat 105, Char.ofNat 110, Char.ofNat 82, Char.ofNat 117, Char.ofNat 110, Char.ofNat 115]
theorem head_text : Try.prog.initOrder = "harness 355090fdbabe492b3aa9beec5a970005bfd7aea7a64fe58b70c4409efc4932e7 cut at horologe/horologelaw05.ModelChecks horologe/horologelaw05.ModelIns horologe/horologelaw05.ModelSame horologe/horologelaw05.ModelCopies horologe/horologelaw05.ModelLent horologe/horologelaw06.ModelioPuts horologe/horologelaw06.ModelioGets horologe/horologelaw06.ModelioBack horologe/horologelaw06.ModelioOnce horologe/horologelaw06.ModelioApart horologe/horologelaw07.VmRuns horologe/horologelaw07.VmWhole horologe/horologelaw07.VmAgain horologe/horologelaw07.VmDivides horologe/horologelaw07.VmSteps horologe/horologelaw08.ActLater horologe/horologelaw08.ActHandles horologe/horologelaw08.ActAgain horologe/horologelaw08.ActSame horologe/horologelaw08.ActBegins horologe/horologelaw08.ActOrders horologe/horologelaw09.PlainOrder horologe/horologelaw09.PlainParts horologe/horologelaw09.PlainCounts horologe/horologelaw09.PlainNone horologe/horologelaw09.PlainRuns" := rfl
theorem head_list : "harness 355090fdbabe492b3aa9beec5a970005bfd7aea7a64fe58b70c4409efc4932e7 cut at horologe/horologelaw05.ModelChecks horologe/horologelaw05.ModelIns horologe/horologelaw05.ModelSame horologe/horologelaw05.ModelCopies horologe/horologelaw05.ModelLent horologe/horologelaw06.ModelioPuts horologe/horologelaw06.ModelioGets horologe/horologelaw06.ModelioBack horologe/horologelaw06.ModelioOnce horologe/horologelaw06.ModelioApart horologe/horologelaw07.VmRuns horologe/horologelaw07.VmWhole horologe/horologelaw07.VmAgain horologe/horologelaw07.VmDivides horologe/horologelaw07.VmSteps horologe/horologelaw08.ActLater horologe/horologelaw08.ActHandles horologe/horologelaw08.ActAgain horologe/horologelaw08.ActSame horologe/horologelaw08.ActBegins horologe/horologelaw08.ActOrders horologe/horologelaw09.PlainOrder horologe/horologelaw09.PlainParts horologe/horologelaw09.PlainCounts horologe/horologelaw09.PlainNone horologe/horologelaw09.PlainRuns" = String.ofList headChars := by kernel_rfl
theorem head_toList : Try.prog.initOrder.toList = headChars := by rw [head_text, head_list, String.toList_ofList]
theorem head_words : behindMainWord (wordsSigns headChars) = [Char.ofNat 99, Char.ofNat 117, Char.ofNat 116] :: (behindMainWord (wordsSigns headChars)).tail := by kernel_rfl
theorem cut_text : "cut".toList = [Char.ofNat 99, Char.ofNat 117, Char.ofNat 116] := by decide +kernel

theorem head_is : behindMainWord (wordsSigns Try.prog.initOrder.toList) = [Char.ofNat 99, Char.ofNat 117, Char.ofNat 116] :: (behindMainWord (wordsSigns headChars)).tail := by rw [head_toList]; exact head_words
theorem make_of (P : Program) (r : List (List Char)) (h : behindMainWord (wordsSigns P.initOrder.toList) = [Char.ofNat 99, Char.ofNat 117, Char.ofNat 116] :: r) : P.make = some Make.cut := by
  unfold Program.make
  rw [h]
  kernel_rfl
theorem make_cut : Try.prog.make = some .cut := make_of Try.prog _ head_is
theorem strip_cut (r : List (List Char)) : stripLifts liftWords ([Char.ofNat 99, Char.ofNat 117, Char.ofNat 116] :: r) = ([], [Char.ofNat 99, Char.ofNat 117, Char.ofNat 116] :: r) := by kernel_rfl
theorem headLifts_of (P : Program) (r : List (List Char)) (h : behindMainWord (wordsSigns P.initOrder.toList) = [Char.ofNat 99, Char.ofNat 117, Char.ofNat 116] :: r) : P.headLifts = [] := by
  unfold Program.headLifts
  rw [h, strip_cut]
  exact ite_self _
theorem lifts_of (P : Program) (r : List (List Char)) (h : behindMainWord (wordsSigns P.initOrder.toList) = [Char.ofNat 99, Char.ofNat 117, Char.ofNat 116] :: r) : P.liftsFinal = false := by
  unfold Program.liftsFinal
  rw [headLifts_of P r h, h]
  kernel_rfl
theorem liftsFinal_no : Try.prog.liftsFinal = false := lifts_of Try.prog _ head_is
theorem laysLater_no : Try.prog.laysLater = false := by kernel_rfl
theorem bearsReflect_no : Try.prog.bearsReflect = false := by kernel_rfl
theorem doorFits_nil : Try.prog.doorFits [] = true := by kernel_rfl
theorem enter_of (P : Program) (r : List (List Char)) (h : behindMainWord (wordsSigns P.initOrder.toList) = [Char.ofNat 99, Char.ofNat 117, Char.ofNat 116] :: r) (h1 : P.laysLater = false) (h2 : P.bearsReflect = false) (h3 : P.doorFits [] = true) : P.mayEnter = true := by
  unfold Program.mayEnter
  rw [h]
  simp only [strip_cut, h1, h2, h3]
  kernel_rfl
theorem mayEnter_yes : Try.prog.mayEnter = true := enter_of Try.prog _ head_is laysLater_no bearsReflect_no doorFits_nil

/-- The closed facts, those of the head apart. -/
def restA (P : Program) (fn : Func) (s : ChangeSpec) (c : OpenClaim) : Bool :=
  c.wf (OpenSpec.ofChange s) && laidOutB P && mapsRowed P && fn.params.all (P.readableRec ·) && namedTie P c.named s.vars && (c.stops == []) && (P.stops == []) && (c.knobs == []) && (P.stopKnobs == [])
def restB (P : Program) (f : FuncId) (c : OpenClaim) : Bool := (c.inPlace == P.inPlace f) && (c.unfollowed == P.unfollowed f) && (c.recurses == P.recurses f) && (c.named == P.varsNamed f)
def restC (P : Program) (fn : Func) (s : ChangeSpec) (c : OpenClaim) : Bool :=
  (c.maps == (fn.params.toList ++ s.plain.varTypes P).any (P.mapsRec ·)) && (c.ifaces == (fn.params.toList ++ s.plain.varTypes P).any (P.ifacesRec ·)) && (c.mapsOut == P.mapsAmong fn.resultTypes.toList) &&
  (c.loops == (fn.params.toList ++ s.plain.varTypes P).any (P.loopsFrom ·)) && (c.wideKeys == (fn.params.toList ++ s.plain.varTypes P ++ fn.resultTypes.toList).any (P.wideKeysFrom ·)) &&
  s.vars.all (P.varReadable ·) && fn.resultTypes.all (fun t => P.readableRec t && decide (t < P.types.size)) && (c.ifacesOut == fn.resultTypes.toList.any (P.ifacesRec ·)) && (c.loopsOut == fn.resultTypes.toList.any (P.loopsFrom ·)) && (c.plainKeys == P.plainKeys) && c.shortTexts.isNone && P.stopsHeard
def restD (P : Program) (fn : Func) (s : ChangeSpec) (c : OpenClaim) : Bool :=
  (c.kinds == (if c.domain.isEmpty then [] else fn.params.toList.map fun t => match P.underlying t with | some (.int k) => some k | _ => none)) && (c.pinned == c.pinnedBy) &&
  (c.veiled == (fn.params.toList ++ s.plain.varTypes P ++ fn.resultTypes.toList).any (P.veiledRec ·)) && c.veiledFits P fn.params.toList (fn.params.toList ++ s.plain.varTypes P ++ fn.resultTypes.toList)
theorem joined_of (P : Program) (f : FuncId) (fn : Func) (s : ChangeSpec) (c : OpenClaim) (h1 : P.mayEnter = true) (h2 : P.liftsFinal = false) (h3 : P.make = some .cut) (hl : c.lifted = false) (hm : c.make = .cut)
    (ha : restA P fn s c = true) (hb : restB P f c = true) (hc : restC P fn s c = true) (hd : restD P fn s c = true) : joinedFacts P f fn s c = true := by
  unfold joinedFacts
  unfold restA at ha
  unfold restB at hb
  unfold restC at hc
  unfold restD at hd
  simp only [Bool.and_eq_true] at ha hb hc hd ⊢
  obtain ⟨⟨⟨⟨⟨⟨⟨⟨a1, a2⟩, a3⟩, a4⟩, a5⟩, a6⟩, a7⟩, a8⟩, a9⟩ := ha
  obtain ⟨⟨⟨b1, b2⟩, b3⟩, b4⟩ := hb
  obtain ⟨⟨⟨⟨⟨⟨⟨⟨⟨⟨⟨d1, d2⟩, d3⟩, d4⟩, d5⟩, d6⟩, d7⟩, d8⟩, d9⟩, d10⟩, d11⟩, d12⟩ := hc
  obtain ⟨⟨⟨e1, e2⟩, e3⟩, e4⟩ := hd
  refine ⟨⟨⟨⟨⟨⟨⟨⟨⟨⟨⟨⟨⟨⟨⟨⟨⟨⟨⟨⟨⟨⟨⟨⟨⟨⟨⟨⟨⟨⟨⟨a1, a2⟩, a3⟩, a4⟩, a5⟩, a6⟩, a7⟩, a8⟩, a9⟩, b1⟩, b2⟩, b3⟩, b4⟩, d1⟩, d2⟩, d3⟩, d4⟩, d5⟩, d6⟩, d7⟩, d8⟩, d9⟩, d10⟩, d11⟩, d12⟩, h1⟩, ?_⟩, ?_⟩, e1⟩, e2⟩, e3⟩, e4⟩
  · rw [hl, h2]; rfl
  · rw [h3, hm]; exact beq_self_eq_true _
end Go.Proofs.Ytkoopobfelcgpaa
end -- Facts

section -- A6
/- layer 5: Check -/
namespace Go.Proofs.Ytkoopobfelcgpaa
open Go.RowKit

def delayB (d : Nat) : Bool := !fnan d && fgt d 0
def lpB (np : Nat) (x : PLP) : Bool := (decide (0 ≤ x.prog) && decide (x.prog ≤ (np : Int) - 1)) && decide (x.words.length ≤ 8)
def initB (nl : Nat) (x : PInit) : Bool := !fnan x.t && (decide (0 ≤ x.dst) && decide (x.dst ≤ (nl : Int) - 1))
def checkB (m : PModel) : Bool := (countsB m && !fnan m.fin) && (m.delays.all delayB && (m.programs.all progB && (m.lps.all (lpB m.programs.length) && m.init.all (initB m.lps.length))))
def checkE (m : PModel) : Int := if checkB m = true then 0 else 15

theorem all_succ {α : Type} (p : α → Bool) (l : List α) (k : Nat) (x : α) (h : l[k]? = some x) : (l.take (k + 1)).all p = ((l.take k).all p && p x) := by
  rw [List.take_add_one, h]; simp [List.all_append]
theorem all_end {α : Type} (p : α → Bool) (l : List α) (k : Nat) (hk : l.length ≤ k) : (l.take k).all p = l.all p := by rw [List.take_of_length_le hk]

set_option maxHeartbeats 8000000 in
set_option maxRecDepth 100000 in
theorem Check_any (m : PModel) (vd vp vl vi : Value) (w : World) (h : ModelAt w vd vp vl vi m) :
    Calls Try.prog 31 #[.agg #[.int .i64 m.seed, .float .f64 m.fin, vd, vp, vl, vi]] w fun e w' => e = .returned (.int .i64 (checkE m)) ∧ Gr w w' := by
  have h0 := Lib.hid h
  obtain ⟨ad, cd, rfl, hdc, hdm, -, hd⟩ := h.delays
  obtain ⟨ap, cp, rfl, hpc, hpm, -, hp⟩ := h.programs
  obtain ⟨al, cl, rfl, hlc, hlm, -, hl⟩ := h.lps
  obtain ⟨ai, ci, rfl, hic, him, -, hi⟩ := h.init
  clear h
  unfold maxLen at hpm hlm hdm him
  have HD := Lib.hid hd; clear hd
  have HP := Lib.hid hp; clear hp
  have HL := Lib.hid hl; clear hl
  have HI := Lib.hid hi; clear hi
  go_enter Try.func31, Try.ntmps31
  go_wp2_with (first | (go_at_call 79; refine (counts_any m _ _ _ _ _ (by exact h0.out.gr ((Gr.refl _).alloc _))).mono ?_; rintro e W ⟨rfl, hW⟩; obtain ⟨hg, hs, q0, q1, q2, q3, q4, q5⟩ := box6 hW) | (go_at_call 80; refine (isnan_any _ _).mono ?_; rintro e w' ⟨rfl, rfl⟩))
  all_goals
    have hc : countsB m = true ∨ countsB m = false := by cases countsB m <;> simp
    have HC := Lib.hid hc; clear hc
    clear hW q0 q1
    go_loopg [3, 23] m.delays.length (fun g r i wr => ∃ (k : Nat) (B : Bool), g + k = m.delays.length ∧ i = .int .i64 k ∧ r = .bool B ∧ Gr W wr ∧ B = ((countsB m && !fnan m.fin) && (m.delays.take k).all delayB))
    case atStart => exact ⟨0, _, by omega, rfl, rfl, Gr.refl _, by simp [*]⟩
    case round =>
      obtain ⟨k, B, hk, rfl, rfl, hgr, hB⟩ := hrel
      have HB := Lib.hid hB; clear hB
      by_cases hlt : k < m.delays.length
      · obtain ⟨b, o, rfl, hR⟩ := HD.out k m.delays[k] (by simp [hlt])
        have hv : wr.cell? ⟨b, o + k * 1, none⟩ = some (.float .f64 m.delays[k]) := (hg.trans hgr).cell hR
        rw [Nat.mul_one] at hv
        clear hR
        cases B
        all_goals go_wp2_with (go_at_call 80; refine (isnan_any _ _).mono ?_; rintro e w' ⟨rfl, rfl⟩)
        all_goals
          go_roundg (gk - 1)
          case measure => omega
          case rel => exact ⟨k + 1, _, by omega, by go_num, rfl, hgr, by rw [all_succ _ _ k m.delays[k] (by simp [hlt])]; have := HB.out; grind [delayB, fgt]⟩
      · have hB := HB.out
        rw [all_end _ _ k (by omega)] at hB
        have HB1 := Lib.hid hB
        clear hB HB
        have q2' := hgr.cell q2
        have q3' := hgr.cell q3
        have q4' := hgr.cell q4
        have q5' := hgr.cell q5
        have hg1 := hg.trans hgr
        clear q2 q3 q4 q5 hgr hg
        go_wp2
        go_loopg [3, 41] m.programs.length (fun g r i wr2 => ∃ (k : Nat) (B2 : Bool), g + k = m.programs.length ∧ i = .int .i64 k ∧ r = .bool B2 ∧ Gr wr wr2 ∧ B2 = (B && (m.programs.take k).all progB))
        case atStart => exact ⟨0, _, by omega, rfl, rfl, Gr.refl _, by simp⟩
        case round =>
          clear hlt hk
          obtain ⟨k, B2, hk, rfl, rfl, hgr, hB⟩ := hrel
          have HB := Lib.hid hB; clear hB
          by_cases hlt : k < m.programs.length
          · obtain ⟨b, o, rfl, v, hv0, hv⟩ := HP.out k m.programs[k] (by simp [hlt])
            have hv1 := (hg1.trans hgr).cell hv0
            rw [Nat.mul_one] at hv1
            have hv2 := Lib.hid (hv.gr InsAt.gr (hg1.trans hgr))
            clear hv0 hv
            cases B2
            all_goals go_wp2_with (go_at_call 81; refine (program_any _ _ _ hv2.out).mono ?_; rintro e w' ⟨rfl, hg'⟩)
            · go_roundg (gk - 1)
              case measure => omega
              case rel => exact ⟨k + 1, _, by omega, by go_num, rfl, hgr, by rw [all_succ _ _ k m.programs[k] (by simp [hlt])]; have := HB.out; grind⟩
            · go_roundg (gk - 1)
              case measure => omega
              case rel => exact ⟨k + 1, _, by omega, by go_num, rfl, hgr.trans hg', by rw [all_succ _ _ k m.programs[k] (by simp [hlt])]; have := HB.out; grind⟩
          · have hB := HB.out
            rw [all_end _ _ k (by omega)] at hB
            have HB2 := Lib.hid hB
            clear hB HB
            have r3 := hgr.cell q3'
            have r4 := hgr.cell q4'
            have r5 := hgr.cell q5'
            have hg2 := hg1.trans hgr
            clear q2' q3' q4' q5' hgr hg1
            go_wp2
            go_loopg [3, 54] m.lps.length (fun g r i wr3 => ∃ (k : Nat) (B3 : Bool), g + k = m.lps.length ∧ i = .int .i64 k ∧ r = .bool B3 ∧ Gr wr wr3 ∧ B3 = (B2 && (m.lps.take k).all (lpB m.programs.length)))
            case atStart => exact ⟨0, _, by omega, rfl, rfl, Gr.refl _, by simp⟩
            case round =>
              clear hlt hk
              obtain ⟨k, B3, hk, rfl, rfl, hgr, hB⟩ := hrel
              have HB := Lib.hid hB; clear hB
              by_cases hlt : k < m.lps.length
              · obtain ⟨b, o, rfl, hv0, v, hv1, a', c', rfl, hac, hcm, -⟩ := HL.out k m.lps[k] (by simp [hlt])
                have p0 := (hg2.trans hgr).cell hv0
                have p1 := (hg2.trans hgr).cell hv1
                have p3 := hgr.cell r3
                have hsz := lt_of_cell p3
                simp only [] at hsz
                unfold maxLen at hcm
                clear hv0 hv1
                cases B3
                all_goals go_wp2_with (go_at_call 82; refine (within_any _ _ _ _).mono ?_; rintro e w' ⟨rfl, rfl⟩)
                all_goals
                  go_roundg (gk - 1)
                  case measure => omega
                  case rel => exact ⟨k + 1, _, by omega, by go_num, rfl, hgr.alloc _, by rw [all_succ _ _ k m.lps[k] (by simp [hlt])]; have := HB.out; grind [lpB, withinB]⟩
              · have hB := HB.out
                rw [all_end _ _ k (by omega)] at hB
                have HB3 := Lib.hid hB
                clear hB HB
                have r4' := hgr.cell r4
                have r5' := hgr.cell r5
                have hg3 := hg2.trans hgr
                clear r3 r4 r5 hgr hg2
                go_wp2
                go_loopg [3, 78] m.init.length (fun g r i wr4 => ∃ (k : Nat) (B4 : Bool), g + k = m.init.length ∧ i = .int .i64 k ∧ r = .bool B4 ∧ Gr wr wr4 ∧ B4 = (B3 && (m.init.take k).all (initB m.lps.length)))
                case atStart => exact ⟨0, _, by omega, rfl, rfl, Gr.refl _, by simp⟩
                case round =>
                  clear hlt hk
                  obtain ⟨k, B4, hk, rfl, rfl, hgr, hB⟩ := hrel
                  have HB := Lib.hid hB; clear hB
                  by_cases hlt : k < m.init.length
                  · obtain ⟨b, o, rfl, hv0, hv1, hv2⟩ := HI.out k m.init[k] (by simp [hlt])
                    have p0 := (hg3.trans hgr).cell hv0
                    have p1 := (hg3.trans hgr).cell hv1
                    have p2 := (hg3.trans hgr).cell hv2
                    have p4 := hgr.cell r4'
                    have hsz := lt_of_cell p4
                    simp only [] at hsz
                    clear hv0 hv1 hv2
                    cases B4
                    all_goals go_wp2_with (first | (go_at_call 82; refine (within_any _ _ _ _).mono ?_; rintro e w' ⟨rfl, rfl⟩) | (go_at_call 80; refine (isnan_any _ _).mono ?_; rintro e w' ⟨rfl, rfl⟩))
                    all_goals
                      go_roundg (gk - 1)
                      case measure => omega
                      case rel => exact ⟨k + 1, _, by omega, by go_num, rfl, hgr.alloc _, by rw [all_succ _ _ k m.init[k] (by simp [hlt])]; have := HB.out; grind [initB, withinB]⟩
                  · have hB := HB.out
                    rw [all_end _ _ k (by omega)] at hB
                    have HB4 := Lib.hid hB
                    clear hB HB
                    have hg4 := hg3.trans hgr
                    cases B4
                    all_goals go_wp2
                    all_goals
                      go_ret
                      exact ⟨ret_int (by have b1 := HB1.out; have b2 := HB2.out; have b3 := HB3.out; have b4 := HB4.out; subst b1; subst b2; subst b3; rw [checkE, checkB]; grind), hg4⟩
end Go.Proofs.Ytkoopobfelcgpaa
end -- A6

section -- A7
/- layer 5: the reference's Check -/
namespace Go.Proofs.Ytkoopobfelcgpaa
open Go.RowKit

theorem Gr.drewN {a b : World} (h : Gr a b) (n : Nat) : Gr a (b.drewN n) := ⟨h.os, h.tape, h.output, h.size, h.block⟩

theorem order_self (f : Ieee.Format) (x y : Nat) (o : Ordering) (h : f.order x y = some o) : f.order x x = some .eq := by
  unfold Ieee.Format.order at *
  generalize f.read x = a at *
  generalize f.read y = b at *
  cases a with
  | nan => simp [Ieee.Datum.order] at h
  | infinity s => cases s <;> rfl
  | number s m i => simp [Ieee.Datum.order]
theorem fgt_nan (x y : Nat) (h : fgt x y = true) : fnan x = false := by
  have h' : FloatKind.f64.format.order x y = some .gt := by simpa [fgt] using h
  simp [fnan, order_self _ _ _ _ h']
theorem delayB_eq (d : Nat) : delayB d = fgt d 0 := by
  unfold delayB
  cases h : fgt d 0 with
  | false => simp
  | true => simp [fgt_nan _ _ h]
theorem checkE_bad {m : PModel} (h : checkB m = false) : (15 : Int) = checkE m := by simp [checkE, h]
theorem checkE_ok {m : PModel} (h : checkB m = true) : (0 : Int) = checkE m := by simp [checkE, h]
theorem checkB_counts {m : PModel} (h : (countsB m && !fnan m.fin) = false) : checkB m = false := by rw [checkB, h]; rfl
theorem checkB_delays {m : PModel} (h : m.delays.all delayB = false) : checkB m = false := by rw [checkB, h]; simp
theorem checkB_programs {m : PModel} (h : m.programs.all progB = false) : checkB m = false := by rw [checkB, h]; simp
theorem checkB_lps {m : PModel} (h : m.lps.all (lpB m.programs.length) = false) : checkB m = false := by rw [checkB, h]; simp
theorem checkB_init {m : PModel} (h : m.init.all (initB m.lps.length) = false) : checkB m = false := by rw [checkB, h]; simp

set_option maxHeartbeats 8000000 in
set_option maxRecDepth 100000 in
theorem RCheck_any (m : PModel) (vd vp vl vi : Value) (w : World) (h : ModelAt w vd vp vl vi m) :
    Calls Try.prog 32 #[.agg #[.int .i64 m.seed, .float .f64 m.fin, vd, vp, vl, vi]] w fun e w' => e = .returned (.int .i64 (checkE m)) ∧ Gr w w' := by
  obtain ⟨ad, cd, rfl, hdc, hdm, -, hd⟩ := h.delays
  obtain ⟨ap, cp, rfl, hpc, hpm, -, hp⟩ := h.programs
  obtain ⟨al, cl, rfl, hlc, hlm, -, hl⟩ := h.lps
  obtain ⟨ai, ci, rfl, hic, him, -, hi⟩ := h.init
  clear h
  unfold maxLen at hpm hlm hdm him
  have HD := Lib.hid hd; clear hd
  have HP := Lib.hid hp; clear hp
  have HL := Lib.hid hl; clear hl
  have HI := Lib.hid hi; clear hi
  have hnan := fnan_eq
  go_enter Try.func32, Try.ntmps32
  by_cases hcn : (countsB m && !fnan m.fin) = true
  case neg =>
    have HCN := Lib.hid hcn
    clear hcn
    go_wp2
    all_goals (first
      | (clear hnan; go_ret; exact ⟨ret_int (checkE_bad (checkB_counts (by simpa using HCN.out))), (Gr.refl _).alloc _⟩)
      | (exfalso; clear hnan; have := HCN.out; grind [countsB, fnan]))
  have c1 : (1 : Int) ≤ m.lps.length := by grind [countsB]
  have c2 : (m.lps.length : Int) ≤ 6 := by grind [countsB]
  have c3 : (1 : Int) ≤ m.programs.length := by grind [countsB]
  have c4 : (m.programs.length : Int) ≤ 4 := by grind [countsB]
  have c5 : (1 : Int) ≤ m.delays.length := by grind [countsB]
  have c6 : (m.delays.length : Int) ≤ 8 := by grind [countsB]
  have c7 : (m.init.length : Int) ≤ 16 := by grind [countsB]
  have c8 : fnan m.fin = false := by grind
  have HC := Lib.hid hcn
  clear hcn
  go_wp2
  clear c1 c2 c3 c4 c5 c6 c7 c8 hnan
  generalize hW : w.alloc _ = W
  have hWg : Gr (w.alloc (.cells #[.int .i64 m.seed, .float .f64 m.fin, .slice ad m.delays.length cd, .slice ap m.programs.length cp, .slice al m.lps.length cl, .slice ai m.init.length ci] 28)) W := by rw [hW]; exact Gr.refl _
  clear hW
  obtain ⟨hg, hs, q0, q1, q2, q3, q4, q5⟩ := box6 hWg
  clear hWg q0 q1
  go_loopg [3] m.delays.length (fun g i wr => ∃ (k : Nat), g + k = m.delays.length ∧ i = .int .i64 k ∧ Gr W wr ∧ (m.delays.take k).all delayB = true)
  case atStart => exact ⟨0, by omega, rfl, Gr.refl _, by simp⟩
  case round =>
    obtain ⟨k, hk, rfl, hgr, hB⟩ := hrel
    have HB := Lib.hid hB; clear hB
    have r2 := hgr.cell q2
    by_cases hlt : k < m.delays.length
    · obtain ⟨b, o, rfl, hR⟩ := HD.out k m.delays[k] (by simp [hlt])
      have hv : wr.cell? ⟨b, o + k * 1, none⟩ = some (.float .f64 m.delays[k]) := (hg.trans hgr).cell hR
      rw [Nat.mul_one] at hv
      clear hR
      go_wp2
      · have hb : delayB m.delays[k] = false := by rw [delayB_eq]; grind [fgt]
        go_ret
        exact ⟨ret_int (checkE_bad (checkB_delays (all_false _ _ k m.delays[k] (by simp [hlt]) hb))), hg.trans hgr⟩
      · have hb : delayB m.delays[k] = true := by rw [delayB_eq]; grind [fgt]
        go_roundg (gk - 1)
        case measure => omega
        case rel => exact ⟨k + 1, by omega, by go_num, hgr, all_take_succ _ _ k m.delays[k] (by simp [hlt]) HB.out hb⟩
    · have HB1 := Lib.hid (all_whole _ _ k (by omega) HB.out)
      clear HB
      have q3' := hgr.cell q3
      have q4' := hgr.cell q4
      have q5' := hgr.cell q5
      have hg1 := hg.trans hgr
      go_wp2
      clear q2 q3 q4 q5 hgr hg r2
      go_loopg [4] m.programs.length (fun g i wr2 => ∃ (k : Nat), g + k = m.programs.length ∧ i = .int .i64 k ∧ Gr wr wr2 ∧ (m.programs.take k).all progB = true)
      case atStart => exact ⟨0, by omega, rfl, Gr.refl _, by simp⟩
      case round =>
        clear hlt hk
        obtain ⟨k, hk, rfl, hgr, hB⟩ := hrel
        have HB := Lib.hid hB; clear hB
        have r3 := hgr.cell q3'
        by_cases hlt : k < m.programs.length
        · obtain ⟨b, o, rfl, v, hv0, hv⟩ := HP.out k m.programs[k] (by simp [hlt])
          have hv1 := (hg1.trans hgr).cell hv0
          rw [Nat.mul_one] at hv1
          have hv2 := Lib.hid (hv.gr InsAt.gr (hg1.trans hgr))
          clear hv0 hv
          go_wp2_with (go_at_call 83; refine (Rprogram_any _ _ _ hv2.out).mono ?_; rintro e w' ⟨rfl, hg'⟩)
          · have hb : progB m.programs[k] = false := by grind
            go_ret
            exact ⟨ret_int (checkE_bad (checkB_programs (all_false _ _ k m.programs[k] (by simp [hlt]) hb))), (hg1.trans hgr).trans hg'⟩
          · have hb : progB m.programs[k] = true := by grind
            go_roundg (gk - 1)
            case measure => omega
            case rel => exact ⟨k + 1, by omega, by go_num, hgr.trans hg', all_take_succ _ _ k m.programs[k] (by simp [hlt]) HB.out hb⟩
        · have HB2 := Lib.hid (all_whole _ _ k (by omega) HB.out)
          clear HB
          have r4 := hgr.cell q4'
          have r5 := hgr.cell q5'
          have r3' := Lib.hid r3
          have hg2 := hg1.trans hgr
          go_wp2
          clear q3' q4' q5' hgr hg1 r3
          go_loopg [5] m.lps.length (fun g i wr3 => ∃ (k : Nat), g + k = m.lps.length ∧ i = .int .i64 k ∧ Gr wr wr3 ∧ (m.lps.take k).all (lpB m.programs.length) = true)
          case atStart => exact ⟨0, by omega, rfl, Gr.refl _, by simp⟩
          case round =>
            clear hlt hk
            obtain ⟨k, hk, rfl, hgr, hB⟩ := hrel
            have HB := Lib.hid hB; clear hB
            have s4 := hgr.cell r4
            have s3 := hgr.cell r3'.out
            by_cases hlt : k < m.lps.length
            · obtain ⟨b, o, rfl, hv0, v, hv1, a', c', rfl, hac, hcm, -⟩ := HL.out k m.lps[k] (by simp [hlt])
              have p0 := (hg2.trans hgr).cell hv0
              have p1 := (hg2.trans hgr).cell hv1
              unfold maxLen at hcm
              clear hv0 hv1
              have hk0 : (0 : Int) ≤ (k : Int) := by omega
              have hk1 : (k : Int) < (m.lps.length : Int) := by omega
              by_cases c1 : m.lps[k].prog < 0
              · have d1 : decide (m.lps[k].prog < 0) = true := by simpa using c1
                have hb : lpB m.programs.length m.lps[k] = false := by grind [lpB]
                go_wp2_with fail
                go_quiet (fail)
                go_wp2
                go_ret
                exact ⟨ret_int (checkE_bad (checkB_lps (all_false _ _ k m.lps[k] (by simp [hlt]) hb))), (hg2.trans hgr).drewN _⟩
              have d1 : decide (m.lps[k].prog < 0) = false := by simpa using c1
              by_cases c2 : (m.programs.length : Int) ≤ m.lps[k].prog
              · have d2 : decide ((m.programs.length : Int) ≤ m.lps[k].prog) = true := by simpa using c2
                have hb : lpB m.programs.length m.lps[k] = false := by grind [lpB]
                go_wp2_with fail
                go_quiet (fail)
                go_wp2
                go_ret
                exact ⟨ret_int (checkE_bad (checkB_lps (all_false _ _ k m.lps[k] (by simp [hlt]) hb))), (hg2.trans hgr).drewN _⟩
              have d2 : decide ((m.programs.length : Int) ≤ m.lps[k].prog) = false := by simpa using c2
              by_cases c3 : (8 : Int) < m.lps[k].words.length
              · have d3 : decide ((8 : Int) < m.lps[k].words.length) = true := by simpa using c3
                have hb : lpB m.programs.length m.lps[k] = false := by grind [lpB]
                go_wp2_with fail
                go_quiet (fail)
                go_wp2
                go_ret
                exact ⟨ret_int (checkE_bad (checkB_lps (all_false _ _ k m.lps[k] (by simp [hlt]) hb))), (hg2.trans hgr).drewN _⟩
              have d3 : decide ((8 : Int) < m.lps[k].words.length) = false := by simpa using c3
              have hb : lpB m.programs.length m.lps[k] = true := by grind [lpB]
              have HBB := Lib.hid hb; clear hb
              go_wp2_with fail
              go_quiet (fail)
              go_wp2
              go_roundg (gk - 1)
              case measure => omega
              case rel => exact ⟨k + 1, by omega, by go_num, hgr.drewN _, all_take_succ _ _ k m.lps[k] (by simp [hlt]) HB.out HBB.out⟩
            · have HB3 := Lib.hid (all_whole _ _ k (by omega) HB.out)
              clear HB
              have t4 := Lib.hid s4
              have t5 := hgr.cell r5
              have hg3 := hg2.trans hgr
              go_wp2
              clear r4 r5 hgr hg2 s3 s4 r3'
              go_loopg [6] m.init.length (fun g i wr4 => ∃ (k : Nat), g + k = m.init.length ∧ i = .int .i64 k ∧ Gr wr wr4 ∧ (m.init.take k).all (initB m.lps.length) = true)
              case atStart => exact ⟨0, by omega, rfl, Gr.refl _, by simp⟩
              case round =>
                clear hlt hk
                obtain ⟨k, hk, rfl, hgr, hB⟩ := hrel
                have HB := Lib.hid hB; clear hB
                have s5 := hgr.cell t5
                by_cases hlt : k < m.init.length
                · obtain ⟨b, o, rfl, hv0, hv1, hv2⟩ := HI.out k m.init[k] (by simp [hlt])
                  have p0 := (hg3.trans hgr).cell hv0
                  have p1 := (hg3.trans hgr).cell hv1
                  have p2 := (hg3.trans hgr).cell hv2
                  have p4 := hgr.cell t4.out
                  have hsz := lt_of_cell p4
                  simp only [] at hsz
                  clear hv0 hv1 hv2
                  have hnan := fnan_eq
                  go_wp2
                  all_goals clear hnan
                  all_goals (first
                    | (have hb : initB m.lps.length m.init[k] = false := by grind [initB, fnan]
                       go_ret
                       exact ⟨ret_int (checkE_bad (checkB_init (all_false _ _ k m.init[k] (by simp [hlt]) hb))), (hg3.trans hgr).alloc _⟩)
                    | (have hb : initB m.lps.length m.init[k] = true := by grind [initB, fnan]
                       go_roundg (gk - 1)
                       case measure => omega
                       case rel => exact ⟨k + 1, by omega, by go_num, hgr.alloc _, all_take_succ _ _ k m.init[k] (by simp [hlt]) HB.out hb⟩))
                · have HB4 := Lib.hid (all_whole _ _ k (by omega) HB.out)
                  clear HB
                  go_wp2
                  go_ret
                  exact ⟨ret_int (checkE_ok (by rw [checkB, HC.out, HB1.out, HB2.out, HB3.out, HB4.out]; rfl)), hg3.trans hgr⟩
end Go.Proofs.Ytkoopobfelcgpaa
end -- A7

section -- A8
/- layer 5: lists held against each other -/
namespace Go.Proofs.Ytkoopobfelcgpaa
open Go.RowKit

def eqL {α : Type} (p : α → α → Bool) (l r : List α) : Bool := decide (l.length = r.length) && (l.zip r).all (fun q => p q.1 q.2)
def intEq (a b : Int) : Bool := decide (a = b)
def insEq (a b : PIns) : Bool := decide (a = b)
def lpSame (a b : PLP) : Bool := decide (a.prog = b.prog) && eqL intEq a.words b.words
def initSame (a b : PInit) : Bool := fsame a.t b.t && (decide (a.dst = b.dst) && decide (a.pay = b.pay))
def sameB (a b : PModel) : Bool := decide (a.seed = b.seed) && (fsame a.fin b.fin && (eqL fsame a.delays b.delays && (eqL initSame a.init b.init && (eqL (eqL insEq) a.programs b.programs && eqL lpSame a.lps b.lps))))

theorem eqL_len {α : Type} (p : α → α → Bool) (l r : List α) (h : l.length ≠ r.length) : eqL p l r = false := by simp [eqL, h]
theorem eqL_at {α : Type} (p : α → α → Bool) (l r : List α) (k : Nat) (x y : α) (hx : l[k]? = some x) (hy : r[k]? = some y) (h : p x y = false) : eqL p l r = false := by
  rw [eqL, all_false (fun q : α × α => p q.1 q.2) (l.zip r) k (x, y) (by rw [List.getElem?_zip_eq_some]; exact ⟨hx, hy⟩) h]; simp
theorem eqL_step {α : Type} (p : α → α → Bool) (l r : List α) (k : Nat) (x y : α) (hx : l[k]? = some x) (hy : r[k]? = some y) (h1 : ((l.zip r).take k).all (fun q => p q.1 q.2) = true) (h : p x y = true) :
    ((l.zip r).take (k + 1)).all (fun q => p q.1 q.2) = true :=
  all_take_succ _ _ k (x, y) (by rw [List.getElem?_zip_eq_some]; exact ⟨hx, hy⟩) h1 h
theorem eqL_end {α : Type} (p : α → α → Bool) (l r : List α) (k : Nat) (hl : l.length = r.length) (hk : l.length ≤ k) (h1 : ((l.zip r).take k).all (fun q => p q.1 q.2) = true) : eqL p l r = true := by
  rw [eqL, all_whole _ _ k (by simp; omega) h1]; simp [hl]

theorem float_any2 (x y : Nat) (w : World) : Calls Try.prog 86 #[.float .f64 x, .float .f64 y] w fun e w' => e = .returned (.bool (fsame x y)) ∧ Gr w w' :=
  (float_any x y w).mono fun _ _ ⟨h1, h2⟩ => ⟨h1, h2 ▸ Gr.refl _⟩

set_option maxHeartbeats 2000000 in
theorem EqualFloats_any (l r : List Nat) (v u : Value) (w : World) (h : Sl 1 FloatAt w v l) (h' : Sl 1 FloatAt w u r) :
    Calls Try.prog 87 #[v, u, .func (.func 86) #[] #[]] w fun e w' => e = .returned (.bool (eqL fsame l r)) ∧ Gr w w' := by
  obtain ⟨a, cap, rfl, hlc, hcm, -, hel⟩ := h
  obtain ⟨a', cap', rfl, hlc', hcm', -, hel'⟩ := h'
  unfold maxLen at hcm hcm'
  have H := Lib.hid hel; clear hel
  have H' := Lib.hid hel'; clear hel'
  by_cases hn : l.length = r.length
  case neg =>
    have hn1 : ((l.length : Int) != r.length) = true := by rw [bne_iff_ne]; omega
    have hn2 := Lib.hid (eqL_len fsame l r hn)
    clear hn
    go_enter Try.func87, Try.ntmps87
    go_wp2
    go_ret
    exact ⟨ret_bool hn2.out.symm, Gr.refl _⟩
  have hn1 : ((l.length : Int) != r.length) = false := by rw [bne_eq_false_iff_eq]; omega
  have HN := Lib.hid hn
  have hle : r.length ≤ l.length := by omega
  clear hn
  go_enter Try.func87, Try.ntmps87
  go_wp2
  clear hn1
  go_loopg [17] l.length (fun g i wr => ∃ k : Nat, g + k = l.length ∧ i = .int .i64 k ∧ ((l.zip r).take k).all (fun q => fsame q.1 q.2) = true ∧ Gr w wr)
  case atStart => exact ⟨0, by omega, rfl, by simp, Gr.refl _⟩
  case round =>
    obtain ⟨k, hk, rfl, hall, hg⟩ := hrel
    have HA := Lib.hid hall; clear hall
    by_cases hlt : k < l.length
    · have hlt' : k < r.length := by have := HN.out; omega
      obtain ⟨b, o, rfl, hR⟩ := H.out k l[k] (by simp [hlt])
      obtain ⟨b', o', rfl, hR'⟩ := H'.out k r[k] (by simp [hlt'])
      have p0 := hg.cell hR
      have p0' := hg.cell hR'
      rw [Nat.mul_one] at p0 p0'
      clear hR hR'
      go_wp2_with (go_at_call 86; refine (float_any2 _ _ _).mono ?_; rintro e w' ⟨rfl, hg'⟩)
      · have hb : fsame l[k] r[k] = false := by grind
        go_ret
        exact ⟨ret_bool (eqL_at _ _ _ k l[k] r[k] (by simp [hlt]) (by simp [hlt']) hb).symm, hg.trans hg'⟩
      · have hb : fsame l[k] r[k] = true := by grind
        go_roundg (gk - 1)
        case measure => omega
        case rel => exact ⟨k + 1, by omega, by go_num, eqL_step _ _ _ k l[k] r[k] (by simp [hlt]) (by simp [hlt']) HA.out hb, hg.trans hg'⟩
    · go_wp2
      go_ret
      exact ⟨ret_bool (eqL_end _ _ _ k HN.out (by omega) HA.out).symm, hg⟩
end Go.Proofs.Ytkoopobfelcgpaa
end -- A8

section -- A9
/- layer 5: lists held against each other: instructions, events at first, processes -/
namespace Go.Proofs.Ytkoopobfelcgpaa
open Go.RowKit

theorem sameInit_any (x y : PInit) (w : World) : Calls Try.prog 89 #[.agg #[.float .f64 x.t, .int .i64 x.dst, .int .i64 x.pay], .agg #[.float .f64 y.t, .int .i64 y.dst, .int .i64 y.pay]] w
    fun e w' => e = .returned (.bool (initSame x y)) ∧ Gr w w' := by
  go_enter Try.func89, Try.ntmps89
  go_wp2_with (go_at_call 86; refine (float_any _ _ _).mono ?_; rintro e w' ⟨rfl, rfl⟩)
  all_goals (go_ret; exact ⟨ret_bool (by grind [initSame]), ((Gr.refl _).alloc _).alloc _⟩)

theorem run_neq_ins (x y : PIns) (w : World) : (binOp .neq 34 (.agg #[.int .i64 x.op, .int .i64 x.a, .int .i64 x.b, .int .i64 x.c]) (.agg #[.int .i64 y.op, .int .i64 y.a, .int .i64 y.b, .int .i64 y.c])).run Try.prog w = .ok (.bool (!insEq x y)) w := by
  rw [run_neq_struct]
  go_simp
  have e : insEq x y = decide (x.op = y.op ∧ x.a = y.a ∧ x.b = y.b ∧ x.c = y.c) := by
    cases x; cases y; simp [insEq]
  rw [e]
  split <;> (try split) <;> (try split) <;> (try split) <;> simp_all

set_option maxHeartbeats 2000000 in
theorem EqualInts_any (l r : List Int) (v u : Value) (w : World) (h : Sl 1 IntAt w v l) (h' : Sl 1 IntAt w u r) :
    Calls Try.prog 139 #[v, u] w fun e w' => e = .returned (.bool (eqL intEq l r)) ∧ Gr w w' := by
  obtain ⟨a, cap, rfl, hlc, hcm, -, hel⟩ := h
  obtain ⟨a', cap', rfl, hlc', hcm', -, hel'⟩ := h'
  unfold maxLen at hcm hcm'
  have H := Lib.hid hel; clear hel
  have H' := Lib.hid hel'; clear hel'
  by_cases hn : l.length = r.length
  case neg =>
    have hn1 : ((l.length : Int) != r.length) = true := by rw [bne_iff_ne]; omega
    have hn2 := Lib.hid (eqL_len intEq l r hn)
    clear hn
    go_enter Try.func139, Try.ntmps139
    go_wp2
    go_ret
    exact ⟨ret_bool hn2.out.symm, Gr.refl _⟩
  have hn1 : ((l.length : Int) != r.length) = false := by rw [bne_eq_false_iff_eq]; omega
  have HN := Lib.hid hn
  have hle : r.length ≤ l.length := by omega
  clear hn
  go_enter Try.func139, Try.ntmps139
  go_wp2
  clear hn1
  go_loopg [13] l.length (fun g i wr => ∃ k : Nat, g + k = l.length ∧ i = .int .i64 k ∧ ((l.zip r).take k).all (fun q => intEq q.1 q.2) = true ∧ Gr w wr)
  case atStart => exact ⟨0, by omega, rfl, by simp, Gr.refl _⟩
  case round =>
    obtain ⟨k, hk, rfl, hall, hg⟩ := hrel
    have HA := Lib.hid hall; clear hall
    by_cases hlt : k < l.length
    · have hlt' : k < r.length := by have := HN.out; omega
      obtain ⟨b, o, rfl, hR⟩ := H.out k l[k] (by simp [hlt])
      obtain ⟨b', o', rfl, hR'⟩ := H'.out k r[k] (by simp [hlt'])
      have p0 := hg.cell hR
      have p0' := hg.cell hR'
      rw [Nat.mul_one] at p0 p0'
      clear hR hR'
      have hk0 : (0 : Int) ≤ (k : Int) := by omega
      have hk1 : (k : Int) < (l.length : Int) := by omega
      have hk2 : (k : Int) < (r.length : Int) := by omega
      go_wp2
      go_quiet (fail)
      go_wp2
      all_goals (try clear hneq)
      · have hb : intEq l[k] r[k] = false := by grind [intEq]
        go_ret
        exact ⟨ret_bool (eqL_at _ _ _ k l[k] r[k] (by simp [hlt]) (by simp [hlt']) hb).symm, hg.drewN _⟩
      · have hb : intEq l[k] r[k] = true := by grind [intEq]
        go_roundg (gk - 1)
        case measure => omega
        case rel => exact ⟨k + 1, by omega, by go_num, eqL_step _ _ _ k l[k] r[k] (by simp [hlt]) (by simp [hlt']) HA.out hb, hg.drewN _⟩
    · go_wp2
      go_ret
      exact ⟨ret_bool (eqL_end _ _ _ k HN.out (by omega) HA.out).symm, hg⟩

set_option maxHeartbeats 2000000 in
theorem EqualIns_any (l r : List PIns) (v u : Value) (w : World) (h : Sl 4 InsAt w v l) (h' : Sl 4 InsAt w u r) :
    Calls Try.prog 91 #[v, u] w fun e w' => e = .returned (.bool (eqL insEq l r)) ∧ Gr w w' := by
  obtain ⟨a, cap, rfl, hlc, hcm, -, hel⟩ := h
  obtain ⟨a', cap', rfl, hlc', hcm', -, hel'⟩ := h'
  unfold maxLen at hcm hcm'
  have H := Lib.hid hel; clear hel
  have H' := Lib.hid hel'; clear hel'
  by_cases hn : l.length = r.length
  case neg =>
    have hn1 : ((l.length : Int) != r.length) = true := by rw [bne_iff_ne]; omega
    have hn2 := Lib.hid (eqL_len insEq l r hn)
    clear hn
    go_enter Try.func91, Try.ntmps91
    go_wp2
    go_ret
    exact ⟨ret_bool hn2.out.symm, Gr.refl _⟩
  have hn1 : ((l.length : Int) != r.length) = false := by rw [bne_eq_false_iff_eq]; omega
  have HN := Lib.hid hn
  have hle : r.length ≤ l.length := by omega
  clear hn
  go_enter Try.func91, Try.ntmps91
  go_wp2
  clear hn1
  go_loopg [13] l.length (fun g i wr => ∃ k : Nat, g + k = l.length ∧ i = .int .i64 k ∧ ((l.zip r).take k).all (fun q => insEq q.1 q.2) = true ∧ Gr w wr)
  case atStart => exact ⟨0, by omega, rfl, by simp, Gr.refl _⟩
  case round =>
    obtain ⟨k, hk, rfl, hall, hg⟩ := hrel
    have HA := Lib.hid hall; clear hall
    by_cases hlt : k < l.length
    · have hlt' : k < r.length := by have := HN.out; omega
      obtain ⟨b, o, rfl, hR⟩ := H.out k l[k] (by simp [hlt])
      obtain ⟨b', o', rfl, hR'⟩ := H'.out k r[k] (by simp [hlt'])
      obtain ⟨p0, p1, p2, p3⟩ := InsAt.gr _ _ _ _ _ hg hR
      obtain ⟨p0', p1', p2', p3'⟩ := InsAt.gr _ _ _ _ _ hg hR'
      clear hR hR'
      have hneq := run_neq_ins
      have hk0 : (0 : Int) ≤ (k : Int) := by omega
      have hk1 : (k : Int) < (l.length : Int) := by omega
      have hk2 : (k : Int) < (r.length : Int) := by omega
      go_wp2
      go_quiet (fail)
      go_wp2
      all_goals (try clear hneq)
      · have hb : insEq l[k] r[k] = false := by grind
        go_ret
        exact ⟨ret_bool (eqL_at _ _ _ k l[k] r[k] (by simp [hlt]) (by simp [hlt']) hb).symm, hg.drewN _⟩
      · have hb : insEq l[k] r[k] = true := by grind
        go_roundg (gk - 1)
        case measure => omega
        case rel => exact ⟨k + 1, by omega, by go_num, eqL_step _ _ _ k l[k] r[k] (by simp [hlt]) (by simp [hlt']) HA.out hb, hg.drewN _⟩
    · go_wp2
      go_ret
      exact ⟨ret_bool (eqL_end _ _ _ k HN.out (by omega) HA.out).symm, hg⟩
end Go.Proofs.Ytkoopobfelcgpaa
end -- A9

section -- A10
/- layer 5: model.Same -/
namespace Go.Proofs.Ytkoopobfelcgpaa
open Go.RowKit

theorem sameLP_any (x y : PLP) (v u : Value) (w : World) (h : Sl 1 IntAt w v x.words) (h' : Sl 1 IntAt w u y.words) :
    Calls Try.prog 93 #[.agg #[.int .i64 x.prog, v], .agg #[.int .i64 y.prog, u]] w fun e w' => e = .returned (.bool (lpSame x y)) ∧ Gr w w' := by
  have q := Lib.hid h
  have q' := Lib.hid h'
  obtain ⟨a, cap, rfl, -⟩ := h
  obtain ⟨a', cap', rfl, -⟩ := h'
  go_enter Try.func93, Try.ntmps93
  go_wp2_with (go_at_call 139; refine (EqualInts_any x.words y.words _ _ _ (by exact q.out.gr IntAt.gr (((Gr.refl _).alloc _).alloc _)) (by exact q'.out.gr IntAt.gr (((Gr.refl _).alloc _).alloc _))).mono ?_; rintro e w' ⟨rfl, hg'⟩)
  · go_ret; exact ⟨ret_bool (by grind [lpSame]), (((Gr.refl _).alloc _).alloc _).trans hg'⟩
  · go_ret; exact ⟨ret_bool (by grind [lpSame]), ((Gr.refl _).alloc _).alloc _⟩

set_option maxHeartbeats 2000000 in
theorem EqualInits_any (l r : List PInit) (v u : Value) (w : World) (h : Sl 3 InitAt w v l) (h' : Sl 3 InitAt w u r) :
    Calls Try.prog 88 #[v, u, .func (.func 89) #[] #[]] w fun e w' => e = .returned (.bool (eqL initSame l r)) ∧ Gr w w' := by
  obtain ⟨a, cap, rfl, hlc, hcm, -, hel⟩ := h
  obtain ⟨a', cap', rfl, hlc', hcm', -, hel'⟩ := h'
  unfold maxLen at hcm hcm'
  have H := Lib.hid hel; clear hel
  have H' := Lib.hid hel'; clear hel'
  by_cases hn : l.length = r.length
  case neg =>
    have hn1 : ((l.length : Int) != r.length) = true := by rw [bne_iff_ne]; omega
    have hn2 := Lib.hid (eqL_len initSame l r hn)
    clear hn
    go_enter Try.func88, Try.ntmps88
    go_wp2
    go_ret
    exact ⟨ret_bool hn2.out.symm, Gr.refl _⟩
  have hn1 : ((l.length : Int) != r.length) = false := by rw [bne_eq_false_iff_eq]; omega
  have HN := Lib.hid hn
  have hle : r.length ≤ l.length := by omega
  clear hn
  go_enter Try.func88, Try.ntmps88
  go_wp2
  clear hn1
  go_loopg [17] l.length (fun g i wr => ∃ k : Nat, g + k = l.length ∧ i = .int .i64 k ∧ ((l.zip r).take k).all (fun q => initSame q.1 q.2) = true ∧ Gr w wr)
  case atStart => exact ⟨0, by omega, rfl, by simp, Gr.refl _⟩
  case round =>
    obtain ⟨k, hk, rfl, hall, hg⟩ := hrel
    have HA := Lib.hid hall; clear hall
    by_cases hlt : k < l.length
    · have hlt' : k < r.length := by have := HN.out; omega
      obtain ⟨b, o, rfl, hR⟩ := H.out k l[k] (by simp [hlt])
      obtain ⟨b', o', rfl, hR'⟩ := H'.out k r[k] (by simp [hlt'])
      obtain ⟨p0, p1, p2⟩ := InitAt.gr _ _ _ _ _ hg hR
      obtain ⟨p0', p1', p2'⟩ := InitAt.gr _ _ _ _ _ hg hR'
      have hs := lt_of_cell p0
      have hs' := lt_of_cell p0'
      simp only [] at hs hs'
      clear hR hR'
      go_wp2_with (go_at_call 89; refine (sameInit_any l[k] r[k] _).mono ?_; rintro e w' ⟨rfl, hg'⟩)
      · have hb : initSame l[k] r[k] = false := by grind
        go_ret
        exact ⟨ret_bool (eqL_at _ _ _ k l[k] r[k] (by simp [hlt]) (by simp [hlt']) hb).symm, ((hg.alloc _).alloc _).trans hg'⟩
      · have hb : initSame l[k] r[k] = true := by grind
        go_roundg (gk - 1)
        case measure => omega
        case rel => exact ⟨k + 1, by omega, by go_num, eqL_step _ _ _ k l[k] r[k] (by simp [hlt]) (by simp [hlt']) HA.out hb, ((hg.alloc _).alloc _).trans hg'⟩
    · go_wp2
      go_ret
      exact ⟨ret_bool (eqL_end _ _ _ k HN.out (by omega) HA.out).symm, hg⟩

set_option maxHeartbeats 2000000 in
theorem EqualPrograms_any (l r : List (List PIns)) (v u : Value) (w : World) (h : Sl 1 (SlAt 4 InsAt) w v l) (h' : Sl 1 (SlAt 4 InsAt) w u r) :
    Calls Try.prog 90 #[v, u, .func (.func 91) #[] #[]] w fun e w' => e = .returned (.bool (eqL (eqL insEq) l r)) ∧ Gr w w' := by
  obtain ⟨a, cap, rfl, hlc, hcm, -, hel⟩ := h
  obtain ⟨a', cap', rfl, hlc', hcm', -, hel'⟩ := h'
  unfold maxLen at hcm hcm'
  have H := Lib.hid hel; clear hel
  have H' := Lib.hid hel'; clear hel'
  by_cases hn : l.length = r.length
  case neg =>
    have hn1 : ((l.length : Int) != r.length) = true := by rw [bne_iff_ne]; omega
    have hn2 := Lib.hid (eqL_len (eqL insEq) l r hn)
    clear hn
    go_enter Try.func90, Try.ntmps90
    go_wp2
    go_ret
    exact ⟨ret_bool hn2.out.symm, Gr.refl _⟩
  have hn1 : ((l.length : Int) != r.length) = false := by rw [bne_eq_false_iff_eq]; omega
  have HN := Lib.hid hn
  have hle : r.length ≤ l.length := by omega
  clear hn
  go_enter Try.func90, Try.ntmps90
  go_wp2
  clear hn1
  go_loopg [17] l.length (fun g i wr => ∃ k : Nat, g + k = l.length ∧ i = .int .i64 k ∧ ((l.zip r).take k).all (fun q => (eqL insEq) q.1 q.2) = true ∧ Gr w wr)
  case atStart => exact ⟨0, by omega, rfl, by simp, Gr.refl _⟩
  case round =>
    obtain ⟨k, hk, rfl, hall, hg⟩ := hrel
    have HA := Lib.hid hall; clear hall
    by_cases hlt : k < l.length
    · have hlt' : k < r.length := by have := HN.out; omega
      obtain ⟨b, o, rfl, hR⟩ := H.out k l[k] (by simp [hlt])
      obtain ⟨b', o', rfl, hR'⟩ := H'.out k r[k] (by simp [hlt'])
      obtain ⟨x, p0, q0⟩ := SlAt.gr InsAt.gr _ _ _ _ _ hg hR
      obtain ⟨x', p0', q0'⟩ := SlAt.gr InsAt.gr _ _ _ _ _ hg hR'
      rw [Nat.mul_one] at p0 p0'
      have Q := Lib.hid q0
      have Q' := Lib.hid q0'
      clear q0 q0'
      clear hR hR'
      go_wp2_with (go_at_call 91; refine (EqualIns_any _ _ _ _ _ Q.out Q'.out).mono ?_; rintro e w' ⟨rfl, hg'⟩)
      · have hb : (eqL insEq) l[k] r[k] = false := by grind
        go_ret
        exact ⟨ret_bool (eqL_at _ _ _ k l[k] r[k] (by simp [hlt]) (by simp [hlt']) hb).symm, hg.trans hg'⟩
      · have hb : (eqL insEq) l[k] r[k] = true := by grind
        go_roundg (gk - 1)
        case measure => omega
        case rel => exact ⟨k + 1, by omega, by go_num, eqL_step _ _ _ k l[k] r[k] (by simp [hlt]) (by simp [hlt']) HA.out hb, hg.trans hg'⟩
    · go_wp2
      go_ret
      exact ⟨ret_bool (eqL_end _ _ _ k HN.out (by omega) HA.out).symm, hg⟩

set_option maxHeartbeats 2000000 in
theorem EqualLPs_any (l r : List PLP) (v u : Value) (w : World) (h : Sl 2 LPAt w v l) (h' : Sl 2 LPAt w u r) :
    Calls Try.prog 92 #[v, u, .func (.func 93) #[] #[]] w fun e w' => e = .returned (.bool (eqL lpSame l r)) ∧ Gr w w' := by
  obtain ⟨a, cap, rfl, hlc, hcm, -, hel⟩ := h
  obtain ⟨a', cap', rfl, hlc', hcm', -, hel'⟩ := h'
  unfold maxLen at hcm hcm'
  have H := Lib.hid hel; clear hel
  have H' := Lib.hid hel'; clear hel'
  by_cases hn : l.length = r.length
  case neg =>
    have hn1 : ((l.length : Int) != r.length) = true := by rw [bne_iff_ne]; omega
    have hn2 := Lib.hid (eqL_len lpSame l r hn)
    clear hn
    go_enter Try.func92, Try.ntmps92
    go_wp2
    go_ret
    exact ⟨ret_bool hn2.out.symm, Gr.refl _⟩
  have hn1 : ((l.length : Int) != r.length) = false := by rw [bne_eq_false_iff_eq]; omega
  have HN := Lib.hid hn
  have hle : r.length ≤ l.length := by omega
  clear hn
  go_enter Try.func92, Try.ntmps92
  go_wp2
  clear hn1
  go_loopg [17] l.length (fun g i wr => ∃ k : Nat, g + k = l.length ∧ i = .int .i64 k ∧ ((l.zip r).take k).all (fun q => lpSame q.1 q.2) = true ∧ Gr w wr)
  case atStart => exact ⟨0, by omega, rfl, by simp, Gr.refl _⟩
  case round =>
    obtain ⟨k, hk, rfl, hall, hg⟩ := hrel
    have HA := Lib.hid hall; clear hall
    by_cases hlt : k < l.length
    · have hlt' : k < r.length := by have := HN.out; omega
      obtain ⟨b, o, rfl, hR⟩ := H.out k l[k] (by simp [hlt])
      obtain ⟨b', o', rfl, hR'⟩ := H'.out k r[k] (by simp [hlt'])
      obtain ⟨p0, x, p1, q0⟩ := LPAt.gr _ _ _ _ _ hg hR
      obtain ⟨p0', x', p1', q0'⟩ := LPAt.gr _ _ _ _ _ hg hR'
      have Q := Lib.hid q0
      have Q' := Lib.hid q0'
      clear q0 q0'
      have E := Q.out
      have E' := Q'.out
      obtain ⟨a2, c2, rfl, -⟩ := E
      obtain ⟨a2', c2', rfl, -⟩ := E'
      have hs := lt_of_cell p0
      have hs' := lt_of_cell p0'
      simp only [] at hs hs'
      clear hR hR'
      go_wp2_with (go_at_call 93; refine (sameLP_any l[k] r[k] _ _ _ (by exact Q.out.gr IntAt.gr (((Gr.refl _).alloc _).alloc _)) (by exact Q'.out.gr IntAt.gr (((Gr.refl _).alloc _).alloc _))).mono ?_; rintro e w' ⟨rfl, hg'⟩)
      · have hb : lpSame l[k] r[k] = false := by grind
        go_ret
        exact ⟨ret_bool (eqL_at _ _ _ k l[k] r[k] (by simp [hlt]) (by simp [hlt']) hb).symm, ((hg.alloc _).alloc _).trans hg'⟩
      · have hb : lpSame l[k] r[k] = true := by grind
        go_roundg (gk - 1)
        case measure => omega
        case rel => exact ⟨k + 1, by omega, by go_num, eqL_step _ _ _ k l[k] r[k] (by simp [hlt]) (by simp [hlt']) HA.out hb, ((hg.alloc _).alloc _).trans hg'⟩
    · go_wp2
      go_ret
      exact ⟨ret_bool (eqL_end _ _ _ k HN.out (by omega) HA.out).symm, hg⟩
end Go.Proofs.Ytkoopobfelcgpaa
end -- A10

section -- A11
/- layer 5: model.Same as a whole -/
namespace Go.Proofs.Ytkoopobfelcgpaa
open Go.RowKit

/-- Two boxes of six cells, in whatever came of their world. -/
theorem box66 {w W : World} {a0 a1 a2 a3 a4 a5 b0 b1 b2 b3 b4 b5 : Value} {t u : TypeId} (hW : Gr ((w.alloc (.cells #[a0, a1, a2, a3, a4, a5] t)).alloc (.cells #[b0, b1, b2, b3, b4, b5] u)) W) :
    Gr w W ∧ w.heap.size + 1 < W.heap.size ∧ (W.cell? ⟨w.heap.size, 0, none⟩ = some a0 ∧ W.cell? ⟨w.heap.size, 1, none⟩ = some a1 ∧ W.cell? ⟨w.heap.size, 2, none⟩ = some a2 ∧ W.cell? ⟨w.heap.size, 3, none⟩ = some a3 ∧ W.cell? ⟨w.heap.size, 4, none⟩ = some a4 ∧ W.cell? ⟨w.heap.size, 5, none⟩ = some a5) ∧
      (W.cell? ⟨w.heap.size + 1, 0, none⟩ = some b0 ∧ W.cell? ⟨w.heap.size + 1, 1, none⟩ = some b1 ∧ W.cell? ⟨w.heap.size + 1, 2, none⟩ = some b2 ∧ W.cell? ⟨w.heap.size + 1, 3, none⟩ = some b3 ∧ W.cell? ⟨w.heap.size + 1, 4, none⟩ = some b4 ∧ W.cell? ⟨w.heap.size + 1, 5, none⟩ = some b5) :=
  ⟨(((Gr.refl w).alloc _).alloc _).trans hW, Nat.lt_of_lt_of_le (by simp) hW.size, ⟨hW.cell (by simp), hW.cell (by simp), hW.cell (by simp), hW.cell (by simp), hW.cell (by simp), hW.cell (by simp)⟩,
    ⟨hW.cell (by simp), hW.cell (by simp), hW.cell (by simp), hW.cell (by simp), hW.cell (by simp), hW.cell (by simp)⟩⟩

set_option maxHeartbeats 4000000 in
set_option maxRecDepth 100000 in
theorem Same_any (m n : PModel) (vd vp vl vi ud up ul ui : Value) (w : World) (h : ModelAt w vd vp vl vi m) (h' : ModelAt w ud up ul ui n) :
    Calls Try.prog 35 #[.agg #[.int .i64 m.seed, .float .f64 m.fin, vd, vp, vl, vi], .agg #[.int .i64 n.seed, .float .f64 n.fin, ud, up, ul, ui]] w
      fun e w' => e = .returned (.bool (sameB m n)) ∧ Gr w w' := by
  have Q := Lib.hid h
  have Q' := Lib.hid h'
  obtain ⟨ad, cd, rfl, -⟩ := h.delays
  obtain ⟨ap, cp, rfl, -⟩ := h.programs
  obtain ⟨al, cl, rfl, -⟩ := h.lps
  obtain ⟨ai, ci, rfl, -⟩ := h.init
  obtain ⟨ad', cd', rfl, -⟩ := h'.delays
  obtain ⟨ap', cp', rfl, -⟩ := h'.programs
  obtain ⟨al', cl', rfl, -⟩ := h'.lps
  obtain ⟨ai', ci', rfl, -⟩ := h'.init
  clear h h'
  by_cases e1 : m.seed = n.seed
  case neg =>
    have e1' : (m.seed != n.seed) = true := by rw [bne_iff_ne]; exact e1
    have E := Lib.hid e1
    clear e1
    go_enter Try.func35, Try.ntmps35
    go_wp2
    go_ret
    exact ⟨ret_bool (by have := E.out; simp [sameB, this]), ((Gr.refl _).alloc _).alloc _⟩
  have e1' : (m.seed != n.seed) = false := by rw [bne_eq_false_iff_eq]; exact e1
  have E1 := Lib.hid e1
  clear e1
  go_enter Try.func35, Try.ntmps35
  go_wp2_with (first
    | (go_at_call 86; refine (float_any _ _ _).mono ?_; rintro e w' ⟨rfl, rfl⟩)
    | (go_at_call 87; refine (EqualFloats_any _ _ _ _ _ (by exact Q.out.delays.gr FloatAt.gr (((Gr.refl _).alloc _).alloc _)) (by exact Q'.out.delays.gr FloatAt.gr (((Gr.refl _).alloc _).alloc _))).mono ?_
       rintro e W1 ⟨rfl, g1⟩; obtain ⟨k1, s1, ⟨p0, p1, p2, p3, p4, p5⟩, ⟨q0, q1, q2, q3, q4, q5⟩⟩ := box66 g1)
    | (go_at_call 88; refine (EqualInits_any _ _ _ _ _ (by exact Q.out.init.gr InitAt.gr k1) (by exact Q'.out.init.gr InitAt.gr k1)).mono ?_
       rintro e W2 ⟨rfl, g2⟩; clear p0 p1 p2 p3 p4 p5 q0 q1 q2 q3 q4 q5; obtain ⟨k2, s2, ⟨p0, p1, p2, p3, p4, p5⟩, ⟨q0, q1, q2, q3, q4, q5⟩⟩ := box66 (g1.trans g2))
    | (go_at_call 90; refine (EqualPrograms_any _ _ _ _ _ (by exact Q.out.programs.gr (SlAt.gr InsAt.gr) k2) (by exact Q'.out.programs.gr (SlAt.gr InsAt.gr) k2)).mono ?_
       rintro e W3 ⟨rfl, g3⟩; clear p0 p1 p2 p3 p4 p5 q0 q1 q2 q3 q4 q5; obtain ⟨k3, s3, ⟨p0, p1, p2, p3, p4, p5⟩, ⟨q0, q1, q2, q3, q4, q5⟩⟩ := box66 ((g1.trans g2).trans g3))
    | (go_at_call 92; refine (EqualLPs_any _ _ _ _ _ (by exact Q.out.lps.gr LPAt.gr k3) (by exact Q'.out.lps.gr LPAt.gr k3)).mono ?_
       rintro e W4 ⟨rfl, g4⟩; have k4 := k3.trans g4))
  all_goals
    go_ret
    exact ⟨ret_bool (by have := E1.out; grind [sameB]), by first | exact k4 | exact k3 | exact k2 | exact k1 | exact ((Gr.refl _).alloc _).alloc _⟩
end Go.Proofs.Ytkoopobfelcgpaa
end -- A11
