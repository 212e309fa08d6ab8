/- layer 5: instructions -/
import Derived.Test.YtkoopobfelcgpaaA2
namespace Go.Proofs.Ytkoopobfelcgpaa
open Go.RowKit

def letB (x : UInt8) (n len : Int) : Bool := if (x.toNat : Int) = 114 then regB n else if (x.toNat : Int) = 112 then (decide (0 ≤ n) && decide (n ≤ len)) else true

theorem iter_cell {w : World} {s : ByteArray} {k : Nat} {p : Addr} {v : Value} (h : w.cell? p = some v) : (w.iter s k).cell? p = some v := ((Gr.refl w).alloc _).cell h

set_option maxHeartbeats 2000000 in
theorem Ins3_any (op a b c len : Int) (x0 x1 x2 : UInt8) (h0 : x0.toNat < 128) (h1 : x1.toNat < 128) (h2 : x2.toNat < 128) (hs : needsS op = ⟨#[x0, x1, x2]⟩) (w : World) :
    Calls Try.prog 33 #[.agg #[.int .i64 op, .int .i64 a, .int .i64 b, .int .i64 c], .int .i64 len] w
    fun e w' => e = .returned (.bool (letB x0 a len && (letB x1 b len && letB x2 c len))) ∧ Gr w w' := by
  have H := Lib.hid hs; clear hs
  have hsz : (ByteArray.mk #[x0, x1, x2]).size = 3 := rfl
  have n0 : ∀ (o1 o2 : Obj) (ty : TypeId), (Instr.next (.pointer (some ⟨w.heap.size + 1 + 1, 0, none⟩)) true ty).run Try.prog (((w.alloc o1).alloc o2).iter ⟨#[x0, x1, x2]⟩ 0) =
      .ok (.tuple #[.bool true, .int .i64 0, .int .i32 x0.toNat]) (((w.alloc o1).alloc o2).iter ⟨#[x0, x1, x2]⟩ 1) := by
    intro o1 o2 ty
    have := run_next_ascii (P := Try.prog) ((w.alloc o1).alloc o2) ⟨#[x0, x1, x2]⟩ 0 ty (by omega) h0
    simp only [World.size_alloc] at this
    exact this
  have n1 : ∀ (o1 o2 : Obj) (ty : TypeId), (Instr.next (.pointer (some ⟨w.heap.size + 1 + 1, 0, none⟩)) true ty).run Try.prog (((w.alloc o1).alloc o2).iter ⟨#[x0, x1, x2]⟩ 1) =
      .ok (.tuple #[.bool true, .int .i64 1, .int .i32 x1.toNat]) (((w.alloc o1).alloc o2).iter ⟨#[x0, x1, x2]⟩ 2) := by
    intro o1 o2 ty
    have := run_next_ascii (P := Try.prog) ((w.alloc o1).alloc o2) ⟨#[x0, x1, x2]⟩ 1 ty (by omega) h1
    simp only [World.size_alloc] at this
    exact this
  have n2 : ∀ (o1 o2 : Obj) (ty : TypeId), (Instr.next (.pointer (some ⟨w.heap.size + 1 + 1, 0, none⟩)) true ty).run Try.prog (((w.alloc o1).alloc o2).iter ⟨#[x0, x1, x2]⟩ 2) =
      .ok (.tuple #[.bool true, .int .i64 2, .int .i32 x2.toNat]) (((w.alloc o1).alloc o2).iter ⟨#[x0, x1, x2]⟩ 3) := by
    intro o1 o2 ty
    have := run_next_ascii (P := Try.prog) ((w.alloc o1).alloc o2) ⟨#[x0, x1, x2]⟩ 2 ty (by omega) h2
    simp only [World.size_alloc] at this
    exact this
  have n3 : ∀ (o1 o2 : Obj) (ty : TypeId), (Instr.next (.pointer (some ⟨w.heap.size + 1 + 1, 0, none⟩)) true ty).run Try.prog (((w.alloc o1).alloc o2).iter ⟨#[x0, x1, x2]⟩ 3) =
      .ok (.tuple #[.bool false]) (((w.alloc o1).alloc o2).iter ⟨#[x0, x1, x2]⟩ 3) := by
    intro o1 o2 ty
    have := run_next_end (P := Try.prog) ((w.alloc o1).alloc o2) ⟨#[x0, x1, x2]⟩ 3 ty (by omega)
    simp only [World.size_alloc] at this
    exact this
  clear hsz h0 h1 h2
  have c0 : ∀ (o1 : Obj) (k : Nat), (((w.alloc o1).alloc (Obj.cells #[Value.int IntKind.i64 a, Value.int IntKind.i64 b, Value.int IntKind.i64 c] 119)).iter ⟨#[x0, x1, x2]⟩ k).cell? ⟨w.heap.size + 1, 0, none⟩ = some (.int .i64 a) := by
    intro o1 k; exact iter_cell (by simp)
  have c1 : ∀ (o1 : Obj) (k : Nat), (((w.alloc o1).alloc (Obj.cells #[Value.int IntKind.i64 a, Value.int IntKind.i64 b, Value.int IntKind.i64 c] 119)).iter ⟨#[x0, x1, x2]⟩ k).cell? ⟨w.heap.size + 1, 1, none⟩ = some (.int .i64 b) := by
    intro o1 k; exact iter_cell (by simp)
  have c2 : ∀ (o1 : Obj) (k : Nat), (((w.alloc o1).alloc (Obj.cells #[Value.int IntKind.i64 a, Value.int IntKind.i64 b, Value.int IntKind.i64 c] 119)).iter ⟨#[x0, x1, x2]⟩ k).cell? ⟨w.heap.size + 1, 2, none⟩ = some (.int .i64 c) := by
    intro o1 k; exact iter_cell (by simp)
  go_enter Try.func33, Try.ntmps33
  go_wp2_with (go_at_call 84; refine (needs_any _ _).mono ?_; rintro e w' ⟨rfl, rfl⟩)
  rw [H.out]
  go_wp2
  go_loopg [] 4 (fun g wr => ∃ k, g + k = 4 ∧ k ≤ 3 ∧ (0 < k → letB x0 a len = true) ∧ (1 < k → letB x1 b len = true) ∧ (2 < k → letB x2 c len = true) ∧
    wr = ((w.alloc (Obj.cells #[Value.int IntKind.i64 op, Value.int IntKind.i64 a, Value.int IntKind.i64 b, Value.int IntKind.i64 c] 34)).alloc
          (Obj.cells #[Value.int IntKind.i64 a, Value.int IntKind.i64 b, Value.int IntKind.i64 c] 119)).iter ⟨#[x0, x1, x2]⟩ k)
  case atStart => exact ⟨0, rfl, by omega, by omega, by omega, by omega, rfl⟩
  case round =>
    obtain ⟨k, hg, hk, g0, g1, g2, rfl⟩ := hrel
    obtain rfl | rfl | rfl | rfl : k = 0 ∨ k = 1 ∨ k = 2 ∨ k = 3 := by omega
    all_goals go_wp2
    all_goals first
      | (go_ret; exact ⟨ret_bool (by grind [letB, regB]), ((Gr.refl _).alloc _).alloc _ |>.alloc _⟩)
      | (go_roundg (gk - 1)
         case measure => omega
         case rel => exact ⟨_, by omega, by omega, by grind [letB, regB], by grind [letB, regB], by grind [letB, regB], rfl⟩)

theorem Ins0_any (op a b c len : Int) (hs : needsS op = ⟨#[]⟩) (w : World) :
    Calls Try.prog 33 #[.agg #[.int .i64 op, .int .i64 a, .int .i64 b, .int .i64 c], .int .i64 len] w
    fun e w' => e = .returned (.bool false) ∧ Gr w w' := by
  have H := Lib.hid hs; clear hs
  have n0 : ∀ (o1 o2 : Obj) (ty : TypeId), (Instr.next (.pointer (some ⟨w.heap.size + 1 + 1, 0, none⟩)) true ty).run Try.prog (((w.alloc o1).alloc o2).iter ⟨#[]⟩ 0) =
      .ok (.tuple #[.bool false]) (((w.alloc o1).alloc o2).iter ⟨#[]⟩ 0) := by
    intro o1 o2 ty
    have := run_next_end (P := Try.prog) ((w.alloc o1).alloc o2) ⟨#[]⟩ 0 ty (by decide)
    simp only [World.size_alloc] at this
    exact this
  go_enter Try.func33, Try.ntmps33
  go_wp2_with (go_at_call 84; refine (needs_any _ _).mono ?_; rintro e w' ⟨rfl, rfl⟩)
  rw [H.out]
  go_wp2
  go_loopg [] 0 (fun g wr => wr = ((w.alloc (Obj.cells #[Value.int IntKind.i64 op, Value.int IntKind.i64 a, Value.int IntKind.i64 b, Value.int IntKind.i64 c] 34)).alloc
          (Obj.cells #[Value.int IntKind.i64 a, Value.int IntKind.i64 b, Value.int IntKind.i64 c] 119)).iter ⟨#[]⟩ 0)
  case atStart => rfl
  case round =>
    subst hrel
    go_wp2
    go_ret; exact ⟨rfl, ((Gr.refl _).alloc _).alloc _ |>.alloc _⟩

theorem Ins_any (op a b c len : Int) (w : World) :
    Calls Try.prog 33 #[.agg #[.int .i64 op, .int .i64 a, .int .i64 b, .int .i64 c], .int .i64 len] w
    fun e w' => e = .returned (.bool (insB op a b c len)) ∧ Gr w w' := by
  have key : ∀ (x0 x1 x2 : UInt8), x0.toNat < 128 → x1.toNat < 128 → x2.toNat < 128 → needsS op = ⟨#[x0, x1, x2]⟩ → (letB x0 a len && (letB x1 b len && letB x2 c len)) = insB op a b c len →
      Calls Try.prog 33 #[.agg #[.int .i64 op, .int .i64 a, .int .i64 b, .int .i64 c], .int .i64 len] w fun e w' => e = .returned (.bool (insB op a b c len)) ∧ Gr w w' := by
    intro x0 x1 x2 h0 h1 h2 hs hb
    rw [← hb]
    exact Ins3_any op a b c len x0 x1 x2 h0 h1 h2 hs w
  have l114 : ∀ n, letB 114 n len = regB n := fun n => rfl
  have l112 : ∀ n, letB 112 n len = (decide (0 ≤ n) && decide (n ≤ len)) := fun n => rfl
  have l45 : ∀ n, letB 45 n len = true := fun n => rfl
  by_cases h0 : op = 0
  · exact key 45 45 45 (by decide) (by decide) (by decide) (by simp [needsS, h0]) (by simp [insB, h0, l45])
  by_cases h1 : op = 1
  · exact key 114 45 45 (by decide) (by decide) (by decide) (by simp [needsS, h1]) (by simp [insB, h1, l45, l114])
  by_cases h2 : op = 2 ∨ op = 11 ∨ op = 13 ∨ op = 14
  · exact key 114 114 45 (by decide) (by decide) (by decide) (by simp only [needsS]; rw [if_neg h0, if_neg h1, if_pos h2]) (by simp only [insB, l45, l114]; rw [if_neg h0, if_neg h1, if_pos h2]; simp)
  by_cases h3 : op = 3 ∨ op = 4 ∨ op = 5 ∨ op = 6 ∨ op = 7 ∨ op = 8 ∨ op = 12
  · exact key 114 114 114 (by decide) (by decide) (by decide) (by simp only [needsS]; rw [if_neg h0, if_neg h1, if_neg h2, if_pos h3]) (by simp only [insB, l114]; rw [if_neg h0, if_neg h1, if_neg h2, if_pos h3])
  by_cases h4 : op = 9
  · exact key 112 45 45 (by decide) (by decide) (by decide) (by simp [needsS, h4]) (by simp [insB, h4, l45, l112])
  by_cases h5 : op = 10
  · exact key 114 112 45 (by decide) (by decide) (by decide) (by simp [needsS, h5]) (by simp [insB, h5, l45, l112, l114])
  have hi : insB op a b c len = false := by simp only [insB]; rw [if_neg h0, if_neg h1, if_neg h2, if_neg h3, if_neg h4, if_neg h5]
  rw [hi]
  exact Ins0_any op a b c len (by simp only [needsS]; rw [if_neg h0, if_neg h1, if_neg h2, if_neg h3, if_neg h4, if_neg h5]) w
end Go.Proofs.Ytkoopobfelcgpaa
