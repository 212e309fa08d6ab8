/- layer 5: programs -/
import Derived.Test.YtkoopobfelcgpaaA3
namespace Go.Proofs.Ytkoopobfelcgpaa
open Go.RowKit

/-- An instruction. -/
structure PIns where
  op : Int
  a : Int
  b : Int
  c : Int
deriving DecidableEq

def PIns.ok (x : PIns) (len : Nat) : Bool := insB x.op x.a x.b x.c len
def PIns.val (x : PIns) : Value := .agg #[.int .i64 x.op, .int .i64 x.a, .int .i64 x.b, .int .i64 x.c]

def InsAt (w : World) (b o : Nat) (x : PIns) : Prop :=
  w.cell? ⟨b, o, none⟩ = some (.int .i64 x.op) ∧ w.cell? ⟨b, o + 1, none⟩ = some (.int .i64 x.a) ∧ w.cell? ⟨b, o + 2, none⟩ = some (.int .i64 x.b) ∧ w.cell? ⟨b, o + 3, none⟩ = some (.int .i64 x.c)
theorem InsAt.gr : Stays InsAt := fun _ _ _ _ _ g h => ⟨g.cell h.1, g.cell h.2.1, g.cell h.2.2.1, g.cell h.2.2.2⟩

def progB (l : List PIns) : Bool := l.all (fun x => x.ok l.length) && (decide (1 ≤ l.length) && decide (l.length ≤ 48))

theorem all_take_succ {α : Type} (p : α → Bool) (l : List α) (k : Nat) (x : α) (h : l[k]? = some x) (h1 : (l.take k).all p = true) (h2 : p x = true) : (l.take (k + 1)).all p = true := by
  rw [List.take_add_one, h]; simp [List.all_append, h1, h2]
theorem all_false {α : Type} (p : α → Bool) (l : List α) (k : Nat) (x : α) (h : l[k]? = some x) (h2 : p x = false) : l.all p = false := by
  rw [List.all_eq_false]; exact ⟨x, List.mem_of_getElem? h, by simp [h2]⟩
theorem all_whole {α : Type} (p : α → Bool) (l : List α) (k : Nat) (hk : l.length ≤ k) (h1 : (l.take k).all p = true) : l.all p = true := by
  rwa [List.take_of_length_le hk] at h1

set_option maxHeartbeats 1000000 in
theorem Rprogram_any (l : List PIns) (v : Value) (w : World) (h : Sl 4 InsAt w v l) :
    Calls Try.prog 83 #[v] w fun e w' => e = .returned (.bool (progB l)) ∧ Gr w w' := by
  obtain ⟨a, cap, rfl, hlc, hcm, hnil, hel⟩ := h
  unfold maxLen at hcm
  have HEL := Lib.hid hel; clear hel hnil
  go_enter Try.func83, Try.ntmps83
  go_wp2
  go_loopg [3] l.length (fun g i wr => ∃ k : Nat, g + k = l.length ∧ i = .int .i64 k ∧ (l.take k).all (fun x => x.ok l.length) = true ∧ Gr w wr)
  case atStart => exact ⟨0, by omega, rfl, by simp, Gr.refl _⟩
  case round =>
    obtain ⟨k, hk, rfl, hall, hg⟩ := hrel
    have HA := Lib.hid hall; clear hall
    by_cases hlt : k < l.length
    · obtain ⟨b, o, rfl, hR⟩ := HEL.out k l[k] (by simp [hlt])
      have hR' := InsAt.gr _ _ _ _ _ hg hR
      obtain ⟨c0, c1, c2, c3⟩ := hR'
      clear hR
      go_wp2_with (go_at_call 34; refine (RIns_any _ _ _ _ _ _).mono ?_; rintro e w' ⟨rfl, hg'⟩)
      · have hb : insB l[k].op l[k].a l[k].b l[k].c l.length = false := by grind
        go_ret
        exact ⟨ret_bool (by rw [progB, all_false _ l k l[k] (by simp [hlt]) hb, Bool.false_and]), hg.trans hg'⟩
      · have hb : insB l[k].op l[k].a l[k].b l[k].c l.length = true := by grind
        go_roundg (gk - 1)
        case measure => omega
        case rel => exact ⟨k + 1, by omega, by go_num, all_take_succ _ l k l[k] (by simp [hlt]) HA.out hb, hg.trans hg'⟩
    · have hw := all_whole _ l k (by omega) HA.out
      have HW := Lib.hid hw; clear hw
      go_wp2
      all_goals (go_ret; exact ⟨ret_bool (by rw [progB, HW.out]; grind), hg⟩)

/-- The closure 'right' of model.program. -/
theorem right_any (x : PIns) (l : List PIns) (B : Nat) (a : Option Addr) (cap : Nat) (w : World) (h : w.cell? ⟨B, 0, none⟩ = some (.slice a l.length cap)) :
    Calls Try.prog 151 #[.agg #[.int .i64 x.op, .int .i64 x.a, .int .i64 x.b, .int .i64 x.c], .pointer (some ⟨B, 0, none⟩)] w fun e w' => e = .returned (.bool (x.ok l.length)) ∧ Gr w w' := by
  have hB := lt_of_cell h
  go_enter Try.func151, Try.ntmps151
  go_wp2_with (go_at_call 33; refine (Ins_any _ _ _ _ _ _).mono ?_; rintro e w' ⟨rfl, hg'⟩)
  go_ret
  exact ⟨rfl, ((Gr.refl _).alloc _).trans hg'⟩

set_option maxHeartbeats 1000000 in
theorem program_any (l : List PIns) (v : Value) (w : World) (h : Sl 4 InsAt w v l) :
    Calls Try.prog 81 #[v] w fun e w' => e = .returned (.bool (progB l)) ∧ Gr w w' := by
  obtain ⟨a, cap, rfl, hlc, hcm, hnil, hel⟩ := h
  unfold maxLen at hcm
  have HEL := Lib.hid hel; clear hel hnil
  go_enter Try.func81, Try.ntmps81
  go_wp2
  go_loopg [9] l.length (fun g i wr => ∃ k : Nat, g + k = l.length ∧ i = .int .i64 k ∧ (l.take k).all (fun x => x.ok l.length) = true ∧ Gr (w.alloc (Obj.cells #[Value.slice a l.length cap] 38)) wr)
  case atStart => exact ⟨0, by omega, rfl, by simp, Gr.refl _⟩
  case round =>
    obtain ⟨k, hk, rfl, hall, hg⟩ := hrel
    have HA := Lib.hid hall; clear hall
    have hg0 : Gr w wr := Gr.trans ((Gr.refl w).alloc _) hg
    have hcell : wr.cell? ⟨w.heap.size, 0, none⟩ = some (.slice a l.length cap) := hg.cell (by simp)
    by_cases hlt : k < l.length
    · obtain ⟨b, o, rfl, hR⟩ := HEL.out k l[k] (by simp [hlt])
      have hR' := InsAt.gr _ _ _ _ _ hg0 hR
      obtain ⟨c0, c1, c2, c3⟩ := hR'
      clear hR
      go_wp2_with (go_at_call 151; refine (right_any l[k] l _ _ _ _ (by exact ((Gr.refl _).alloc _).cell hcell)).mono ?_; rintro e w' ⟨rfl, hg'⟩)
      · have hb : insB l[k].op l[k].a l[k].b l[k].c l.length = false := by grind [PIns.ok]
        go_ret
        exact ⟨ret_bool (by rw [progB, all_false _ l k l[k] (by simp [hlt]) hb, Bool.false_and]), (hg0.alloc _).trans hg'⟩
      · have hb : insB l[k].op l[k].a l[k].b l[k].c l.length = true := by grind [PIns.ok]
        go_roundg (gk - 1)
        case measure => omega
        case rel => exact ⟨k + 1, by omega, by go_num, all_take_succ _ l k l[k] (by simp [hlt]) HA.out hb, (hg.alloc _).trans hg'⟩
    · have hw := all_whole _ l k (by omega) HA.out
      have HW := Lib.hid hw; clear hw
      go_wp2_with (go_at_call 82; refine (within_any _ _ _ _).mono ?_; rintro e w' ⟨rfl, rfl⟩)
      go_ret
      exact ⟨ret_bool (by rw [progB, HW.out]; simp [withinB]; grind), hg0⟩
end Go.Proofs.Ytkoopobfelcgpaa
