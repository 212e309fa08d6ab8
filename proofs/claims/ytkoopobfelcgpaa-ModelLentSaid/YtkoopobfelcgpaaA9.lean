/- layer 5: lists held against each other: instructions, events at first, processes -/
import Derived.Test.YtkoopobfelcgpaaA8
namespace Go.Proofs.Ytkoopobfelcgpaa
open Go.RowKit

theorem sameInit_any (x y : PInit) (w : World) : Calls Try.prog 89 #[.agg #[.float .f64 x.t, .int .i64 x.dst, .int .i64 x.pay], .agg #[.float .f64 y.t, .int .i64 y.dst, .int .i64 y.pay]] w
    fun e w' => e = .returned (.bool (initSame x y)) ∧ Gr w w' := by
  go_enter Try.func89, Try.ntmps89
  go_wp2_with (go_at_call 86; refine (float_any _ _ _).mono ?_; rintro e w' ⟨rfl, rfl⟩)
  all_goals (go_ret; exact ⟨ret_bool (by grind [initSame]), ((Gr.refl _).alloc _).alloc _⟩)

theorem run_neq_ins (x y : PIns) (w : World) : (binOp .neq 34 (.agg #[.int .i64 x.op, .int .i64 x.a, .int .i64 x.b, .int .i64 x.c]) (.agg #[.int .i64 y.op, .int .i64 y.a, .int .i64 y.b, .int .i64 y.c])).run Try.prog w = .ok (.bool (!insEq x y)) w := by
  rw [run_neq_struct]
  go_simp
  have e : insEq x y = decide (x.op = y.op ∧ x.a = y.a ∧ x.b = y.b ∧ x.c = y.c) := by
    cases x; cases y; simp [insEq]
  rw [e]
  split <;> (try split) <;> (try split) <;> (try split) <;> simp_all

set_option maxHeartbeats 2000000 in
theorem EqualInts_any (l r : List Int) (v u : Value) (w : World) (h : Sl 1 IntAt w v l) (h' : Sl 1 IntAt w u r) :
    Calls Try.prog 139 #[v, u] w fun e w' => e = .returned (.bool (eqL intEq l r)) ∧ Gr w w' := by
  obtain ⟨a, cap, rfl, hlc, hcm, -, hel⟩ := h
  obtain ⟨a', cap', rfl, hlc', hcm', -, hel'⟩ := h'
  unfold maxLen at hcm hcm'
  have H := Lib.hid hel; clear hel
  have H' := Lib.hid hel'; clear hel'
  by_cases hn : l.length = r.length
  case neg =>
    have hn1 : ((l.length : Int) != r.length) = true := by rw [bne_iff_ne]; omega
    have hn2 := Lib.hid (eqL_len intEq l r hn)
    clear hn
    go_enter Try.func139, Try.ntmps139
    go_wp2
    go_ret
    exact ⟨ret_bool hn2.out.symm, Gr.refl _⟩
  have hn1 : ((l.length : Int) != r.length) = false := by rw [bne_eq_false_iff_eq]; omega
  have HN := Lib.hid hn
  have hle : r.length ≤ l.length := by omega
  clear hn
  go_enter Try.func139, Try.ntmps139
  go_wp2
  clear hn1
  go_loopg [13] l.length (fun g i wr => ∃ k : Nat, g + k = l.length ∧ i = .int .i64 k ∧ ((l.zip r).take k).all (fun q => intEq q.1 q.2) = true ∧ Gr w wr)
  case atStart => exact ⟨0, by omega, rfl, by simp, Gr.refl _⟩
  case round =>
    obtain ⟨k, hk, rfl, hall, hg⟩ := hrel
    have HA := Lib.hid hall; clear hall
    by_cases hlt : k < l.length
    · have hlt' : k < r.length := by have := HN.out; omega
      obtain ⟨b, o, rfl, hR⟩ := H.out k l[k] (by simp [hlt])
      obtain ⟨b', o', rfl, hR'⟩ := H'.out k r[k] (by simp [hlt'])
      have p0 := hg.cell hR
      have p0' := hg.cell hR'
      rw [Nat.mul_one] at p0 p0'
      clear hR hR'
      have hk0 : (0 : Int) ≤ (k : Int) := by omega
      have hk1 : (k : Int) < (l.length : Int) := by omega
      have hk2 : (k : Int) < (r.length : Int) := by omega
      go_wp2
      go_quiet (fail)
      go_wp2
      all_goals (try clear hneq)
      · have hb : intEq l[k] r[k] = false := by grind [intEq]
        go_ret
        exact ⟨ret_bool (eqL_at _ _ _ k l[k] r[k] (by simp [hlt]) (by simp [hlt']) hb).symm, hg.drewN _⟩
      · have hb : intEq l[k] r[k] = true := by grind [intEq]
        go_roundg (gk - 1)
        case measure => omega
        case rel => exact ⟨k + 1, by omega, by go_num, eqL_step _ _ _ k l[k] r[k] (by simp [hlt]) (by simp [hlt']) HA.out hb, hg.drewN _⟩
    · go_wp2
      go_ret
      exact ⟨ret_bool (eqL_end _ _ _ k HN.out (by omega) HA.out).symm, hg⟩

set_option maxHeartbeats 2000000 in
theorem EqualIns_any (l r : List PIns) (v u : Value) (w : World) (h : Sl 4 InsAt w v l) (h' : Sl 4 InsAt w u r) :
    Calls Try.prog 91 #[v, u] w fun e w' => e = .returned (.bool (eqL insEq l r)) ∧ Gr w w' := by
  obtain ⟨a, cap, rfl, hlc, hcm, -, hel⟩ := h
  obtain ⟨a', cap', rfl, hlc', hcm', -, hel'⟩ := h'
  unfold maxLen at hcm hcm'
  have H := Lib.hid hel; clear hel
  have H' := Lib.hid hel'; clear hel'
  by_cases hn : l.length = r.length
  case neg =>
    have hn1 : ((l.length : Int) != r.length) = true := by rw [bne_iff_ne]; omega
    have hn2 := Lib.hid (eqL_len insEq l r hn)
    clear hn
    go_enter Try.func91, Try.ntmps91
    go_wp2
    go_ret
    exact ⟨ret_bool hn2.out.symm, Gr.refl _⟩
  have hn1 : ((l.length : Int) != r.length) = false := by rw [bne_eq_false_iff_eq]; omega
  have HN := Lib.hid hn
  have hle : r.length ≤ l.length := by omega
  clear hn
  go_enter Try.func91, Try.ntmps91
  go_wp2
  clear hn1
  go_loopg [13] l.length (fun g i wr => ∃ k : Nat, g + k = l.length ∧ i = .int .i64 k ∧ ((l.zip r).take k).all (fun q => insEq q.1 q.2) = true ∧ Gr w wr)
  case atStart => exact ⟨0, by omega, rfl, by simp, Gr.refl _⟩
  case round =>
    obtain ⟨k, hk, rfl, hall, hg⟩ := hrel
    have HA := Lib.hid hall; clear hall
    by_cases hlt : k < l.length
    · have hlt' : k < r.length := by have := HN.out; omega
      obtain ⟨b, o, rfl, hR⟩ := H.out k l[k] (by simp [hlt])
      obtain ⟨b', o', rfl, hR'⟩ := H'.out k r[k] (by simp [hlt'])
      obtain ⟨p0, p1, p2, p3⟩ := InsAt.gr _ _ _ _ _ hg hR
      obtain ⟨p0', p1', p2', p3'⟩ := InsAt.gr _ _ _ _ _ hg hR'
      clear hR hR'
      have hneq := run_neq_ins
      have hk0 : (0 : Int) ≤ (k : Int) := by omega
      have hk1 : (k : Int) < (l.length : Int) := by omega
      have hk2 : (k : Int) < (r.length : Int) := by omega
      go_wp2
      go_quiet (fail)
      go_wp2
      all_goals (try clear hneq)
      · have hb : insEq l[k] r[k] = false := by grind
        go_ret
        exact ⟨ret_bool (eqL_at _ _ _ k l[k] r[k] (by simp [hlt]) (by simp [hlt']) hb).symm, hg.drewN _⟩
      · have hb : insEq l[k] r[k] = true := by grind
        go_roundg (gk - 1)
        case measure => omega
        case rel => exact ⟨k + 1, by omega, by go_num, eqL_step _ _ _ k l[k] r[k] (by simp [hlt]) (by simp [hlt']) HA.out hb, hg.drewN _⟩
    · go_wp2
      go_ret
      exact ⟨ret_bool (eqL_end _ _ _ k HN.out (by omega) HA.out).symm, hg⟩
end Go.Proofs.Ytkoopobfelcgpaa
