/- layer 5: model.Same -/
import Derived.Test.YtkoopobfelcgpaaA9
namespace Go.Proofs.Ytkoopobfelcgpaa
open Go.RowKit

theorem sameLP_any (x y : PLP) (v u : Value) (w : World) (h : Sl 1 IntAt w v x.words) (h' : Sl 1 IntAt w u y.words) :
    Calls Try.prog 93 #[.agg #[.int .i64 x.prog, v], .agg #[.int .i64 y.prog, u]] w fun e w' => e = .returned (.bool (lpSame x y)) ∧ Gr w w' := by
  have q := Lib.hid h
  have q' := Lib.hid h'
  obtain ⟨a, cap, rfl, -⟩ := h
  obtain ⟨a', cap', rfl, -⟩ := h'
  go_enter Try.func93, Try.ntmps93
  go_wp2_with (go_at_call 139; refine (EqualInts_any x.words y.words _ _ _ (by exact q.out.gr IntAt.gr (((Gr.refl _).alloc _).alloc _)) (by exact q'.out.gr IntAt.gr (((Gr.refl _).alloc _).alloc _))).mono ?_; rintro e w' ⟨rfl, hg'⟩)
  · go_ret; exact ⟨ret_bool (by grind [lpSame]), (((Gr.refl _).alloc _).alloc _).trans hg'⟩
  · go_ret; exact ⟨ret_bool (by grind [lpSame]), ((Gr.refl _).alloc _).alloc _⟩

set_option maxHeartbeats 2000000 in
theorem EqualInits_any (l r : List PInit) (v u : Value) (w : World) (h : Sl 3 InitAt w v l) (h' : Sl 3 InitAt w u r) :
    Calls Try.prog 88 #[v, u, .func (.func 89) #[] #[]] w fun e w' => e = .returned (.bool (eqL initSame l r)) ∧ Gr w w' := by
  obtain ⟨a, cap, rfl, hlc, hcm, -, hel⟩ := h
  obtain ⟨a', cap', rfl, hlc', hcm', -, hel'⟩ := h'
  unfold maxLen at hcm hcm'
  have H := Lib.hid hel; clear hel
  have H' := Lib.hid hel'; clear hel'
  by_cases hn : l.length = r.length
  case neg =>
    have hn1 : ((l.length : Int) != r.length) = true := by rw [bne_iff_ne]; omega
    have hn2 := Lib.hid (eqL_len initSame l r hn)
    clear hn
    go_enter Try.func88, Try.ntmps88
    go_wp2
    go_ret
    exact ⟨ret_bool hn2.out.symm, Gr.refl _⟩
  have hn1 : ((l.length : Int) != r.length) = false := by rw [bne_eq_false_iff_eq]; omega
  have HN := Lib.hid hn
  have hle : r.length ≤ l.length := by omega
  clear hn
  go_enter Try.func88, Try.ntmps88
  go_wp2
  clear hn1
  go_loopg [17] l.length (fun g i wr => ∃ k : Nat, g + k = l.length ∧ i = .int .i64 k ∧ ((l.zip r).take k).all (fun q => initSame q.1 q.2) = true ∧ Gr w wr)
  case atStart => exact ⟨0, by omega, rfl, by simp, Gr.refl _⟩
  case round =>
    obtain ⟨k, hk, rfl, hall, hg⟩ := hrel
    have HA := Lib.hid hall; clear hall
    by_cases hlt : k < l.length
    · have hlt' : k < r.length := by have := HN.out; omega
      obtain ⟨b, o, rfl, hR⟩ := H.out k l[k] (by simp [hlt])
      obtain ⟨b', o', rfl, hR'⟩ := H'.out k r[k] (by simp [hlt'])
      obtain ⟨p0, p1, p2⟩ := InitAt.gr _ _ _ _ _ hg hR
      obtain ⟨p0', p1', p2'⟩ := InitAt.gr _ _ _ _ _ hg hR'
      have hs := lt_of_cell p0
      have hs' := lt_of_cell p0'
      simp only [] at hs hs'
      clear hR hR'
      go_wp2_with (go_at_call 89; refine (sameInit_any l[k] r[k] _).mono ?_; rintro e w' ⟨rfl, hg'⟩)
      · have hb : initSame l[k] r[k] = false := by grind
        go_ret
        exact ⟨ret_bool (eqL_at _ _ _ k l[k] r[k] (by simp [hlt]) (by simp [hlt']) hb).symm, ((hg.alloc _).alloc _).trans hg'⟩
      · have hb : initSame l[k] r[k] = true := by grind
        go_roundg (gk - 1)
        case measure => omega
        case rel => exact ⟨k + 1, by omega, by go_num, eqL_step _ _ _ k l[k] r[k] (by simp [hlt]) (by simp [hlt']) HA.out hb, ((hg.alloc _).alloc _).trans hg'⟩
    · go_wp2
      go_ret
      exact ⟨ret_bool (eqL_end _ _ _ k HN.out (by omega) HA.out).symm, hg⟩

set_option maxHeartbeats 2000000 in
theorem EqualPrograms_any (l r : List (List PIns)) (v u : Value) (w : World) (h : Sl 1 (SlAt 4 InsAt) w v l) (h' : Sl 1 (SlAt 4 InsAt) w u r) :
    Calls Try.prog 90 #[v, u, .func (.func 91) #[] #[]] w fun e w' => e = .returned (.bool (eqL (eqL insEq) l r)) ∧ Gr w w' := by
  obtain ⟨a, cap, rfl, hlc, hcm, -, hel⟩ := h
  obtain ⟨a', cap', rfl, hlc', hcm', -, hel'⟩ := h'
  unfold maxLen at hcm hcm'
  have H := Lib.hid hel; clear hel
  have H' := Lib.hid hel'; clear hel'
  by_cases hn : l.length = r.length
  case neg =>
    have hn1 : ((l.length : Int) != r.length) = true := by rw [bne_iff_ne]; omega
    have hn2 := Lib.hid (eqL_len (eqL insEq) l r hn)
    clear hn
    go_enter Try.func90, Try.ntmps90
    go_wp2
    go_ret
    exact ⟨ret_bool hn2.out.symm, Gr.refl _⟩
  have hn1 : ((l.length : Int) != r.length) = false := by rw [bne_eq_false_iff_eq]; omega
  have HN := Lib.hid hn
  have hle : r.length ≤ l.length := by omega
  clear hn
  go_enter Try.func90, Try.ntmps90
  go_wp2
  clear hn1
  go_loopg [17] l.length (fun g i wr => ∃ k : Nat, g + k = l.length ∧ i = .int .i64 k ∧ ((l.zip r).take k).all (fun q => (eqL insEq) q.1 q.2) = true ∧ Gr w wr)
  case atStart => exact ⟨0, by omega, rfl, by simp, Gr.refl _⟩
  case round =>
    obtain ⟨k, hk, rfl, hall, hg⟩ := hrel
    have HA := Lib.hid hall; clear hall
    by_cases hlt : k < l.length
    · have hlt' : k < r.length := by have := HN.out; omega
      obtain ⟨b, o, rfl, hR⟩ := H.out k l[k] (by simp [hlt])
      obtain ⟨b', o', rfl, hR'⟩ := H'.out k r[k] (by simp [hlt'])
      obtain ⟨x, p0, q0⟩ := SlAt.gr InsAt.gr _ _ _ _ _ hg hR
      obtain ⟨x', p0', q0'⟩ := SlAt.gr InsAt.gr _ _ _ _ _ hg hR'
      rw [Nat.mul_one] at p0 p0'
      have Q := Lib.hid q0
      have Q' := Lib.hid q0'
      clear q0 q0'
      clear hR hR'
      go_wp2_with (go_at_call 91; refine (EqualIns_any _ _ _ _ _ Q.out Q'.out).mono ?_; rintro e w' ⟨rfl, hg'⟩)
      · have hb : (eqL insEq) l[k] r[k] = false := by grind
        go_ret
        exact ⟨ret_bool (eqL_at _ _ _ k l[k] r[k] (by simp [hlt]) (by simp [hlt']) hb).symm, hg.trans hg'⟩
      · have hb : (eqL insEq) l[k] r[k] = true := by grind
        go_roundg (gk - 1)
        case measure => omega
        case rel => exact ⟨k + 1, by omega, by go_num, eqL_step _ _ _ k l[k] r[k] (by simp [hlt]) (by simp [hlt']) HA.out hb, hg.trans hg'⟩
    · go_wp2
      go_ret
      exact ⟨ret_bool (eqL_end _ _ _ k HN.out (by omega) HA.out).symm, hg⟩

set_option maxHeartbeats 2000000 in
theorem EqualLPs_any (l r : List PLP) (v u : Value) (w : World) (h : Sl 2 LPAt w v l) (h' : Sl 2 LPAt w u r) :
    Calls Try.prog 92 #[v, u, .func (.func 93) #[] #[]] w fun e w' => e = .returned (.bool (eqL lpSame l r)) ∧ Gr w w' := by
  obtain ⟨a, cap, rfl, hlc, hcm, -, hel⟩ := h
  obtain ⟨a', cap', rfl, hlc', hcm', -, hel'⟩ := h'
  unfold maxLen at hcm hcm'
  have H := Lib.hid hel; clear hel
  have H' := Lib.hid hel'; clear hel'
  by_cases hn : l.length = r.length
  case neg =>
    have hn1 : ((l.length : Int) != r.length) = true := by rw [bne_iff_ne]; omega
    have hn2 := Lib.hid (eqL_len lpSame l r hn)
    clear hn
    go_enter Try.func92, Try.ntmps92
    go_wp2
    go_ret
    exact ⟨ret_bool hn2.out.symm, Gr.refl _⟩
  have hn1 : ((l.length : Int) != r.length) = false := by rw [bne_eq_false_iff_eq]; omega
  have HN := Lib.hid hn
  have hle : r.length ≤ l.length := by omega
  clear hn
  go_enter Try.func92, Try.ntmps92
  go_wp2
  clear hn1
  go_loopg [17] l.length (fun g i wr => ∃ k : Nat, g + k = l.length ∧ i = .int .i64 k ∧ ((l.zip r).take k).all (fun q => lpSame q.1 q.2) = true ∧ Gr w wr)
  case atStart => exact ⟨0, by omega, rfl, by simp, Gr.refl _⟩
  case round =>
    obtain ⟨k, hk, rfl, hall, hg⟩ := hrel
    have HA := Lib.hid hall; clear hall
    by_cases hlt : k < l.length
    · have hlt' : k < r.length := by have := HN.out; omega
      obtain ⟨b, o, rfl, hR⟩ := H.out k l[k] (by simp [hlt])
      obtain ⟨b', o', rfl, hR'⟩ := H'.out k r[k] (by simp [hlt'])
      obtain ⟨p0, x, p1, q0⟩ := LPAt.gr _ _ _ _ _ hg hR
      obtain ⟨p0', x', p1', q0'⟩ := LPAt.gr _ _ _ _ _ hg hR'
      have Q := Lib.hid q0
      have Q' := Lib.hid q0'
      clear q0 q0'
      have E := Q.out
      have E' := Q'.out
      obtain ⟨a2, c2, rfl, -⟩ := E
      obtain ⟨a2', c2', rfl, -⟩ := E'
      have hs := lt_of_cell p0
      have hs' := lt_of_cell p0'
      simp only [] at hs hs'
      clear hR hR'
      go_wp2_with (go_at_call 93; refine (sameLP_any l[k] r[k] _ _ _ (by exact Q.out.gr IntAt.gr (((Gr.refl _).alloc _).alloc _)) (by exact Q'.out.gr IntAt.gr (((Gr.refl _).alloc _).alloc _))).mono ?_; rintro e w' ⟨rfl, hg'⟩)
      · have hb : lpSame l[k] r[k] = false := by grind
        go_ret
        exact ⟨ret_bool (eqL_at _ _ _ k l[k] r[k] (by simp [hlt]) (by simp [hlt']) hb).symm, ((hg.alloc _).alloc _).trans hg'⟩
      · have hb : lpSame l[k] r[k] = true := by grind
        go_roundg (gk - 1)
        case measure => omega
        case rel => exact ⟨k + 1, by omega, by go_num, eqL_step _ _ _ k l[k] r[k] (by simp [hlt]) (by simp [hlt']) HA.out hb, ((hg.alloc _).alloc _).trans hg'⟩
    · go_wp2
      go_ret
      exact ⟨ret_bool (eqL_end _ _ _ k HN.out (by omega) HA.out).symm, hg⟩
end Go.Proofs.Ytkoopobfelcgpaa
