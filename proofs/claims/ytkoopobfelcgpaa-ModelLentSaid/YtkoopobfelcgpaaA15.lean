/- layer 5: the laws' walks: ModelChecks -/
import Derived.Test.YtkoopobfelcgpaaA13
import Derived.Test.YtkoopobfelcgpaaGrow
namespace Go.Proofs.Ytkoopobfelcgpaa
open Go.RowKit

set_option maxHeartbeats 4000000 in
theorem ModelChecks_any (m : PModel) (vd vp vl vi : Value) (w : World) (h : ModelAt w vd vp vl vi m) :
    Calls Try.prog 3 #[.agg #[.int .i64 m.seed, .float .f64 m.fin, vd, vp, vl, vi]] w fun e w' => e = .returned (.bool true) ∧ Gr w w' := by
  have Q := Lib.hid h
  obtain ⟨ad, cd, rfl, -⟩ := h.delays
  obtain ⟨ap, cp, rfl, -⟩ := h.programs
  obtain ⟨al, cl, rfl, -⟩ := h.lps
  obtain ⟨ai, ci, rfl, -⟩ := h.init
  clear h
  cases hl : lightB 20 40 60 60 200 100 m
  all_goals
    have HL := Lib.hid hl
    clear hl
    go_enter Try.func3, Try.ntmps3
    go_wp2_with fail
    have hW := Gr.refl (w.alloc (.cells #[.int .i64 m.seed, .float .f64 m.fin, .slice ad m.delays.length cd, .slice ap m.programs.length cp, .slice al m.lps.length cl, .slice ai m.init.length ci] 28))
    obtain ⟨K, q0, q1, q2, q3, q4, q5⟩ := After.box6 hW
    have HK := Lib.hid K
    clear K
    refine wp_region_grow _ hW mixed (by kernel_rfl) ?_
    repeat (go_big_quiet_step (first
      | (go_at_call 29; exact After.calls (awake5_any _))
      | (go_at_call 30; exact After.calls (Calls.to (light5_any m _ _ _ _ _ (Q.out.gr (HK.out _))) (boolv HL.out)))
      | (go_at_call 31; exact After.calls (Check_any m _ _ _ _ _ (Q.out.gr (HK.out _))))
      | (go_at_call 32; exact After.calls (RCheck_any m _ _ _ _ _ (Q.out.gr (HK.out _))))))
    refine wpQuiet_nil ?_
    intro _ hw'
    obtain ⟨x, rfl⟩ := hw'
    go_wp2
    go_ret
    exact ⟨by simp, HK.out x⟩

theorem fsame_symm (a b : Nat) : fsame a b = fsame b a := by grind [fsame]
theorem fsame_refl (a : Nat) : fsame a a = true := by simp [fsame]
theorem eqL_symm {α : Type} {p : α → α → Bool} (hp : ∀ a b, p a b = p b a) : ∀ l r : List α, eqL p l r = eqL p r l
  | [], [] => rfl
  | [], _ :: _ => by simp [eqL]
  | _ :: _, [] => by simp [eqL]
  | a :: l, b :: r => by
    have ih := eqL_symm hp l r
    simp only [eqL, List.length_cons, List.zip_cons_cons, List.all_cons] at *
    rw [hp a b]
    have e1 : decide (l.length + 1 = r.length + 1) = decide (l.length = r.length) := by simp
    have e2 : decide (r.length + 1 = l.length + 1) = decide (r.length = l.length) := by simp
    rw [e1, e2]
    generalize decide (l.length = r.length) = x at *
    generalize decide (r.length = l.length) = y at *
    generalize ((l.zip r).all fun q => p q.1 q.2) = u at *
    generalize ((r.zip l).all fun q => p q.1 q.2) = v at *
    revert ih
    cases x <;> cases y <;> cases u <;> cases v <;> cases p b a <;> simp
theorem eqL_refl {α : Type} {p : α → α → Bool} (hp : ∀ a, p a a = true) : ∀ l : List α, eqL p l l = true
  | [] => rfl
  | a :: l => by
    have ih := eqL_refl hp l
    simp only [eqL, List.length_cons, List.zip_cons_cons, List.all_cons, hp] at *
    simpa using ih
theorem intEq_symm (a b : Int) : intEq a b = intEq b a := by grind [intEq]
theorem insEq_symm (a b : PIns) : insEq a b = insEq b a := by grind [insEq]
theorem lpSame_symm (a b : PLP) : lpSame a b = lpSame b a := by rw [lpSame, lpSame, eqL_symm intEq_symm]; grind
theorem initSame_symm (a b : PInit) : initSame a b = initSame b a := by rw [initSame, initSame, fsame_symm]; grind
theorem sameB_symm (a b : PModel) : sameB a b = sameB b a := by
  rw [sameB, sameB, fsame_symm, eqL_symm fsame_symm, eqL_symm initSame_symm, eqL_symm (eqL_symm insEq_symm), eqL_symm lpSame_symm]; grind
theorem sameB_refl (a : PModel) : sameB a a = true := by
  rw [sameB, fsame_refl, eqL_refl fsame_refl, eqL_refl (fun x => by rw [initSame, fsame_refl]; simp), eqL_refl (eqL_refl (fun x => by simp [insEq])), eqL_refl (fun x => by rw [lpSame, eqL_refl (fun x => by simp [intEq])]; simp)]; simp

set_option maxHeartbeats 8000000 in
set_option maxRecDepth 100000 in
theorem ModelSame_any (m n : PModel) (vd vp vl vi ud up ul ui : Value) (w : World) (h : ModelAt w vd vp vl vi m) (h' : ModelAt w ud up ul ui n) :
    Calls Try.prog 5 #[.agg #[.int .i64 m.seed, .float .f64 m.fin, vd, vp, vl, vi], .agg #[.int .i64 n.seed, .float .f64 n.fin, ud, up, ul, ui]] w
      fun e w' => e = .returned (.bool true) ∧ Gr w w' := by
  have Q := Lib.hid h
  have Q' := Lib.hid h'
  obtain ⟨ad, cd, rfl, -⟩ := h.delays
  obtain ⟨ap, cp, rfl, -⟩ := h.programs
  obtain ⟨al, cl, rfl, -⟩ := h.lps
  obtain ⟨ai, ci, rfl, -⟩ := h.init
  obtain ⟨ad', cd', rfl, -⟩ := h'.delays
  obtain ⟨ap', cp', rfl, -⟩ := h'.programs
  obtain ⟨al', cl', rfl, -⟩ := h'.lps
  obtain ⟨ai', ci', rfl, -⟩ := h'.init
  clear h h'
  have hs := Lib.hid (sameB_symm n m)
  have hr := Lib.hid (sameB_refl m)
  cases hl : lightB 20 40 60 60 200 100 m
  all_goals
    have HL := Lib.hid hl
    clear hl
    cases hl' : lightB 20 40 60 60 200 100 n
  all_goals
    have HL' := Lib.hid hl'
    clear hl'
    cases hb : sameB m n
  all_goals
    have HB := Lib.hid hb
    have HB' := Lib.hid (hs.out.trans hb)
    clear hb
    go_enter Try.func5, Try.ntmps5
    go_wp2_with fail
    have hW := Gr.refl ((w.alloc (.cells #[.int .i64 m.seed, .float .f64 m.fin, .slice ad m.delays.length cd, .slice ap m.programs.length cp, .slice al m.lps.length cl, .slice ai m.init.length ci] 28)).alloc
      (.cells #[.int .i64 n.seed, .float .f64 n.fin, .slice ad' n.delays.length cd', .slice ap' n.programs.length cp', .slice al' n.lps.length cl', .slice ai' n.init.length ci'] 28))
    obtain ⟨K, q0, q1, q2, q3, q4, q5⟩ := After.box6 (((Gr.refl _).alloc _).trans hW)
    obtain ⟨K', r0, r1, r2, r3, r4, r5⟩ := After.box6 hW
    simp only [World.size_alloc] at r0 r1 r2 r3 r4 r5
    have HK := Lib.hid K
    clear K K'
    refine wp_region_grow _ hW mixed (by kernel_rfl) ?_
    repeat (go_big_quiet_step (first
      | (go_at_call 29; exact After.calls (awake5_any _))
      | (go_at_call 30; with_reducible exact After.calls (Calls.to (light5_any m _ _ _ _ _ (Q.out.gr (HK.out _))) (boolv HL.out)))
      | (go_at_call 30; with_reducible exact After.calls (Calls.to (light5_any n _ _ _ _ _ (Q'.out.gr (HK.out _))) (boolv HL'.out)))
      | (go_at_call 36; with_reducible exact After.calls (Calls.to (RSame_any m n _ _ _ _ _ _ _ _ _ (Q.out.gr (HK.out _)) (Q'.out.gr (HK.out _))) (boolv HB.out)))
      | (go_at_call 35; with_reducible exact After.calls (Calls.to (Same_any m n _ _ _ _ _ _ _ _ _ (Q.out.gr (HK.out _)) (Q'.out.gr (HK.out _))) (boolv HB.out)))
      | (go_at_call 35; with_reducible exact After.calls (Calls.to (Same_any n m _ _ _ _ _ _ _ _ _ (Q'.out.gr (HK.out _)) (Q.out.gr (HK.out _))) (boolv HB'.out)))
      | (go_at_call 35; with_reducible exact After.calls (Calls.to (Same_any m m _ _ _ _ _ _ _ _ _ (Q.out.gr (HK.out _)) (Q.out.gr (HK.out _))) (boolv hr.out)))))
    refine wpQuiet_nil ?_
    intro _ hw'
    obtain ⟨x, rfl⟩ := hw'
    go_wp2
    go_ret
    exact ⟨by simp, HK.out x⟩
end Go.Proofs.Ytkoopobfelcgpaa
