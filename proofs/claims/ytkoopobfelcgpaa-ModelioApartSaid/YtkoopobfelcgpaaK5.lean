/- K5: the texts E1 E2 E3, merged by tools/merge.py -/
import Derived.Test.YtkoopobfelcgpaaK4
import Derived.Deep.CutBlock
import Derived.Deep.CutRange

section -- E1
/- layer 6: the reference's reading: leaves, and the worlds of its Get -/
set_option linter.unusedSimpArgs false
set_option linter.unusedVariables false
namespace Go.Proofs.Ytkoopobfelcgpaa
open Go.RowKit Go.Proofs.YtkoopobfelcgpaaW.PrintWords Go.Proofs.YtkoopobfelcgpaaW.PrintMore

theorem refReadI_at (s : ByteArray) (p : Int) (hs : s.size ≤ 1099511627776) (k : Nat) : Pa.horologeref01_ReadI.f (20 + k) s p = some (readI s p) := by
  induction k with
  | zero => exact refReadI_is s p hs
  | succ k ih => exact Pa.horologeref01_ReadI.mono s p (20 + k) _ ih
theorem refInt_at (s : ByteArray) (r : Rd) (hs : s.size ≤ 1099511627776) (k : Nat) : Pa.horologeref06_Int.f (20 + k) s r.p r.e = some ((rdInt s r).1, (rdInt s r).2.p, (rdInt s r).2.e) := by
  unfold Pa.horologeref06_Int.f rdInt
  by_cases h : r.e = 0
  · rw [if_pos h, if_pos h, refReadI_at s r.p hs k]; rfl
  · rw [if_neg h, if_neg h]
theorem refCount_at (s : ByteArray) (r : Rd) (hs : s.size ≤ 1099511627776) (k : Nat) : Pa.horologeref06_Count.f (20 + k) s r.p r.e = some ((cnt s r).1, (cnt s r).2.p, (cnt s r).2.e) := by
  unfold Pa.horologeref06_Count.f cnt
  rw [refInt_at s r hs k, Option.bind_some]
  dsimp only
  by_cases h : (rdInt s r).2.e = 0
  · rw [if_pos h]
    by_cases h1 : (rdInt s r).1 < 0
    · rw [if_pos h1, if_pos ⟨h, .inl h1⟩]
    · rw [if_neg h1]
      by_cases h2 : (rdInt s r).1 > 48
      · rw [if_pos h2, if_pos ⟨h, .inr h2⟩]
      · rw [if_neg h2, if_neg (by rintro ⟨-, h3 | h3⟩ <;> omega)]
  · rw [if_neg h, if_neg (fun hh => h hh.1)]
theorem refInt_any (s : ByteArray) (r : Rd) (hs : s.size ≤ 1099511627776) (w : World) : Calls Try.prog 123 #[.string s, .agg #[.int .i64 r.p, .int .i64 r.e]] w fun e w' => e = .returned (.tuple #[.int .i64 (rdInt s r).1, .agg #[.int .i64 (rdInt s r).2.p, .int .i64 (rdInt s r).2.e]]) ∧ Gr w w' :=
  Pa.horologeref06_Int.calls 20 s r.p r.e _ _ _ w (refInt_at s r hs 0)
theorem refCount_any (s : ByteArray) (r : Rd) (hs : s.size ≤ 1099511627776) (w : World) : Calls Try.prog 125 #[.string s, .agg #[.int .i64 r.p, .int .i64 r.e]] w fun e w' => e = .returned (.tuple #[.int .i64 (cnt s r).1, .agg #[.int .i64 (cnt s r).2.p, .int .i64 (cnt s r).2.e]]) ∧ Gr w w' :=
  Pa.horologeref06_Count.calls 20 s r.p r.e _ _ _ w (refCount_at s r hs 0)

theorem cnt_range (s : ByteArray) (r : Rd) : (cnt s r).2.e = 0 → 0 ≤ (cnt s r).1 ∧ (cnt s r).1 ≤ 48 := by
  unfold cnt
  split
  · intro h; cases h
  · intro h; rename_i h2
    have : ¬ ((rdInt s r).1 < 0 ∨ (rdInt s r).1 > 48) := fun h3 => h2 ⟨h, h3⟩
    omega
/-- the printed form of an instruction -/
def toS (x : PIns) : Pa.S34 := ⟨x.op, x.a, x.b, x.c⟩
theorem code_l0 (s : ByteArray) (hs : s.size ≤ 1099511627776) (N : Nat) (hN : N ≤ 48) : ∀ (d : Nat) (acc : List PIns) (r : Rd), acc.length + d = N →
    Pa.horologeref06_code.l0 (2 * d + 22) s N (acc.map toS) acc.length r.p r.e = some ((acc ++ (rep (rdIns s) d r).1).map toS, (rep (rdIns s) d r).2.p, (rep (rdIns s) d r).2.e)
  | 0, acc, r, h => by
    rw [Pa.horologeref06_code.l0, if_neg (by omega), Pa.horologeref06_code.j1, if_neg (by decide)]
    simp [rep]
  | d + 1, acc, r, h => by
    rw [show 2 * (d + 1) + 22 = (2 * d + 22) + 1 + 1 by omega, Pa.horologeref06_code.l0, if_pos (by omega), Pa.horologeref06_code.j1]
    by_cases he : r.e = 0
    · rw [if_pos (by rw [beq_iff_eq]; exact he)]
      have e1 := refInt_at s r hs (2 * d + 2)
      have e2 := refInt_at s (rdInt s r).2 hs (2 * d + 2)
      have e3 := refInt_at s (rdInt s (rdInt s r).2).2 hs (2 * d + 2)
      have e4 := refInt_at s (rdInt s (rdInt s (rdInt s r).2).2).2 hs (2 * d + 2)
      rw [show 20 + (2 * d + 2) = 2 * d + 22 by omega] at e1 e2 e3 e4
      rw [e1, Option.bind_some]; dsimp only
      rw [e2, Option.bind_some]; dsimp only
      rw [e3, Option.bind_some]; dsimp only
      rw [e4, Option.bind_some]; dsimp only
      rw [if_pos (by rw [List.length_map]; omega)]
      have ew : wrap64 ((acc.length : Int) + 1) = ((acc ++ [(rdIns s r).1]).length : Nat) := by rw [List.length_append]; simp; unfold wrap64; omega
      have ih := code_l0 s hs N hN d (acc ++ [(rdIns s r).1]) (rdIns s r).2 (by simp; omega)
      rw [ew, rep_go _ _ _ he]
      have em : acc.map toS ++ [(⟨(rdInt s r).1, (rdInt s (rdInt s r).2).1, (rdInt s (rdInt s (rdInt s r).2).2).1, (rdInt s (rdInt s (rdInt s (rdInt s r).2).2).2).1⟩ : Pa.S34)] = (acc ++ [(rdIns s r).1]).map toS := by simp [toS, rdIns]
      rw [em]
      refine ih.trans ?_
      simp
    · rw [if_neg (by rw [beq_iff_eq]; exact he), rep_stop _ _ _ (.inr he)]
      simp
theorem code_is (s : ByteArray) (hs : s.size ≤ 1099511627776) (r : Rd) : ∃ k, Pa.horologeref06_code.f k s r.p r.e = some ((rdProg s r).1.map toS, (rdProg s r).2.p, (rdProg s r).2.e) := by
  by_cases he : (cnt s r).2.e = 0
  · have hr := cnt_range s r he
    have h := code_l0 s hs (cnt s r).1.toNat (by omega) (cnt s r).1.toNat [] (cnt s r).2 (by simp)
    refine ⟨2 * (cnt s r).1.toNat + 22, ?_⟩
    unfold Pa.horologeref06_code.f
    have e1 := refCount_at s r hs (2 * (cnt s r).1.toNat + 2)
    rw [show 20 + (2 * (cnt s r).1.toNat + 2) = 2 * (cnt s r).1.toNat + 22 by omega] at e1
    rw [e1, Option.bind_some]
    dsimp only
    rw [show (((cnt s r).1.toNat : Nat) : Int) = (cnt s r).1 by omega] at h
    exact h
  · refine ⟨24, ?_⟩
    unfold Pa.horologeref06_code.f
    rw [refCount_at s r hs 4, Option.bind_some]
    dsimp only
    have e0 : rdProg s r = ([], (cnt s r).2) := by unfold rdProg itms; exact rep_stop _ _ _ (.inr he)
    rw [e0, Pa.horologeref06_code.l0]
    by_cases hlt : (0 : Int) < (cnt s r).1
    · rw [if_pos hlt, Pa.horologeref06_code.j1, if_neg (by rw [beq_iff_eq]; exact he)]; rfl
    · rw [if_neg hlt, Pa.horologeref06_code.j1, if_neg (by decide)]; rfl

theorem proc_l0 (s : ByteArray) (hs : s.size ≤ 1099511627776) (pr : Int) (N : Nat) (hN : N ≤ 48) : ∀ (d : Nat) (acc : List Int) (r : Rd), acc.length + d = N →
    Pa.horologeref06_process.l0 (d + 22) s N acc.length r.p r.e pr acc = some (pr, acc ++ (rep (rdInt s) d r).1, (rep (rdInt s) d r).2.p, (rep (rdInt s) d r).2.e)
  | 0, acc, r, h => by
    rw [Pa.horologeref06_process.l0, if_neg (by omega)]
    simp [rep]
  | d + 1, acc, r, h => by
    rw [show d + 1 + 22 = (d + 22) + 1 by omega, Pa.horologeref06_process.l0, if_pos (by omega)]
    by_cases he : r.e = 0
    · rw [if_pos he]
      have e1 := refInt_at s r hs (d + 2)
      rw [show 20 + (d + 2) = d + 22 by omega] at e1
      rw [e1, Option.bind_some]; dsimp only
      rw [if_pos (by omega)]
      have ew : wrap64 ((acc.length : Int) + 1) = ((acc ++ [(rdInt s r).1]).length : Nat) := by rw [List.length_append]; simp; unfold wrap64; omega
      have ih := proc_l0 s hs pr N hN d (acc ++ [(rdInt s r).1]) (rdInt s r).2 (by simp; omega)
      rw [ew, rep_go _ _ _ he]
      refine ih.trans ?_
      simp
    · rw [if_neg he, rep_stop _ _ _ (.inr he)]
      simp
theorem proc_is (s : ByteArray) (hs : s.size ≤ 1099511627776) (r : Rd) : ∃ k, Pa.horologeref06_process.f k s r.p r.e = some ((rdLP s r).1.prog, (rdLP s r).1.words, (rdLP s r).2.p, (rdLP s r).2.e) := by
  by_cases he : (cnt s (rdInt s r).2).2.e = 0
  · have hr := cnt_range s (rdInt s r).2 he
    have h := proc_l0 s hs (rdInt s r).1 (cnt s (rdInt s r).2).1.toNat (by omega) (cnt s (rdInt s r).2).1.toNat [] (cnt s (rdInt s r).2).2 (by simp)
    refine ⟨(cnt s (rdInt s r).2).1.toNat + 22, ?_⟩
    unfold Pa.horologeref06_process.f
    have e0 := refInt_at s r hs ((cnt s (rdInt s r).2).1.toNat + 2)
    have e1 := refCount_at s (rdInt s r).2 hs ((cnt s (rdInt s r).2).1.toNat + 2)
    rw [show 20 + ((cnt s (rdInt s r).2).1.toNat + 2) = (cnt s (rdInt s r).2).1.toNat + 22 by omega] at e0 e1
    rw [e0, Option.bind_some]; dsimp only
    rw [e1, Option.bind_some]
    dsimp only
    rw [show (((cnt s (rdInt s r).2).1.toNat : Nat) : Int) = (cnt s (rdInt s r).2).1 by omega] at h
    exact h
  · refine ⟨24, ?_⟩
    unfold Pa.horologeref06_process.f
    rw [refInt_at s r hs 4, Option.bind_some]; dsimp only
    rw [refCount_at s (rdInt s r).2 hs 4, Option.bind_some]
    dsimp only
    have e0 : itms s (rdInt s) (rdInt s r).2 = ([], (cnt s (rdInt s r).2).2) := by unfold itms; exact rep_stop _ _ _ (.inr he)
    unfold rdLP
    rw [e0, Pa.horologeref06_process.l0]
    by_cases hlt : (0 : Int) < (cnt s (rdInt s r).2).1
    · rw [if_pos hlt, if_neg he]
    · rw [if_neg hlt]
end Go.Proofs.Ytkoopobfelcgpaa
end -- E1

section -- E2
/- layer 6: the reference's reading: code, process, Float; the worlds of its Get -/
set_option linter.unusedSimpArgs false
set_option linter.unusedVariables false
namespace Go.Proofs.Ytkoopobfelcgpaa
open Go.RowKit Go.Proofs.YtkoopobfelcgpaaW.PrintWords Go.Proofs.YtkoopobfelcgpaaW.PrintMore

theorem kS_M {w : World} {base : Nat} {ok : Nat → Prop} {x : PIns} {cs : List Value} (h : Pa.k34.M w base ok (toS x) cs) : kIns.M w base ok x cs := by
  obtain ⟨_, _, rfl, rfl, ⟨_, _, rfl, rfl, ⟨_, _, rfl, rfl, rfl⟩⟩⟩ := h
  exact kIns_mk _ _ _ x
theorem kS_R {w : World} {base : Nat} {ok : Nat → Prop} {v : Value} {l : List PIns} (h : Pa.k34.R 34 w base ok v (l.map toS)) : kIns.R 34 w base ok v l := by
  obtain ⟨h0, inner, ho, hl, hr⟩ := h
  rw [List.length_map] at ho hl
  refine ⟨h0, inner, ho, hl, fun j p hp => kS_M (hr j (toS p) ?_)⟩
  rw [List.getElem?_map, hp]; rfl
theorem refCode_any (s : ByteArray) (r : Rd) (hs : s.size ≤ 1099511627776) (w : World) : Calls Try.prog 126 #[.string s, .agg #[.int .i64 r.p, .int .i64 r.e]] w fun e w' => ∃ v, e = .returned (.tuple #[v, .agg #[.int .i64 (rdProg s r).2.p, .int .i64 (rdProg s r).2.e]]) ∧ kIns.R 34 w' w.heap.size (fun _ => True) v (rdProg s r).1 ∧ Gr w w' := by
  obtain ⟨k, hk⟩ := code_is s hs r
  exact (Pa.horologeref06_code.calls k s r.p r.e _ _ _ w hk).mono fun e w' ⟨v, h1, h2, h3⟩ => ⟨v, h1, kS_R h2, h3⟩
theorem refProc_any (s : ByteArray) (r : Rd) (hs : s.size ≤ 1099511627776) (w : World) : Calls Try.prog 127 #[.string s, .agg #[.int .i64 r.p, .int .i64 r.e]] w fun e w' => ∃ v, e = .returned (.tuple #[.agg #[.int .i64 (rdLP s r).1.prog, v], .agg #[.int .i64 (rdLP s r).2.p, .int .i64 (rdLP s r).2.e]]) ∧ kI.R 3 w' w.heap.size (fun _ => True) v (rdLP s r).1.words ∧ Gr w w' := by
  obtain ⟨k, hk⟩ := proc_is s hs r
  exact Pa.horologeref06_process.calls k s r.p r.e _ _ _ _ w hk

set_option maxHeartbeats 1000000 in
set_option maxRecDepth 100000 in
theorem refFloat_any (s : ByteArray) (r : Rd) (hs : s.size ≤ 1099511627776) (w : World) : Calls Try.prog 124 #[.string s, .agg #[.int .i64 r.p, .int .i64 r.e]] w fun e w' => e = .returned (.tuple #[.float .f64 (rdFloat s r).1, .agg #[.int .i64 (rdFloat s r).2.p, .int .i64 (rdFloat s r).2.e]]) ∧ Gr w w' := by
  have hx := run_frombits
  by_cases he : r.e = 0
  · have hb : (r.e != 0) = false := by rw [bne_eq_false_iff_eq]; exact he
    have HV := Lib.hid (show rdFloat s r = ((readU s r.p).1.toNat, ⟨(readU s r.p).2.1, (readU s r.p).2.2⟩) by unfold rdFloat; rw [if_pos he])
    clear he
    go_enter Try.func124, Try.ntmps124
    go_wp2_with (go_at_call 160; refine (refReadU_any s r.p hs _).mono ?_; rintro e w2 ⟨rfl, hg⟩
                 have hz : Out 160 w2 (w.heap.size + 1) [.int .i64 0, .int .i64 0] := Out.gr (Out.newAt (by simp)) hg
                 have k0 := hz.cell (i := 0) rfl
                 have k1 := hz.cell (i := 1) rfl
                 have f0 := hz.free 0
                 have f1 := hz.free 1
                 have lt0 := Out.lt hz
                 have HZ := Lib.hid hz
                 have HG := Lib.hid (show Gr w w2 from (((Gr.refl w).alloc _).alloc _).trans hg)
                 clear hz hg)
    have hz2 := (HZ.out.set 0 (.int .i64 (readU s r.p).2.1)).set 1 (.int .i64 (readU s r.p).2.2)
    have z0 := hz2.cell (i := 0) rfl
    have z1 := hz2.cell (i := 1) rfl
    clear k0 k1 hx hz2
    refine bodyPost_ret (v := .tuple #[.float .f64 (readU s r.p).1.toNat, .agg #[.int .i64 (readU s r.p).2.1, .int .i64 (readU s r.p).2.2]]) ?_ rfl ⟨by rw [HV.out], (HG.out.setCell (p := ⟨w.heap.size + 1, 0, none⟩) (Nat.le_succ _) _).setCell (p := ⟨w.heap.size + 1, 1, none⟩) (Nat.le_succ _) _⟩
    simp [results, Try.results124, go_sem, z0, z1]
  · have hb : (r.e != 0) = true := by rw [bne_iff_ne]; exact he
    have HV := Lib.hid (show rdFloat s r = (0, r) by unfold rdFloat; rw [if_neg he])
    clear he
    go_enter Try.func124, Try.ntmps124
    go_wp2
    go_region_with (fail)
    all_goals
      try simp only [List.getElem_toArray, List.getElem_cons_succ, List.getElem_cons_zero, Act.put, List.setIfInBounds_toArray, List.set_cons_succ, List.set_cons_zero]
      go_wp2
      have hz : Out 160 (((w.alloc (.cells #[.int .i64 r.p, .int .i64 r.e] 160)).alloc (.cells #[.int .i64 r.p, .int .i64 r.e] 160)).drew) (w.heap.size + 1) [.int .i64 r.p, .int .i64 r.e] := Out.drew (Out.newAt (by simp))
      have z0 := hz.cell (i := 0) rfl
      have z1 := hz.cell (i := 1) rfl
      clear hz hx
      refine bodyPost_ret (v := .tuple #[.float .f64 0, .agg #[.int .i64 r.p, .int .i64 r.e]]) ?_ rfl ⟨by rw [HV.out], (((Gr.refl w).alloc _).alloc _).drew⟩
      simp [results, Try.results124, go_sem, z0, z1]

/-- another row, of another element type, has grown -/
theorem R_apart {α β : Type} {d : Kd α} {d' : Kd β} {e e' base base' : Nat} {ok ok' : Nat → Prop} {W W' : World} {v v' : Value} {xs : List α} {ys : List β} (h : d.R e W base ok v xs) (h' : d'.R e' W base' ok' v' ys) (ht : ∀ q, q ∈ e :: d.E → q ≠ e') (hg : W.grownBy W' v'.ownBlock) : d.R e W' base ok v xs := by
  obtain ⟨inner, ho⟩ := Kd.R_own h'
  refine Kd.R_mono (Kd.R_grown (Kd.R_mono (Kd.R_bound h) (ok' := fun k => ok k ∧ some k ≠ v'.ownBlock) (fun k hk => ⟨hk.1, fun ek => ?_⟩)) hg (fun k hk => hk.2)) (fun _ hk => hk.1)
  obtain ⟨_, _, _, q, hq, cells, hc⟩ := hk
  obtain ⟨cells', hc'⟩ := own_typed ho k ek.symm
  rw [hc] at hc'
  injection hc' with hc'
  injection hc' with _ hc'
  exact ht q hq hc'
theorem Out.apart {β : Type} {d' : Kd β} {T e' O base' : Nat} {ok' : Nat → Prop} {W W' : World} {v' : Value} {ys : List β} {cs : List Value} (h : Out T W O cs) (h' : d'.R e' W base' ok' v' ys) (ht : T ≠ e') (hg : W.grownBy W' v'.ownBlock) : Out T W' O cs := by
  obtain ⟨inner, ho⟩ := Kd.R_own h'
  refine (hg.block O (Out.lt h) (fun e1 => ?_)).trans h
  obtain ⟨cells, hc⟩ := own_typed ho O e1.symm
  rw [Out.is h] at hc
  injection hc with hc
  injection hc with _ hc
  exact ht hc

/-- the worlds of the reference's Get: the place at AB, the model that it fills at MB, the result behind the call's own first block -/
structure RG (w0 : World) (AB MB : Nat) (r : Rd) (cs : List Value) (vd vp vl vi : Value) (ds : List Nat) (ps : List (List PIns)) (ls : List PLP) (is : List PInit) (W : World) : Prop where
  g : Gr w0 W
  hA : w0.heap.size < AB
  hM : w0.heap.size < MB
  hne : AB ≠ MB
  oA : Out 160 W AB [.int .i64 r.p, .int .i64 r.e]
  oM : Out 28 W MB cs
  oR : Out 28 W w0.heap.size zero28
  d : kF.R 22 W w0.heap.size (fun _ => True) vd ds
  p : kProg.R 38 W w0.heap.size (fun _ => True) vp ps
  l : kLP.R 41 W w0.heap.size (fun _ => True) vl ls
  i : kInit.R 43 W w0.heap.size (fun _ => True) vi is
section
variable {w0 W W' : World} {AB MB : Nat} {r : Rd} {cs : List Value} {vd vp vl vi : Value} {ds : List Nat} {ps : List (List PIns)} {ls : List PLP} {is : List PInit}
theorem RG.gr (h : RG w0 AB MB r cs vd vp vl vi ds ps ls is W) (g : Gr W W') : RG w0 AB MB r cs vd vp vl vi ds ps ls is W' :=
  ⟨h.g.trans g, h.hA, h.hM, h.hne, h.oA.gr g, h.oM.gr g, h.oR.gr g, Kd.R_below h.d g, Kd.R_below h.p g, Kd.R_below h.l g, Kd.R_below h.i g⟩
theorem RG.setM (h : RG w0 AB MB r cs vd vp vl vi ds ps ls is W) (i : Nat) (u : Value) : RG w0 AB MB r (cs.set i u) vd vp vl vi ds ps ls is (W.setCell ⟨MB, i, none⟩ u) :=
  ⟨h.g.setCell (p := ⟨MB, i, none⟩) (Nat.le_of_lt h.hM) u, h.hA, h.hM, h.hne, h.oA.set_other h.hne, h.oM.set i u, h.oR.set_other (Nat.ne_of_lt h.hM), Kd.R_set h.d (Out.is h.oM) (by decide) i u, Kd.R_set h.p (Out.is h.oM) (by decide) i u, Kd.R_set h.l (Out.is h.oM) (by decide) i u, Kd.R_set h.i (Out.is h.oM) (by decide) i u⟩
/-- a store into another block of the document's places -/
theorem RG.setB (h : RG w0 AB MB r cs vd vp vl vi ds ps ls is W) {O : Nat} {bs : List Value} (ho : Out 160 W O bs) (hO : w0.heap.size < O) (hA : O ≠ AB) (hM : O ≠ MB) (i : Nat) (u : Value) : RG w0 AB MB r cs vd vp vl vi ds ps ls is (W.setCell ⟨O, i, none⟩ u) :=
  ⟨h.g.setCell (p := ⟨O, i, none⟩) (Nat.le_of_lt hO) u, h.hA, h.hM, h.hne, h.oA.set_other (fun e => hA e.symm), h.oM.set_other (fun e => hM e.symm), h.oR.set_other (Nat.ne_of_lt hO), Kd.R_set h.d (Out.is ho) (by decide) i u, Kd.R_set h.p (Out.is ho) (by decide) i u, Kd.R_set h.l (Out.is ho) (by decide) i u, Kd.R_set h.i (Out.is ho) (by decide) i u⟩
theorem RG.setA (h : RG w0 AB MB r cs vd vp vl vi ds ps ls is W) (r' : Rd) : RG w0 AB MB r' cs vd vp vl vi ds ps ls is ((W.setCell ⟨AB, 0, none⟩ (.int .i64 r'.p)).setCell ⟨AB, 1, none⟩ (.int .i64 r'.e)) :=
  ⟨(h.g.setCell (p := ⟨AB, 0, none⟩) (Nat.le_of_lt h.hA) _).setCell (p := ⟨AB, 1, none⟩) (Nat.le_of_lt h.hA) _, h.hA, h.hM, h.hne, (h.oA.set 0 (.int .i64 r'.p)).set 1 (.int .i64 r'.e), (h.oM.set_other (fun e => h.hne e.symm)).set_other (fun e => h.hne e.symm), (h.oR.set_other (Nat.ne_of_lt h.hA)).set_other (Nat.ne_of_lt h.hA),
    Kd.R_set (Kd.R_set h.d (Out.is h.oA) (by decide) 0 _) (Out.is (h.oA.set 0 (.int .i64 r'.p))) (by decide) 1 _, Kd.R_set (Kd.R_set h.p (Out.is h.oA) (by decide) 0 _) (Out.is (h.oA.set 0 (.int .i64 r'.p))) (by decide) 1 _,
    Kd.R_set (Kd.R_set h.l (Out.is h.oA) (by decide) 0 _) (Out.is (h.oA.set 0 (.int .i64 r'.p))) (by decide) 1 _, Kd.R_set (Kd.R_set h.i (Out.is h.oA) (by decide) 0 _) (Out.is (h.oA.set 0 (.int .i64 r'.p))) (by decide) 1 _⟩
theorem grownR {β : Type} {d' : Kd β} {e' : Nat} {ok' : Nat → Prop} {v' : Value} {ys : List β} (g : Gr w0 W) (h' : d'.R e' W w0.heap.size ok' v' ys) (hg : W.grownBy W' v'.ownBlock) : Gr w0 W' := by
  obtain ⟨inner, ho⟩ := Kd.R_own h'
  refine Gr.trans' g ⟨hg.os, hg.tape, hg.output, hg.size, fun k hk => hg.block k (Nat.lt_of_lt_of_le hk g.size) (fun e => ?_)⟩
  have := own_base ho k e.symm
  omega
theorem RG.grownD (h : RG w0 AB MB r cs vd vp vl vi ds ps ls is W) (hg : W.grownBy W' vd.ownBlock) {v' : Value} {xs' : List Nat} (hn : kF.R 22 W' w0.heap.size (fun _ => True) v' xs') : RG w0 AB MB r cs v' vp vl vi xs' ps ls is W' :=
  ⟨grownR h.g h.d hg, h.hA, h.hM, h.hne, h.oA.apart h.d (by decide) hg, h.oM.apart h.d (by decide) hg, h.oR.apart h.d (by decide) hg, hn, R_apart h.p h.d (by decide) hg, R_apart h.l h.d (by decide) hg, R_apart h.i h.d (by decide) hg⟩
theorem RG.grownP (h : RG w0 AB MB r cs vd vp vl vi ds ps ls is W) (hg : W.grownBy W' vp.ownBlock) {v' : Value} {xs' : List (List PIns)} (hn : kProg.R 38 W' w0.heap.size (fun _ => True) v' xs') : RG w0 AB MB r cs vd v' vl vi ds xs' ls is W' :=
  ⟨grownR h.g h.p hg, h.hA, h.hM, h.hne, h.oA.apart h.p (by decide) hg, h.oM.apart h.p (by decide) hg, h.oR.apart h.p (by decide) hg, R_apart h.d h.p (by decide) hg, hn, R_apart h.l h.p (by decide) hg, R_apart h.i h.p (by decide) hg⟩
theorem RG.grownL (h : RG w0 AB MB r cs vd vp vl vi ds ps ls is W) (hg : W.grownBy W' vl.ownBlock) {v' : Value} {xs' : List PLP} (hn : kLP.R 41 W' w0.heap.size (fun _ => True) v' xs') : RG w0 AB MB r cs vd vp v' vi ds ps xs' is W' :=
  ⟨grownR h.g h.l hg, h.hA, h.hM, h.hne, h.oA.apart h.l (by decide) hg, h.oM.apart h.l (by decide) hg, h.oR.apart h.l (by decide) hg, R_apart h.d h.l (by decide) hg, R_apart h.p h.l (by decide) hg, hn, R_apart h.i h.l (by decide) hg⟩
theorem RG.grownI (h : RG w0 AB MB r cs vd vp vl vi ds ps ls is W) (hg : W.grownBy W' vi.ownBlock) {v' : Value} {xs' : List PInit} (hn : kInit.R 43 W' w0.heap.size (fun _ => True) v' xs') : RG w0 AB MB r cs vd vp vl v' ds ps ls xs' W' :=
  ⟨grownR h.g h.i hg, h.hA, h.hM, h.hne, h.oA.apart h.i (by decide) hg, h.oM.apart h.i (by decide) hg, h.oR.apart h.i (by decide) hg, R_apart h.d h.i (by decide) hg, R_apart h.p h.i (by decide) hg, R_apart h.l h.i (by decide) hg, hn⟩
end
end Go.Proofs.Ytkoopobfelcgpaa
end -- E2

section -- E3
/- layer 6: the reference's Get -/
set_option linter.unusedSimpArgs false
set_option linter.unusedVariables false
namespace Go.Proofs.Ytkoopobfelcgpaa
open Go.RowKit Go.Proofs.YtkoopobfelcgpaaW.PrintWords Go.Proofs.YtkoopobfelcgpaaW.PrintMore

theorem refA_any (s : ByteArray) (hs : s.size ≤ 1099511627776) (w : World) : Calls Try.prog 123 #[.string s, .agg #[.int .i64 0, .int .i64 0]] w fun e w' => e = .returned (.tuple #[.int .i64 (rA s).1, .agg #[.int .i64 (rA s).2.p, .int .i64 (rA s).2.e]]) ∧ Gr w w' := refInt_any s ⟨0, 0⟩ hs w
theorem refB_any (s : ByteArray) (hs : s.size ≤ 1099511627776) (w : World) : Calls Try.prog 124 #[.string s, .agg #[.int .i64 (rA s).2.p, .int .i64 (rA s).2.e]] w fun e w' => e = .returned (.tuple #[.float .f64 (rB s).1, .agg #[.int .i64 (rB s).2.p, .int .i64 (rB s).2.e]]) ∧ Gr w w' := refFloat_any s (rA s).2 hs w
theorem cnt_nat (s : ByteArray) (r : Rd) : ∃ N : Nat, N ≤ 48 ∧ (cnt s r).1 = N := by
  by_cases h : (cnt s r).2.e = 0
  · have := cnt_range s r h
    exact ⟨(cnt s r).1.toNat, by omega, by omega⟩
  · refine ⟨0, by omega, ?_⟩
    unfold cnt at h ⊢
    split
    · rfl
    · rename_i h2
      rw [if_neg h2] at h
      unfold rdInt at h ⊢
      split
      · rename_i h3
        rw [if_pos h3] at h
        dsimp only at h ⊢
        unfold readI at h ⊢
        split
        · rename_i h4; rw [if_pos h4] at h; exact absurd rfl h
        · rfl
      · rfl
theorem checkRef_any (s : ByteArray) (v1 v2 v3 v4 : Value) (w : World) (h : ModelAt w v1 v2 v3 v4 (rawM s)) :
    Calls Try.prog 32 #[.agg #[.int .i64 (rA s).1, .float .f64 (rB s).1, v1, v2, v3, v4]] w fun e w' => e = .returned (.int .i64 (checkE (rawM s))) ∧ Gr w w' := RCheck_any (rawM s) v1 v2 v3 v4 w h
theorem itms_end {α : Type} {s : ByteArray} {one : Rd → α × Rd} {r r' : Rd} {xs : List α} {N : Nat} (h : itms s one r = (xs ++ (rep one (N - xs.length) r').1, (rep one (N - xs.length) r').2)) (hstop : ¬ (xs.length < N ∧ r'.e = 0)) : xs = (itms s one r).1 ∧ r' = (itms s one r).2 := by
  rw [rep_stop one _ _ (if h1 : xs.length < N then .inr (fun h2 => hstop ⟨h1, h2⟩) else .inl (by omega))] at h
  rw [h]; simp

set_option maxHeartbeats 8000000 in
set_option maxRecDepth 100000 in
theorem RGet_any (s : ByteArray) (w : World) (hs : s.size ≤ 1099511627776) :
    Calls Try.prog 43 #[.string s] w fun e W => ∃ v1 v2 v3 v4, e = .returned (.tuple #[.agg #[.int .i64 (getM s).1.seed, .float .f64 (getM s).1.fin, v1, v2, v3, v4], .int .i64 (getM s).2]) ∧ ModelAt W v1 v2 v3 v4 (getM s).1 ∧ Gr w W := by
  obtain ⟨N1, hN1, hn1⟩ := cnt_nat s (rB s).2
  have HN1 := Lib.hid hn1
  clear hn1
  go_enter Try.func43, Try.ntmps43
  go_upto_block 0 with (first
    | (go_at_call 123
       refine (refA_any s hs _).mono ?_
       rintro e w1 ⟨rfl, hg1⟩
       have HG1 := Lib.hid hg1
       have hz1 := hg1.size
       simp only [World.size_alloc] at hz1
       have HO1 := Lib.hid (Out.gr (Out.new (w := w) (T := 28) (cs := zero28)) hg1)
       clear hg1)
    | (go_at_call 124
       refine (refB_any s hs _).mono ?_
       rintro e w2 ⟨rfl, hg2⟩
       have ha := Out.gr (Out.new (w := w1) (T := 160) (cs := [.int .i64 (rA s).2.p, .int .i64 (rA s).2.e])) hg2
       have a0 := ha.cell (i := 0) rfl
       have a1 := ha.cell (i := 1) rfl
       have b0 := ha.free 0
       have b1 := ha.free 1
       have lta := Out.lt ha
       have HA2 := Lib.hid ((ha.set 0 (.int .i64 (rB s).2.p)).set 1 (.int .i64 (rB s).2.e))
       have HG2 := Lib.hid (show Gr w ((w2.setCell ⟨w1.heap.size, 0, none⟩ (.int .i64 (rB s).2.p)).setCell ⟨w1.heap.size, 1, none⟩ (.int .i64 (rB s).2.e)) from
         Gr.setCell (p := ⟨w1.heap.size, 1, none⟩) (Gr.setCell (p := ⟨w1.heap.size, 0, none⟩) ((((Gr.refl w).alloc _).trans HG1.out).trans (((Gr.refl w1).alloc _).trans hg2)) (by show w.heap.size ≤ w1.heap.size; omega) _) (by show w.heap.size ≤ w1.heap.size; omega) _)
       have HR2 := Lib.hid (show Out 28 ((w2.setCell ⟨w1.heap.size, 0, none⟩ (.int .i64 (rB s).2.p)).setCell ⟨w1.heap.size, 1, none⟩ (.int .i64 (rB s).2.e)) w.heap.size zero28 from ((Out.gr (HO1.out.alloc _) hg2).set_other (by omega)).set_other (by omega))
       have z0 := HA2.out.cell (i := 0) rfl
       have z1 := HA2.out.cell (i := 1) rfl
       clear ha hg2)
    | (go_at_call 125
       refine (refCount_any s (rB s).2 hs _).mono ?_
       rintro e w3 ⟨rfl, hg3⟩
       rw [HN1.out]
       have HRG := Lib.hid (show RG w w1.heap.size w2.heap.size (rB s).2 [.int .i64 (rA s).1, .float .f64 (rB s).1, .slice none 0 0, .slice none 0 0, .slice none 0 0, .slice none 0 0] (.slice none 0 0) (.slice none 0 0) (.slice none 0 0) (.slice none 0 0) [] [] [] [] w3 from
         RG.gr ⟨HG2.out.alloc (.cells #[.int .i64 (rA s).1, .float .f64 (rB s).1, .slice none 0 0, .slice none 0 0, .slice none 0 0, .slice none 0 0] 28), by omega, by omega, by omega, HA2.out.alloc _, Out.newAt (cs := [.int .i64 (rA s).1, .float .f64 (rB s).1, .slice none 0 0, .slice none 0 0, .slice none 0 0, .slice none 0 0]) (by simp [World.size_setCell]), HR2.out.alloc _, Kd.R_nil _ _ _ _ _, Kd.R_nil _ _ _ _ _, Kd.R_nil _ _ _ _ _, Kd.R_nil _ _ _ _ _⟩ hg3)
       have a0 := HRG.out.oA.cell (i := 0) rfl
       have a1 := HRG.out.oA.cell (i := 1) rfl
       have b0 := HRG.out.oA.free 0
       have b1 := HRG.out.oA.free 1
       have lta := Out.lt HRG.out.oA
       have HRG2 := Lib.hid (HRG.out.setA (cnt s (rB s).2).2)
       clear hg3))
  go_cut [9, 10, 11] from 45 to 67 (fun _ _ _ W => ∃ a m c, RG w w1.heap.size w2.heap.size (rD s).2 [.int .i64 (rA s).1, .float .f64 (rB s).1, .slice a m c, .slice none 0 0, .slice none 0 0, .slice none 0 0] (.slice a m c) (.slice none 0 0) (.slice none 0 0) (.slice none 0 0) (rD s).1 [] [] [] W)
  case first =>
    go_wp2_with fail
    go_loopg [9] N1 (fun g i wr => ∃ (xs : List Nat) (r' : Rd) (a : Option Addr) (m c : Nat), g + xs.length = N1 ∧ i = .int .i64 xs.length ∧ RG w w1.heap.size w2.heap.size r' [.int .i64 (rA s).1, .float .f64 (rB s).1, .slice a m c, .slice none 0 0, .slice none 0 0, .slice none 0 0] (.slice a m c) (.slice none 0 0) (.slice none 0 0) (.slice none 0 0) xs [] [] [] wr ∧ rD s = (xs ++ (rep (rdFloat s) (N1 - xs.length) r').1, (rep (rdFloat s) (N1 - xs.length) r').2))
    case atStart => exact ⟨[], _, none, 0, 0, by simp, rfl, HRG2.out, by show itms s (rdFloat s) (rB s).2 = _; unfold itms; rw [HN1.out]; rfl⟩
    case round =>
      obtain ⟨xs, r', a, m, c, hk, rfl, hrg, hit⟩ := hrel
      have HRG := Lib.hid hrg
      have HIT := Lib.hid hit
      have b1 := hrg.oA.cell (i := 1) rfl
      clear hrg hit HRG2
      by_cases hgo : xs.length < N1 ∧ r'.e = 0
      case neg =>
        have HEND := Lib.hid (itms_end (s := s) (one := rdFloat s) (r := (rB s).2) HIT.out hgo)
        have HF := Lib.hid (show RG w w1.heap.size w2.heap.size (rD s).2 [.int .i64 (rA s).1, .float .f64 (rB s).1, .slice a m c, .slice none 0 0, .slice none 0 0, .slice none 0 0] (.slice a m c) (.slice none 0 0) (.slice none 0 0) (.slice none 0 0) (rD s).1 [] [] [] wr from by
          have h := HRG.out
          rw [HEND.out.1, HEND.out.2] at h
          exact h)
        by_cases hlt : xs.length < N1
        case pos =>
          have he1 : (r'.e == 0) = false := by rw [beq_eq_false_iff_ne]; exact fun h2 => hgo ⟨hlt, h2⟩
          clear hgo
          go_wp2
          go_meet
          case rel => exact ⟨_, _, _, HF.out⟩
        case neg =>
          clear hgo
          go_wp2
          go_meet
          case rel => exact ⟨_, _, _, HF.out⟩
      case pos =>
        obtain ⟨hlt, he'⟩ := hgo
        have he1 : (r'.e == 0) = true := by rw [beq_iff_eq]; exact he'
        have b0 := HRG.out.oA.cell (i := 0) rfl
        have HE' := Lib.hid he'
        have HSUC := Lib.hid (show N1 - xs.length = (N1 - (xs.length + 1)) + 1 by omega)
        clear he'
        go_wp2_with (first
          | (go_at_call 124
             refine (refFloat_any s r' hs _).mono ?_
             rintro e w4 ⟨rfl, hg4⟩
             have HRG4 := Lib.hid (HRG.out.gr hg4)
             have hlm := Out.lt HRG4.out.oM
             have hla := Out.lt HRG4.out.oA
             have HRGb := Lib.hid (show RG w w1.heap.size w2.heap.size r' [.int .i64 (rA s).1, .float .f64 (rB s).1, .slice a m c, .slice none 0 0, .slice none 0 0, .slice none 0 0] (.slice a m c) (.slice none 0 0) (.slice none 0 0) (.slice none 0 0) xs [] [] [] (w4.alloc (.cells #[.int .i64 (rdFloat s r').2.p, .int .i64 (rdFloat s r').2.e] 160)) from HRG4.out.gr ((Gr.refl _).alloc _))
             have u0 := HRGb.out.oM.cell (i := 2) rfl
             have HBX := Lib.hid (Out.new (w := w4) (T := 160) (cs := [.int .i64 (rdFloat s r').2.p, .int .i64 (rdFloat s r').2.e]))
             have HBL := Lib.hid hlm
             clear hg4)
          | (at_builtin; refine Kd.R_append kF (w0 := (w4.alloc (.cells #[.int .i64 (rdFloat s r').2.p, .int .i64 (rdFloat s r').2.e] 160))) (W := (w4.alloc (.cells #[.int .i64 (rdFloat s r').2.p, .int .i64 (rdFloat s r').2.e] 160))) w.heap.size rfl _ _ 23 22 (.float .f64 0) 8 rfl Try.underlying23 j22 rfl (by decide) (by omega) (.slice a m c) xs (rdFloat s r').1 [.float .f64 (rdFloat s r').1] (fun _ => True) (fun k => True ∧ some k ≠ (Value.slice a m c).ownBlock) rfl (by simp only [World.size_alloc, World.size_setCell]; rfl) (rfl) (fun k hk => ⟨trivial, hk.2⟩) (fun _ _ => trivial) HRGb.out.d (Below.refl _ _) (HRGb.out.g.size) (by omega) ?_
             intro v5 w5 hown5 hbel5 hgr5 hat5
             obtain ⟨a5, m5, c5, ev⟩ : ∃ a m c, v5 = .slice a m c := by obtain ⟨a, c, e⟩ := Kd.R_slice hown5; exact ⟨a, _, c, e⟩
             subst ev
             have hbx := HBX.out.apart HRGb.out.d (by decide) hgr5
             have hr5 := HRGb.out.grownD hgr5 hown5
             have t0 := hr5.oM.cell (i := 2) rfl
             have t1 := hr5.oM.free 2
             have t2 := Out.lt hr5.oM
             have hbx2 := hbx.set_other (O' := w2.heap.size) (i := 2) (v := .slice a5 m5 c5) (by have := HBL.out; omega)
             have x0 := hbx2.cell (i := 0) rfl
             have x1 := hbx2.cell (i := 1) rfl
             have hr6 := hr5.setM 2 (.slice a5 m5 c5)
             have y0 := hr6.oA.cell (i := 0) rfl
             have y1 := hr6.oA.cell (i := 1) rfl
             have y2 := hr6.oA.free 0
             have y3 := hr6.oA.free 1
             have y4 := Out.lt hr6.oA
             have HR7 := Lib.hid (hr6.setA (rdFloat s r').2)
             clear hown5 hbel5 hgr5 hat5 hbx hr5 hbx2 hr6))
        go_roundg (N1 - (xs.length + 1))
        case measure => omega
        case rel => exact ⟨xs ++ [(rdFloat s r').1], (rdFloat s r').2, a5, m5, c5, by simp; omega, by simp, HR7.out, by rw [HIT.out, HSUC.out, rep_go _ _ _ HE'.out]; simp⟩
  case rest =>
    obtain ⟨a1, m1, c1, hrg⟩ := hcut
    have HRG0 := Lib.hid hrg
    have d0 := hrg.oA.cell (i := 0) rfl
    have d1 := hrg.oA.cell (i := 1) rfl
    clear hrg HRG2
    obtain ⟨N2, hN2, hn2⟩ := cnt_nat s (rD s).2
    have HN2 := Lib.hid hn2
    clear hn2
    go_upto_block 2 with (
       go_at_call 125
       refine (refCount_any s (rD s).2 hs _).mono ?_
       rintro e w3 ⟨rfl, hg3⟩
       rw [HN2.out]
       have HRG1 := Lib.hid (HRG0.out.gr hg3)
       have b0 := HRG1.out.oA.cell (i := 0) rfl
       have b1 := HRG1.out.oA.cell (i := 1) rfl
       have b2 := HRG1.out.oA.free 0
       have b3 := HRG1.out.oA.free 1
       have lta := Out.lt HRG1.out.oA
       have HRG2 := Lib.hid (HRG1.out.setA (cnt s (rD s).2).2)
       clear hg3)
    go_cut [12, 13, 14] from 74 to 96 (fun _ _ _ W => ∃ a m c, RG w w1.heap.size w2.heap.size (rP s).2 [.int .i64 (rA s).1, .float .f64 (rB s).1, .slice a1 m1 c1, .slice a m c, .slice none 0 0, .slice none 0 0] (.slice a1 m1 c1) (.slice a m c) (.slice none 0 0) (.slice none 0 0) (rD s).1 (rP s).1 [] [] W)
    case first =>
      go_wp2_with fail
      go_loopg [12] N2 (fun g i wr => ∃ (xs : List (List PIns)) (r' : Rd) (a : Option Addr) (m c : Nat), g + xs.length = N2 ∧ i = .int .i64 xs.length ∧ RG w w1.heap.size w2.heap.size r' [.int .i64 (rA s).1, .float .f64 (rB s).1, .slice a1 m1 c1, .slice a m c, .slice none 0 0, .slice none 0 0] (.slice a1 m1 c1) (.slice a m c) (.slice none 0 0) (.slice none 0 0) (rD s).1 xs [] [] wr ∧ rP s = (xs ++ (rep (rdProg s) (N2 - xs.length) r').1, (rep (rdProg s) (N2 - xs.length) r').2))
      case atStart => exact ⟨[], _, none, 0, 0, by simp, rfl, HRG2.out, by show itms s (rdProg s) (rD s).2 = _; unfold itms; rw [HN2.out]; rfl⟩
      case round =>
        obtain ⟨xs, r', a, m, c, hk, rfl, hrg, hit⟩ := hrel
        have HRG := Lib.hid hrg
        have HIT := Lib.hid hit
        have b1 := hrg.oA.cell (i := 1) rfl
        clear hrg hit HRG2
        by_cases hgo : xs.length < N2 ∧ r'.e = 0
        case neg =>
          have HEND := Lib.hid (itms_end (s := s) (one := rdProg s) (r := (rD s).2) HIT.out hgo)
          have HF := Lib.hid (show RG w w1.heap.size w2.heap.size (rP s).2 [.int .i64 (rA s).1, .float .f64 (rB s).1, .slice a1 m1 c1, .slice a m c, .slice none 0 0, .slice none 0 0] (.slice a1 m1 c1) (.slice a m c) (.slice none 0 0) (.slice none 0 0) (rD s).1 (rP s).1 [] [] wr from by
            have h := HRG.out
            rw [HEND.out.1, HEND.out.2] at h
            exact h)
          by_cases hlt : xs.length < N2
          case pos =>
            have he1 : (r'.e == 0) = false := by rw [beq_eq_false_iff_ne]; exact fun h2 => hgo ⟨hlt, h2⟩
            clear hgo
            go_wp2
            go_meet
            case rel => exact ⟨_, _, _, HF.out⟩
          case neg =>
            clear hgo
            go_wp2
            go_meet
            case rel => exact ⟨_, _, _, HF.out⟩
        case pos =>
          obtain ⟨hlt, he'⟩ := hgo
          have he1 : (r'.e == 0) = true := by rw [beq_iff_eq]; exact he'
          have b0 := HRG.out.oA.cell (i := 0) rfl
          have HE' := Lib.hid he'
          have HSUC := Lib.hid (show N2 - xs.length = (N2 - (xs.length + 1)) + 1 by omega)
          clear he'
          go_wp2_with (first
            | (go_at_call 126
               refine (refCode_any s r' hs _).mono ?_
               rintro e w4 ⟨v0, rfl, hv0, hg4⟩
               obtain ⟨av, mv, cv, ev⟩ : ∃ a m c, v0 = .slice a m c := by obtain ⟨a, c, e⟩ := Kd.R_slice hv0; exact ⟨a, _, c, e⟩
               subst ev
               have HV0 := Lib.hid (Kd.R_alloc (Kd.R_lower hv0 HRG.out.g.size) (.cells #[.int .i64 (rdProg s r').2.p, .int .i64 (rdProg s r').2.e] 160))
               have HRG4 := Lib.hid (HRG.out.gr hg4)
               have hlm := Out.lt HRG4.out.oM
               have hla := Out.lt HRG4.out.oA
               have HRGb := Lib.hid (show RG w w1.heap.size w2.heap.size r' [.int .i64 (rA s).1, .float .f64 (rB s).1, .slice a1 m1 c1, .slice a m c, .slice none 0 0, .slice none 0 0] (.slice a1 m1 c1) (.slice a m c) (.slice none 0 0) (.slice none 0 0) (rD s).1 xs [] [] (w4.alloc (.cells #[.int .i64 (rdProg s r').2.p, .int .i64 (rdProg s r').2.e] 160)) from HRG4.out.gr ((Gr.refl _).alloc _))
               have u0 := HRGb.out.oM.cell (i := 3) rfl
               have HBX := Lib.hid (Out.new (w := w4) (T := 160) (cs := [.int .i64 (rdProg s r').2.p, .int .i64 (rdProg s r').2.e]))
               have HBL := Lib.hid hlm
               clear hg4 hv0)
            | (at_builtin; refine Kd.R_append kProg (w0 := (w4.alloc (.cells #[.int .i64 (rdProg s r').2.p, .int .i64 (rdProg s r').2.e] 160))) (W := (w4.alloc (.cells #[.int .i64 (rdProg s r').2.p, .int .i64 (rdProg s r').2.e] 160))) w.heap.size rfl _ _ 24 38 (.slice none 0 0) 24 rfl Try.underlying24 j38 rfl (by decide) (by omega) (.slice a m c) xs (rdProg s r').1 [.slice av mv cv] (fun _ => True) (fun k => True ∧ some k ≠ (Value.slice a m c).ownBlock) rfl (by simp only [World.size_alloc, World.size_setCell]; rfl) (M_ne (d := kProg) (ok := fun _ => True) ⟨_, rfl, HV0.out⟩ HRGb.out.p (by decide)) (fun k hk => ⟨trivial, hk.2⟩) (fun _ _ => trivial) HRGb.out.p (Below.refl _ _) (HRGb.out.g.size) (by omega) ?_
               intro v5 w5 hown5 hbel5 hgr5 hat5
               obtain ⟨a5, m5, c5, ev⟩ : ∃ a m c, v5 = .slice a m c := by obtain ⟨a, c, e⟩ := Kd.R_slice hown5; exact ⟨a, _, c, e⟩
               subst ev
               have hbx := HBX.out.apart HRGb.out.p (by decide) hgr5
               have hr5 := HRGb.out.grownP hgr5 hown5
               have t0 := hr5.oM.cell (i := 3) rfl
               have t1 := hr5.oM.free 3
               have t2 := Out.lt hr5.oM
               have hbx2 := hbx.set_other (O' := w2.heap.size) (i := 3) (v := .slice a5 m5 c5) (by have := HBL.out; omega)
               have x0 := hbx2.cell (i := 0) rfl
               have x1 := hbx2.cell (i := 1) rfl
               have hr6 := hr5.setM 3 (.slice a5 m5 c5)
               have y0 := hr6.oA.cell (i := 0) rfl
               have y1 := hr6.oA.cell (i := 1) rfl
               have y2 := hr6.oA.free 0
               have y3 := hr6.oA.free 1
               have y4 := Out.lt hr6.oA
               have HR7 := Lib.hid (hr6.setA (rdProg s r').2)
               clear hown5 hbel5 hgr5 hat5 hbx hr5 hbx2 hr6))
          go_roundg (N2 - (xs.length + 1))
          case measure => omega
          case rel => exact ⟨xs ++ [(rdProg s r').1], (rdProg s r').2, a5, m5, c5, by simp; omega, by simp, HR7.out, by rw [HIT.out, HSUC.out, rep_go _ _ _ HE'.out]; simp⟩
    case rest =>
      obtain ⟨a2, m2, c2, hrg⟩ := hcut
      have HRG0 := Lib.hid hrg
      have d0 := hrg.oA.cell (i := 0) rfl
      have d1 := hrg.oA.cell (i := 1) rfl
      clear hrg HRG2
      obtain ⟨N3, hN3, hn3⟩ := cnt_nat s (rP s).2
      have HN3 := Lib.hid hn3
      clear hn3
      go_upto_block 4 with (
         go_at_call 125
         refine (refCount_any s (rP s).2 hs _).mono ?_
         rintro e w3 ⟨rfl, hg3⟩
         rw [HN3.out]
         have HRG1 := Lib.hid (HRG0.out.gr hg3)
         have b0 := HRG1.out.oA.cell (i := 0) rfl
         have b1 := HRG1.out.oA.cell (i := 1) rfl
         have b2 := HRG1.out.oA.free 0
         have b3 := HRG1.out.oA.free 1
         have lta := Out.lt HRG1.out.oA
         have HRG2 := Lib.hid (HRG1.out.setA (cnt s (rP s).2).2)
         clear hg3)
      go_cut [15, 16, 17] from 103 to 125 (fun _ _ _ W => ∃ a m c, RG w w1.heap.size w2.heap.size (rL s).2 [.int .i64 (rA s).1, .float .f64 (rB s).1, .slice a1 m1 c1, .slice a2 m2 c2, .slice a m c, .slice none 0 0] (.slice a1 m1 c1) (.slice a2 m2 c2) (.slice a m c) (.slice none 0 0) (rD s).1 (rP s).1 (rL s).1 [] W)
      case first =>
        go_wp2_with fail
        go_loopg [15] N3 (fun g i wr => ∃ (xs : List PLP) (r' : Rd) (a : Option Addr) (m c : Nat), g + xs.length = N3 ∧ i = .int .i64 xs.length ∧ RG w w1.heap.size w2.heap.size r' [.int .i64 (rA s).1, .float .f64 (rB s).1, .slice a1 m1 c1, .slice a2 m2 c2, .slice a m c, .slice none 0 0] (.slice a1 m1 c1) (.slice a2 m2 c2) (.slice a m c) (.slice none 0 0) (rD s).1 (rP s).1 xs [] wr ∧ rL s = (xs ++ (rep (rdLP s) (N3 - xs.length) r').1, (rep (rdLP s) (N3 - xs.length) r').2))
        case atStart => exact ⟨[], _, none, 0, 0, by simp, rfl, HRG2.out, by show itms s (rdLP s) (rP s).2 = _; unfold itms; rw [HN3.out]; rfl⟩
        case round =>
          obtain ⟨xs, r', a, m, c, hk, rfl, hrg, hit⟩ := hrel
          have HRG := Lib.hid hrg
          have HIT := Lib.hid hit
          have b1 := hrg.oA.cell (i := 1) rfl
          clear hrg hit HRG2
          by_cases hgo : xs.length < N3 ∧ r'.e = 0
          case neg =>
            have HEND := Lib.hid (itms_end (s := s) (one := rdLP s) (r := (rP s).2) HIT.out hgo)
            have HF := Lib.hid (show RG w w1.heap.size w2.heap.size (rL s).2 [.int .i64 (rA s).1, .float .f64 (rB s).1, .slice a1 m1 c1, .slice a2 m2 c2, .slice a m c, .slice none 0 0] (.slice a1 m1 c1) (.slice a2 m2 c2) (.slice a m c) (.slice none 0 0) (rD s).1 (rP s).1 (rL s).1 [] wr from by
              have h := HRG.out
              rw [HEND.out.1, HEND.out.2] at h
              exact h)
            by_cases hlt : xs.length < N3
            case pos =>
              have he1 : (r'.e == 0) = false := by rw [beq_eq_false_iff_ne]; exact fun h2 => hgo ⟨hlt, h2⟩
              clear hgo
              go_wp2
              go_meet
              case rel => exact ⟨_, _, _, HF.out⟩
            case neg =>
              clear hgo
              go_wp2
              go_meet
              case rel => exact ⟨_, _, _, HF.out⟩
          case pos =>
            obtain ⟨hlt, he'⟩ := hgo
            have he1 : (r'.e == 0) = true := by rw [beq_iff_eq]; exact he'
            have b0 := HRG.out.oA.cell (i := 0) rfl
            have HE' := Lib.hid he'
            have HSUC := Lib.hid (show N3 - xs.length = (N3 - (xs.length + 1)) + 1 by omega)
            clear he'
            go_wp2_with (first
              | (go_at_call 127
                 refine (refProc_any s r' hs _).mono ?_
                 rintro e w4 ⟨v0, rfl, hv0, hg4⟩
                 obtain ⟨av, mv, cv, ev⟩ : ∃ a m c, v0 = .slice a m c := by obtain ⟨a, c, e⟩ := Kd.R_slice hv0; exact ⟨a, _, c, e⟩
                 subst ev
                 have HV0 := Lib.hid (Kd.R_alloc (Kd.R_alloc (Kd.R_lower hv0 HRG.out.g.size) (.cells #[.int .i64 (rdLP s r').1.prog, .slice av mv cv] 41)) (.cells #[.int .i64 (rdLP s r').2.p, .int .i64 (rdLP s r').2.e] 160))
                 have HRG4 := Lib.hid (HRG.out.gr hg4)
                 have hlm := Out.lt HRG4.out.oM
                 have hla := Out.lt HRG4.out.oA
                 have HRGb := Lib.hid (show RG w w1.heap.size w2.heap.size r' [.int .i64 (rA s).1, .float .f64 (rB s).1, .slice a1 m1 c1, .slice a2 m2 c2, .slice a m c, .slice none 0 0] (.slice a1 m1 c1) (.slice a2 m2 c2) (.slice a m c) (.slice none 0 0) (rD s).1 (rP s).1 xs [] ((w4.alloc (.cells #[.int .i64 (rdLP s r').1.prog, .slice av mv cv] 41)).alloc (.cells #[.int .i64 (rdLP s r').2.p, .int .i64 (rdLP s r').2.e] 160)) from HRG4.out.gr (((Gr.refl _).alloc _).alloc _))
                 have u0 := HRGb.out.oM.cell (i := 4) rfl
                 have HBX := Lib.hid (Out.newAt (W := w4.alloc (.cells #[.int .i64 (rdLP s r').1.prog, .slice av mv cv] 41)) (T := 160) (O := w4.heap.size + 1) (cs := [.int .i64 (rdLP s r').2.p, .int .i64 (rdLP s r').2.e]) (by simp))
                 have HBL := Lib.hid (Nat.lt_succ_of_lt hlm)
                 clear hg4 hv0)
              | (at_builtin; refine Kd.R_append kLP (w0 := ((w4.alloc (.cells #[.int .i64 (rdLP s r').1.prog, .slice av mv cv] 41)).alloc (.cells #[.int .i64 (rdLP s r').2.p, .int .i64 (rdLP s r').2.e] 160))) (W := ((w4.alloc (.cells #[.int .i64 (rdLP s r').1.prog, .slice av mv cv] 41)).alloc (.cells #[.int .i64 (rdLP s r').2.p, .int .i64 (rdLP s r').2.e] 160))) w.heap.size rfl _ _ 25 41 (.agg #[.int .i64 0, .slice none 0 0]) 32 rfl Try.underlying25 j41 rfl (by decide) (by omega) (.slice a m c) xs (rdLP s r').1 [.int .i64 (rdLP s r').1.prog, .slice av mv cv] (fun _ => True) (fun k => True ∧ some k ≠ (Value.slice a m c).ownBlock) rfl (by simp only [World.size_alloc, World.size_setCell]; rfl) (M_ne (d := kLP) (ok := fun _ => True) (kLP_mk HV0.out) HRGb.out.l (by decide)) (fun k hk => ⟨trivial, hk.2⟩) (fun _ _ => trivial) HRGb.out.l (Below.refl _ _) (HRGb.out.g.size) (by omega) ?_
                 intro v5 w5 hown5 hbel5 hgr5 hat5
                 obtain ⟨a5, m5, c5, ev⟩ : ∃ a m c, v5 = .slice a m c := by obtain ⟨a, c, e⟩ := Kd.R_slice hown5; exact ⟨a, _, c, e⟩
                 subst ev
                 have hbx := HBX.out.apart HRGb.out.l (by decide) hgr5
                 have hr5 := HRGb.out.grownL hgr5 hown5
                 have t0 := hr5.oM.cell (i := 4) rfl
                 have t1 := hr5.oM.free 4
                 have t2 := Out.lt hr5.oM
                 have hbx2 := hbx.set_other (O' := w2.heap.size) (i := 4) (v := .slice a5 m5 c5) (by have := HBL.out; omega)
                 have x0 := hbx2.cell (i := 0) rfl
                 have x1 := hbx2.cell (i := 1) rfl
                 have hr6 := hr5.setM 4 (.slice a5 m5 c5)
                 have y0 := hr6.oA.cell (i := 0) rfl
                 have y1 := hr6.oA.cell (i := 1) rfl
                 have y2 := hr6.oA.free 0
                 have y3 := hr6.oA.free 1
                 have y4 := Out.lt hr6.oA
                 have HR7 := Lib.hid (hr6.setA (rdLP s r').2)
                 clear hown5 hbel5 hgr5 hat5 hbx hr5 hbx2 hr6))
            go_roundg (N3 - (xs.length + 1))
            case measure => omega
            case rel => exact ⟨xs ++ [(rdLP s r').1], (rdLP s r').2, a5, m5, c5, by simp; omega, by simp, HR7.out, by rw [HIT.out, HSUC.out, rep_go _ _ _ HE'.out]; simp⟩
      case rest =>
        obtain ⟨a3, m3, c3, hrg⟩ := hcut
        have HRG0 := Lib.hid hrg
        have d0 := hrg.oA.cell (i := 0) rfl
        have d1 := hrg.oA.cell (i := 1) rfl
        clear hrg HRG2
        obtain ⟨N4, hN4, hn4⟩ := cnt_nat s (rL s).2
        have HN4 := Lib.hid hn4
        clear hn4
        go_upto_block 6 with (
           go_at_call 125
           refine (refCount_any s (rL s).2 hs _).mono ?_
           rintro e w3 ⟨rfl, hg3⟩
           rw [HN4.out]
           have HRG1 := Lib.hid (HRG0.out.gr hg3)
           have b0 := HRG1.out.oA.cell (i := 0) rfl
           have b1 := HRG1.out.oA.cell (i := 1) rfl
           have b2 := HRG1.out.oA.free 0
           have b3 := HRG1.out.oA.free 1
           have lta := Out.lt HRG1.out.oA
           have HRG2 := Lib.hid (HRG1.out.setA (cnt s (rL s).2).2)
           clear hg3)
        go_cut [18, 19, 20, 21, 22] from 132 to 169 (fun _ _ _ _ _ W => ∃ a m c, RG w w1.heap.size w2.heap.size (rI s).2 [.int .i64 (rA s).1, .float .f64 (rB s).1, .slice a1 m1 c1, .slice a2 m2 c2, .slice a3 m3 c3, .slice a m c] (.slice a1 m1 c1) (.slice a2 m2 c2) (.slice a3 m3 c3) (.slice a m c) (rD s).1 (rP s).1 (rL s).1 (rI s).1 W)
        case first =>
          go_wp2_with fail
          go_loopg [18] N4 (fun g i wr => ∃ (xs : List PInit) (r' : Rd) (a : Option Addr) (m c : Nat), g + xs.length = N4 ∧ i = .int .i64 xs.length ∧ RG w w1.heap.size w2.heap.size r' [.int .i64 (rA s).1, .float .f64 (rB s).1, .slice a1 m1 c1, .slice a2 m2 c2, .slice a3 m3 c3, .slice a m c] (.slice a1 m1 c1) (.slice a2 m2 c2) (.slice a3 m3 c3) (.slice a m c) (rD s).1 (rP s).1 (rL s).1 xs wr ∧ rI s = (xs ++ (rep (rdInit s) (N4 - xs.length) r').1, (rep (rdInit s) (N4 - xs.length) r').2))
          case atStart => exact ⟨[], _, none, 0, 0, by simp, rfl, HRG2.out, by show itms s (rdInit s) (rL s).2 = _; unfold itms; rw [HN4.out]; rfl⟩
          case round =>
            obtain ⟨xs, r', a, m, c, hk, rfl, hrg, hit⟩ := hrel
            have HRG := Lib.hid hrg
            have HIT := Lib.hid hit
            have b1 := hrg.oA.cell (i := 1) rfl
            clear hrg hit HRG2
            by_cases hgo : xs.length < N4 ∧ r'.e = 0
            case neg =>
              have HEND := Lib.hid (itms_end (s := s) (one := rdInit s) (r := (rL s).2) HIT.out hgo)
              have HF := Lib.hid (show RG w w1.heap.size w2.heap.size (rI s).2 [.int .i64 (rA s).1, .float .f64 (rB s).1, .slice a1 m1 c1, .slice a2 m2 c2, .slice a3 m3 c3, .slice a m c] (.slice a1 m1 c1) (.slice a2 m2 c2) (.slice a3 m3 c3) (.slice a m c) (rD s).1 (rP s).1 (rL s).1 (rI s).1 wr from by
                have h := HRG.out
                rw [HEND.out.1, HEND.out.2] at h
                exact h)
              by_cases hlt : xs.length < N4
              case pos =>
                have he1 : (r'.e == 0) = false := by rw [beq_eq_false_iff_ne]; exact fun h2 => hgo ⟨hlt, h2⟩
                clear hgo
                go_wp2
                go_meet
                case rel => exact ⟨_, _, _, HF.out⟩
              case neg =>
                clear hgo
                go_wp2
                go_meet
                case rel => exact ⟨_, _, _, HF.out⟩
            case pos =>
              obtain ⟨hlt, he'⟩ := hgo
              have he1 : (r'.e == 0) = true := by rw [beq_iff_eq]; exact he'
              have b0 := HRG.out.oA.cell (i := 0) rfl
              have HE' := Lib.hid he'
              have HSUC := Lib.hid (show N4 - xs.length = (N4 - (xs.length + 1)) + 1 by omega)
              clear he'
              go_wp2_with (first
                | (go_at_call 124
                   refine (refFloat_any s r' hs _).mono ?_
                   rintro e w4 ⟨rfl, hg4⟩
                   have HRG4 := Lib.hid (HRG.out.gr hg4)
                   have hlm := Out.lt HRG4.out.oM
                   have hla := Out.lt HRG4.out.oA
                   have HRG5 := Lib.hid (HRG4.out.gr ((Gr.refl _).alloc (.cells #[.int .i64 (rdFloat s r').2.p, .int .i64 (rdFloat s r').2.e] 160)))
                   have HBL := Lib.hid (show w2.heap.size < w4.heap.size from hlm)
                   have HBA := Lib.hid (show w1.heap.size < w4.heap.size from hla)
                   have tok := True.intro
                   clear hg4)
                | (go_at_call 123
                   have _t := tok
                   refine (refInt_any s (rdFloat s r').2 hs _).mono ?_
                   rintro e w6 ⟨rfl, hg6⟩
                   have hb6 := Out.gr (Out.new (w := w4) (T := 160) (cs := [.int .i64 (rdFloat s r').2.p, .int .i64 (rdFloat s r').2.e])) hg6
                   have k0 := hb6.cell (i := 0) rfl
                   have k1 := hb6.cell (i := 1) rfl
                   have k2 := hb6.free 0
                   have k3 := hb6.free 1
                   have k4 := Out.lt hb6
                   have HB6 := Lib.hid ((hb6.set 0 (.int .i64 (rdInt s (rdFloat s r').2).2.p)).set 1 (.int .i64 (rdInt s (rdFloat s r').2).2.e))
                   have HRG6 := Lib.hid (((HRG5.out.gr hg6).setB hb6 (by have := HBA.out; have := HRG.out.hA; omega) (by have := HBA.out; omega) (by have := HBL.out; omega) 0 (.int .i64 (rdInt s (rdFloat s r').2).2.p)).setB (hb6.set 0 (.int .i64 (rdInt s (rdFloat s r').2).2.p)) (by have := HBA.out; have := HRG.out.hA; omega) (by have := HBA.out; omega) (by have := HBL.out; omega) 1 (.int .i64 (rdInt s (rdFloat s r').2).2.e))
                   have n0 := HB6.out.cell (i := 0) rfl
                   have n1 := HB6.out.cell (i := 1) rfl
                   have tok2 := True.intro
                   clear tok hg6 hb6)
                | (go_at_call 123
                   have _t := tok2
                   refine (refInt_any s (rdInt s (rdFloat s r').2).2 hs _).mono ?_
                   rintro e w7 ⟨rfl, hg7⟩
                   have hb7 := Out.gr HB6.out hg7
                   have i0 := hb7.cell (i := 0) rfl
                   have i1 := hb7.cell (i := 1) rfl
                   have i2 := hb7.free 0
                   have i3 := hb7.free 1
                   have i4 := Out.lt hb7
                   have HBX := Lib.hid (show Out 160 ((w7.setCell ⟨w4.heap.size, 0, none⟩ (.int .i64 (rdInt s (rdInt s (rdFloat s r').2).2).2.p)).setCell ⟨w4.heap.size, 1, none⟩ (.int .i64 (rdInt s (rdInt s (rdFloat s r').2).2).2.e)) w4.heap.size [.int .i64 (rdInt s (rdInt s (rdFloat s r').2).2).2.p, .int .i64 (rdInt s (rdInt s (rdFloat s r').2).2).2.e] from (hb7.set 0 (.int .i64 (rdInt s (rdInt s (rdFloat s r').2).2).2.p)).set 1 (.int .i64 (rdInt s (rdInt s (rdFloat s r').2).2).2.e))
                   have HRGb := Lib.hid (((HRG6.out.gr hg7).setB hb7 (by have := HBA.out; have := HRG.out.hA; omega) (by have := HBA.out; omega) (by have := HBL.out; omega) 0 (.int .i64 (rdInt s (rdInt s (rdFloat s r').2).2).2.p)).setB (hb7.set 0 (.int .i64 (rdInt s (rdInt s (rdFloat s r').2).2).2.p)) (by have := HBA.out; have := HRG.out.hA; omega) (by have := HBA.out; omega) (by have := HBL.out; omega) 1 (.int .i64 (rdInt s (rdInt s (rdFloat s r').2).2).2.e))
                   have u0 := HRGb.out.oM.cell (i := 5) rfl
                   clear tok2 hg7 hb7)
                | (at_builtin; refine Kd.R_append kInit (w0 := ((w7.setCell ⟨w4.heap.size, 0, none⟩ (.int .i64 (rdInt s (rdInt s (rdFloat s r').2).2).2.p)).setCell ⟨w4.heap.size, 1, none⟩ (.int .i64 (rdInt s (rdInt s (rdFloat s r').2).2).2.e))) (W := ((w7.setCell ⟨w4.heap.size, 0, none⟩ (.int .i64 (rdInt s (rdInt s (rdFloat s r').2).2).2.p)).setCell ⟨w4.heap.size, 1, none⟩ (.int .i64 (rdInt s (rdInt s (rdFloat s r').2).2).2.e))) w.heap.size rfl _ _ 26 43 (.agg #[.float .f64 0, .int .i64 0, .int .i64 0]) 24 rfl Try.underlying26 j43 rfl (by decide) (by omega) (.slice a m c) xs (rdInit s r').1 [.float .f64 (rdFloat s r').1, .int .i64 (rdInt s (rdFloat s r').2).1, .int .i64 (rdInt s (rdInt s (rdFloat s r').2).2).1] (fun _ => True) (fun k => True ∧ some k ≠ (Value.slice a m c).ownBlock) rfl (by simp only [World.size_alloc, World.size_setCell]; rfl) (kInit_mk _ _ _ (rdInit s r').1) (fun k hk => ⟨trivial, hk.2⟩) (fun _ _ => trivial) HRGb.out.i (Below.refl _ _) (HRGb.out.g.size) (by omega) ?_
                   intro v5 w5 hown5 hbel5 hgr5 hat5
                   obtain ⟨a5, m5, c5, ev⟩ : ∃ a m c, v5 = .slice a m c := by obtain ⟨a, c, e⟩ := Kd.R_slice hown5; exact ⟨a, _, c, e⟩
                   subst ev
                   have hbx := HBX.out.apart HRGb.out.i (by decide) hgr5
                   have hr5 := HRGb.out.grownI hgr5 hown5
                   have t0 := hr5.oM.cell (i := 5) rfl
                   have t1 := hr5.oM.free 5
                   have t2 := Out.lt hr5.oM
                   have hbx2 := hbx.set_other (O' := w2.heap.size) (i := 5) (v := .slice a5 m5 c5) (by have := HBL.out; omega)
                   have x0 := hbx2.cell (i := 0) rfl
                   have x1 := hbx2.cell (i := 1) rfl
                   have hr6 := hr5.setM 5 (.slice a5 m5 c5)
                   have y0 := hr6.oA.cell (i := 0) rfl
                   have y1 := hr6.oA.cell (i := 1) rfl
                   have y2 := hr6.oA.free 0
                   have y3 := hr6.oA.free 1
                   have y4 := Out.lt hr6.oA
                   have HR7 := Lib.hid (hr6.setA (rdInt s (rdInt s (rdFloat s r').2).2).2)
                   clear hown5 hbel5 hgr5 hat5 hbx hr5 hbx2 hr6))
              go_roundg (N4 - (xs.length + 1))
              case measure => omega
              case rel => exact ⟨xs ++ [(rdInit s r').1], (rdInit s r').2, a5, m5, c5, by simp; omega, by simp, HR7.out, by rw [HIT.out, HSUC.out, rep_go _ _ _ HE'.out]; simp⟩
        case rest =>
          obtain ⟨a4, m4, c4, hrg⟩ := hcut
          have HRG0 := Lib.hid hrg
          have d0 := hrg.oA.cell (i := 0) rfl
          have d1 := hrg.oA.cell (i := 1) rfl
          clear hrg HRG2
          by_cases he : (rI s).2.e = 0
          case neg =>
            have he1 : ((rI s).2.e != 0) = true := by rw [bne_iff_ne]; exact he
            have HE := Lib.hid he
            clear he
            have HOUT := Lib.hid HRG0.out.oR
            have HGW := Lib.hid HRG0.out.g
            have z0 := HOUT.out.cell (i := 0) rfl
            have g0 := HOUT.out.free 0
            have z1 := HOUT.out.cell (i := 1) rfl
            have g1 := HOUT.out.free 1
            have z2 := HOUT.out.cell (i := 2) rfl
            have g2 := HOUT.out.free 2
            have z3 := HOUT.out.cell (i := 3) rfl
            have g3 := HOUT.out.free 3
            have z4 := HOUT.out.cell (i := 4) rfl
            have g4 := HOUT.out.free 4
            have z5 := HOUT.out.cell (i := 5) rfl
            have g5 := HOUT.out.free 5
            have ltR := Out.lt HOUT.out
            go_wp2
            go_region_with (fail)
            all_goals
              try simp only [List.getElem_toArray, List.getElem_cons_succ, List.getElem_cons_zero, Act.put, List.setIfInBounds_toArray, List.set_cons_succ, List.set_cons_zero]
              go_wp2
              have HE2 := Lib.hid (getM_err HE.out)
              have HX := Lib.hid ((HOUT.out.sixth (c0 := .int .i64 0) (c1 := .float .f64 0) (c2 := .slice none 0 0) (c3 := .slice none 0 0) (c4 := .slice none 0 0) (c5 := .slice none 0 0)).drew)
              have HG := Lib.hid ((HGW.out.sixth (O := w.heap.size) (c0 := .int .i64 0) (c1 := .float .f64 0) (c2 := .slice none 0 0) (c3 := .slice none 0 0) (c4 := .slice none 0 0) (c5 := .slice none 0 0) (Nat.le_refl _)).drew)
              clear z0 z1 z2 z3 z4 z5
              have z0 := HX.out.cell (i := 0) rfl
              have z1 := HX.out.cell (i := 1) rfl
              have z2 := HX.out.cell (i := 2) rfl
              have z3 := HX.out.cell (i := 3) rfl
              have z4 := HX.out.cell (i := 4) rfl
              have z5 := HX.out.cell (i := 5) rfl
              try simp only [Exit.inBlock, Exit.then]
              refine bodyPost_ret (v := .tuple #[.agg #[.int .i64 0, .float .f64 0, .slice none 0 0, .slice none 0 0, .slice none 0 0, .slice none 0 0], .int .i64 (rI s).2.e]) ?_ rfl ⟨.slice none 0 0, .slice none 0 0, .slice none 0 0, .slice none 0 0, by rw [HE2.out]; rfl, by rw [HE2.out]; exact m0_at _, HG.out⟩
              simp [results, Try.results43, go_sem, z0, z1, z2, z3, z4, z5]
          case pos =>
            have HE := Lib.hid he
            rw [he] at d1
            clear he
            by_cases hp : (rI s).2.p < s.size
            case pos =>
              have HP := Lib.hid hp
              have HOUT := Lib.hid HRG0.out.oR
              have HGW := Lib.hid HRG0.out.g
              have z0 := HOUT.out.cell (i := 0) rfl
              have g0 := HOUT.out.free 0
              have z1 := HOUT.out.cell (i := 1) rfl
              have g1 := HOUT.out.free 1
              have z2 := HOUT.out.cell (i := 2) rfl
              have g2 := HOUT.out.free 2
              have z3 := HOUT.out.cell (i := 3) rfl
              have g3 := HOUT.out.free 3
              have z4 := HOUT.out.cell (i := 4) rfl
              have g4 := HOUT.out.free 4
              have z5 := HOUT.out.cell (i := 5) rfl
              have g5 := HOUT.out.free 5
              have ltR := Out.lt HOUT.out
              go_wp2
              have HE2 := Lib.hid (getM_form HE.out HP.out)
              have HX := Lib.hid ((HOUT.out.sixth (c0 := .int .i64 0) (c1 := .float .f64 0) (c2 := .slice none 0 0) (c3 := .slice none 0 0) (c4 := .slice none 0 0) (c5 := .slice none 0 0)))
              have HG := Lib.hid ((HGW.out.sixth (O := w.heap.size) (c0 := .int .i64 0) (c1 := .float .f64 0) (c2 := .slice none 0 0) (c3 := .slice none 0 0) (c4 := .slice none 0 0) (c5 := .slice none 0 0) (Nat.le_refl _)))
              clear z0 z1 z2 z3 z4 z5
              have z0 := HX.out.cell (i := 0) rfl
              have z1 := HX.out.cell (i := 1) rfl
              have z2 := HX.out.cell (i := 2) rfl
              have z3 := HX.out.cell (i := 3) rfl
              have z4 := HX.out.cell (i := 4) rfl
              have z5 := HX.out.cell (i := 5) rfl
              try simp only [Exit.inBlock, Exit.then]
              refine bodyPost_ret (v := .tuple #[.agg #[.int .i64 0, .float .f64 0, .slice none 0 0, .slice none 0 0, .slice none 0 0, .slice none 0 0], .int .i64 6]) ?_ rfl ⟨.slice none 0 0, .slice none 0 0, .slice none 0 0, .slice none 0 0, by rw [HE2.out]; rfl, by rw [HE2.out]; exact m0_at _, HG.out⟩
              simp [results, Try.results43, go_sem, z0, z1, z2, z3, z4, z5]
            case neg =>
              have HP := Lib.hid (Int.not_lt.mp hp)
              cases hc : checkB (rawM s)
              case false =>
                have HC := Lib.hid hc
                have HCE := Lib.hid (show checkE (rawM s) = 15 by simp [checkE, hc])
                clear hc
                have HM := Lib.hid (show ModelAt wc (.slice a1 m1 c1) (.slice a2 m2 c2) (.slice a3 m3 c3) (.slice a4 m4 c4) (rawM s) from by
                  have e3 := kF_sl HRG0.out.d
                  have e4 := kProg_sl HRG0.out.p
                  have e5 := kLP_sl HRG0.out.l
                  have e6 := kInit_sl HRG0.out.i
                  exact ⟨e3, e4, e5, e6⟩)
                have y0 := HRG0.out.oM.cell (i := 0) rfl
                have y1 := HRG0.out.oM.cell (i := 1) rfl
                have y2 := HRG0.out.oM.cell (i := 2) rfl
                have y3 := HRG0.out.oM.cell (i := 3) rfl
                have y4 := HRG0.out.oM.cell (i := 4) rfl
                have y5 := HRG0.out.oM.cell (i := 5) rfl
                go_wp2_with (
                  go_at_call 32
                  refine (Calls.to (checkRef_any s _ _ _ _ _ HM.out) (intv HCE.out)).mono ?_
                  rintro e w7 ⟨rfl, hg7⟩
                  have HG7 := Lib.hid hg7
                  have HOUT := Lib.hid (Out.gr HRG0.out.oR hg7)
                  have HMB7 := Lib.hid (Out.gr HRG0.out.oM hg7)
                  have z0 := HOUT.out.cell (i := 0) rfl
                  have g0 := HOUT.out.free 0
                  have z1 := HOUT.out.cell (i := 1) rfl
                  have g1 := HOUT.out.free 1
                  have z2 := HOUT.out.cell (i := 2) rfl
                  have g2 := HOUT.out.free 2
                  have z3 := HOUT.out.cell (i := 3) rfl
                  have g3 := HOUT.out.free 3
                  have z4 := HOUT.out.cell (i := 4) rfl
                  have g4 := HOUT.out.free 4
                  have z5 := HOUT.out.cell (i := 5) rfl
                  have g5 := HOUT.out.free 5
                  have ltR := Out.lt HOUT.out
                  have x0 := HMB7.out.cell (i := 0) rfl
                  have x1 := HMB7.out.cell (i := 1) rfl
                  have x2 := HMB7.out.cell (i := 2) rfl
                  have x3 := HMB7.out.cell (i := 3) rfl
                  have x4 := HMB7.out.cell (i := 4) rfl
                  have x5 := HMB7.out.cell (i := 5) rfl
                  clear hg7 y0 y1 y2 y3 y4 y5)
                have HGW := Lib.hid (show Gr w w7 from Gr.trans HRG0.out.g HG7.out)
                have HE2 := Lib.hid (getM_bad HE.out (Int.not_lt.mpr HP.out) HC.out)
                have HX := Lib.hid ((HOUT.out.sixth (c0 := .int .i64 0) (c1 := .float .f64 0) (c2 := .slice none 0 0) (c3 := .slice none 0 0) (c4 := .slice none 0 0) (c5 := .slice none 0 0)))
                have HG := Lib.hid ((HGW.out.sixth (O := w.heap.size) (c0 := .int .i64 0) (c1 := .float .f64 0) (c2 := .slice none 0 0) (c3 := .slice none 0 0) (c4 := .slice none 0 0) (c5 := .slice none 0 0) (Nat.le_refl _)))
                clear z0 z1 z2 z3 z4 z5
                have z0 := HX.out.cell (i := 0) rfl
                have z1 := HX.out.cell (i := 1) rfl
                have z2 := HX.out.cell (i := 2) rfl
                have z3 := HX.out.cell (i := 3) rfl
                have z4 := HX.out.cell (i := 4) rfl
                have z5 := HX.out.cell (i := 5) rfl
                try simp only [Exit.inBlock, Exit.then]
                refine bodyPost_ret (v := .tuple #[.agg #[.int .i64 0, .float .f64 0, .slice none 0 0, .slice none 0 0, .slice none 0 0, .slice none 0 0], .int .i64 15]) ?_ rfl ⟨.slice none 0 0, .slice none 0 0, .slice none 0 0, .slice none 0 0, by rw [HE2.out]; rfl, by rw [HE2.out]; exact m0_at _, HG.out⟩
                simp [results, Try.results43, go_sem, z0, z1, z2, z3, z4, z5]
              case true =>
                have HC := Lib.hid hc
                have HCE := Lib.hid (show checkE (rawM s) = 0 by simp [checkE, hc])
                clear hc
                have HM := Lib.hid (show ModelAt wc (.slice a1 m1 c1) (.slice a2 m2 c2) (.slice a3 m3 c3) (.slice a4 m4 c4) (rawM s) from by
                  have e3 := kF_sl HRG0.out.d
                  have e4 := kProg_sl HRG0.out.p
                  have e5 := kLP_sl HRG0.out.l
                  have e6 := kInit_sl HRG0.out.i
                  exact ⟨e3, e4, e5, e6⟩)
                have y0 := HRG0.out.oM.cell (i := 0) rfl
                have y1 := HRG0.out.oM.cell (i := 1) rfl
                have y2 := HRG0.out.oM.cell (i := 2) rfl
                have y3 := HRG0.out.oM.cell (i := 3) rfl
                have y4 := HRG0.out.oM.cell (i := 4) rfl
                have y5 := HRG0.out.oM.cell (i := 5) rfl
                go_wp2_with (
                  go_at_call 32
                  refine (Calls.to (checkRef_any s _ _ _ _ _ HM.out) (intv HCE.out)).mono ?_
                  rintro e w7 ⟨rfl, hg7⟩
                  have HG7 := Lib.hid hg7
                  have HOUT := Lib.hid (Out.gr HRG0.out.oR hg7)
                  have HMB7 := Lib.hid (Out.gr HRG0.out.oM hg7)
                  have z0 := HOUT.out.cell (i := 0) rfl
                  have g0 := HOUT.out.free 0
                  have z1 := HOUT.out.cell (i := 1) rfl
                  have g1 := HOUT.out.free 1
                  have z2 := HOUT.out.cell (i := 2) rfl
                  have g2 := HOUT.out.free 2
                  have z3 := HOUT.out.cell (i := 3) rfl
                  have g3 := HOUT.out.free 3
                  have z4 := HOUT.out.cell (i := 4) rfl
                  have g4 := HOUT.out.free 4
                  have z5 := HOUT.out.cell (i := 5) rfl
                  have g5 := HOUT.out.free 5
                  have ltR := Out.lt HOUT.out
                  have x0 := HMB7.out.cell (i := 0) rfl
                  have x1 := HMB7.out.cell (i := 1) rfl
                  have x2 := HMB7.out.cell (i := 2) rfl
                  have x3 := HMB7.out.cell (i := 3) rfl
                  have x4 := HMB7.out.cell (i := 4) rfl
                  have x5 := HMB7.out.cell (i := 5) rfl
                  clear hg7 y0 y1 y2 y3 y4 y5)
                have HGW := Lib.hid (show Gr w w7 from Gr.trans HRG0.out.g HG7.out)
                have HE2 := Lib.hid (getM_ok HE.out (Int.not_lt.mpr HP.out) HC.out)
                have HX := Lib.hid (HOUT.out.sixth (c0 := .int .i64 (rA s).1) (c1 := .float .f64 (rB s).1) (c2 := .slice a1 m1 c1) (c3 := .slice a2 m2 c2) (c4 := .slice a3 m3 c3) (c5 := .slice a4 m4 c4))
                have HG := Lib.hid (HGW.out.sixth (O := w.heap.size) (c0 := .int .i64 (rA s).1) (c1 := .float .f64 (rB s).1) (c2 := .slice a1 m1 c1) (c3 := .slice a2 m2 c2) (c4 := .slice a3 m3 c3) (c5 := .slice a4 m4 c4) (Nat.le_refl _))
                have e3 := kF_sl (R_sixth (O := w.heap.size) (c0 := .int .i64 (rA s).1) (c1 := .float .f64 (rB s).1) (c2 := .slice a1 m1 c1) (c3 := .slice a2 m2 c2) (c4 := .slice a3 m3 c3) (c5 := .slice a4 m4 c4) (Kd.R_below HRG0.out.d HG7.out) HOUT.out (by decide))
                have e4 := kProg_sl (R_sixth (O := w.heap.size) (c0 := .int .i64 (rA s).1) (c1 := .float .f64 (rB s).1) (c2 := .slice a1 m1 c1) (c3 := .slice a2 m2 c2) (c4 := .slice a3 m3 c3) (c5 := .slice a4 m4 c4) (Kd.R_below HRG0.out.p HG7.out) HOUT.out (by decide))
                have e5 := kLP_sl (R_sixth (O := w.heap.size) (c0 := .int .i64 (rA s).1) (c1 := .float .f64 (rB s).1) (c2 := .slice a1 m1 c1) (c3 := .slice a2 m2 c2) (c4 := .slice a3 m3 c3) (c5 := .slice a4 m4 c4) (Kd.R_below HRG0.out.l HG7.out) HOUT.out (by decide))
                have e6 := kInit_sl (R_sixth (O := w.heap.size) (c0 := .int .i64 (rA s).1) (c1 := .float .f64 (rB s).1) (c2 := .slice a1 m1 c1) (c3 := .slice a2 m2 c2) (c4 := .slice a3 m3 c3) (c5 := .slice a4 m4 c4) (Kd.R_below HRG0.out.i HG7.out) HOUT.out (by decide))
                have HM9 := Lib.hid (show ModelAt _ (.slice a1 m1 c1) (.slice a2 m2 c2) (.slice a3 m3 c3) (.slice a4 m4 c4) (rawM s) from ⟨e3, e4, e5, e6⟩)
                clear z0 z1 z2 z3 z4 z5 e3 e4 e5 e6
                have z0 := HX.out.cell (i := 0) rfl
                have z1 := HX.out.cell (i := 1) rfl
                have z2 := HX.out.cell (i := 2) rfl
                have z3 := HX.out.cell (i := 3) rfl
                have z4 := HX.out.cell (i := 4) rfl
                have z5 := HX.out.cell (i := 5) rfl
                try simp only [Exit.inBlock, Exit.then]
                refine bodyPost_ret (v := .tuple #[.agg #[.int .i64 (rA s).1, .float .f64 (rB s).1, .slice a1 m1 c1, .slice a2 m2 c2, .slice a3 m3 c3, .slice a4 m4 c4], .int .i64 0]) ?_ rfl ⟨.slice a1 m1 c1, .slice a2 m2 c2, .slice a3 m3 c3, .slice a4 m4 c4, by rw [HE2.out]; rfl, by rw [HE2.out]; exact HM9.out, HG.out⟩
                simp [results, Try.results43, go_sem, z0, z1, z2, z3, z4, z5]
end Go.Proofs.Ytkoopobfelcgpaa
end -- E3
