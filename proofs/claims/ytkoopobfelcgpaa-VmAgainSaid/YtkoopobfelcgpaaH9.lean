/- layer 7: a run begins; may it be? -/
import Derived.Test.YtkoopobfelcgpaaH3
import Derived.Deep.RegionLaw
import Derived.Deep.RegionHeld3
set_option linter.unusedSimpArgs false
set_option linter.unusedVariables false
namespace Go.Proofs.Ytkoopobfelcgpaa
open Go.RowKit

/-- an input, its words apart -/
structure PIn where
  words : List Int
  pay : Int
  me : Int
  lps : Int
  seed : Int
  dice : Int
abbrev inV (v : Value) (i : PIn) : Value := .agg #[v, .int .i64 i.pay, .int .i64 i.me, .int .i64 i.lps, .int .i64 i.seed, .int .i64 i.dice]
def mayE (p : List PIns) (nw : Nat) : Int :=
  if p.length = 0 ∨ 48 < p.length then 15 else if (p.all fun x => insB x.op x.a x.b x.c p.length) = false then 15 else if 8 < nw then 2 else 0
def insP (n : Int) (x : PIns) : Bool := insB x.op x.a x.b x.c n
theorem insOne_any (x : PIns) (n : Int) (w : World) : Calls Try.prog 33 #[.agg #[.int .i64 x.op, .int .i64 x.a, .int .i64 x.b, .int .i64 x.c], .int .i64 n] w fun e w' => e = .returned (.bool (insP n x)) ∧ Gr w w' := Ins_any _ _ _ _ _ _

set_option maxHeartbeats 1000000 in
theorem may_any (p : List PIns) (i : PIn) (vp vw : Value) (w : World) (hp : Sl 4 InsAt w vp p) (hw : Sl 1 IntAt w vw i.words) :
    Calls Try.prog 128 #[vp, inV vw i] w fun e w' => e = .returned (.int .i64 (mayE p i.words.length)) ∧ Gr w w' := by
  obtain ⟨a, cap, rfl, hpc, hpm, -, hpe⟩ := hp
  obtain ⟨aw, cw, rfl, hwc, hwm, -, -⟩ := hw
  unfold maxLen at hpm hwm
  have HP := Lib.hid hpe
  clear hpe
  by_cases h1 : p.length = 0
  · have g0 : ((p.length : Int) == 0) = true := by simp [h1]
    have hm : mayE p i.words.length = 15 := by simp [mayE, h1]
    have HM := Lib.hid hm
    clear hm
    go_enter Try.func128, Try.ntmps128
    go_wp2
    go_ret
    exact ⟨by rw [HM.out]; rfl, (Gr.refl _).alloc _⟩
  by_cases h2 : 48 < p.length
  · have g0 : ((p.length : Int) == 0) = false := beq_eq_false_iff_ne.mpr (by omega)
    have g1 : decide (48 < (p.length : Int)) = true := decide_eq_true (by omega)
    have hm : mayE p i.words.length = 15 := by simp [mayE, h2]
    have HM := Lib.hid hm
    clear hm
    go_enter Try.func128, Try.ntmps128
    go_wp2
    go_ret
    exact ⟨by rw [HM.out]; rfl, (Gr.refl _).alloc _⟩
  have g0 : ((p.length : Int) == 0) = false := beq_eq_false_iff_ne.mpr (by omega)
  have g1 : decide (48 < (p.length : Int)) = false := decide_eq_false (by omega)
  have HN := Lib.hid (show ¬ (p.length = 0 ∨ 48 < p.length) by omega)
  go_enter Try.func128, Try.ntmps128
  go_wp2
  go_loopg [17] p.length (fun g k wr => ∃ j : Nat, g + j = p.length ∧ k = .int .i64 j ∧ (p.take j).all (insP p.length) = true ∧
    Gr (w.alloc (.cells #[.slice aw i.words.length cw, .int .i64 i.pay, .int .i64 i.me, .int .i64 i.lps, .int .i64 i.seed, .int .i64 i.dice] 51)) wr)
  case atStart => exact ⟨0, by omega, rfl, by simp, Gr.refl _⟩
  case round =>
    obtain ⟨j, hj, rfl, hall, hg⟩ := hrel
    have HA := Lib.hid hall; clear hall
    have HG := Lib.hid hg
    have hg0 : Gr w wr := Gr.trans ((Gr.refl w).alloc _) hg
    have cW : wr.cell? ⟨w.heap.size, 0, none⟩ = some (.slice aw i.words.length cw) := hg.cell (by simp)
    clear hg
    by_cases hlt : j < p.length
    · obtain ⟨q, o, rfl, x0, x1, x2, x3⟩ := HP.out j p[j] (by simp [hlt])
      have x0 := hg0.cell x0
      have x1 := hg0.cell x1
      have x2 := hg0.cell x2
      have x3 := hg0.cell x3
      have hql := lt_of_cell x0
      simp only [] at hql
      cases hb : insP p.length p[j]
      · have HB := Lib.hid hb
        clear hb
        go_wp2_with (go_at_call 33; refine (Calls.to (insOne_any p[j] _ _) (boolv HB.out)).mono ?_; rintro e w1 ⟨rfl, hg1⟩)
        go_ret
        exact ⟨by
          have := all_false (insP p.length) p j p[j] (by simp [hlt]) HB.out
          have e2 : mayE p i.words.length = 15 := by
            unfold mayE; rw [if_neg HN.out]; unfold insP at this; rw [if_pos this]
          rw [e2]; rfl, (hg0.alloc _).trans hg1⟩
      · have HB := Lib.hid hb
        clear hb
        go_wp2_with (go_at_call 33; refine (Calls.to (insOne_any p[j] _ _) (boolv HB.out)).mono ?_; rintro e w1 ⟨rfl, hg1⟩)
        go_roundg (gk - 1)
        case measure => omega
        case rel => exact ⟨j + 1, by omega, by go_num, all_take_succ _ p j p[j] (by simp [hlt]) HA.out HB.out, (HG.out.alloc _).trans hg1⟩
    · have hw := all_whole _ p j (by omega) HA.out
      have HW := Lib.hid hw; clear hw
      by_cases h8 : 8 < i.words.length
      · have g2 : decide (8 < (i.words.length : Int)) = true := decide_eq_true (by omega)
        go_wp2
        go_ret
        exact ⟨by
          have e2 : mayE p i.words.length = 2 := by
            unfold mayE; rw [if_neg HN.out, if_neg (by have := HW.out; unfold insP at this; simp [this]), if_pos h8]
          rw [e2]; rfl, hg0⟩
      · have g2 : decide (8 < (i.words.length : Int)) = false := decide_eq_false (by omega)
        go_wp2
        go_ret
        exact ⟨by
          have e2 : mayE p i.words.length = 0 := by
            unfold mayE; rw [if_neg HN.out, if_neg (by have := HW.out; unfold insP at this; simp [this]), if_neg h8]
          rw [e2]; rfl, hg0⟩

theorem new_any (seed me n : Int) (w : World) : Calls Try.prog 161 #[.int .i64 seed, .int .i64 me, .int .i64 n] w fun e w' => e = .returned (.pointer (some ⟨w.heap.size, 0, none⟩)) ∧ w' = w.alloc (.cells #[.int .u64 (wordU seed me), .int .i64 n] 207) := by
  go_enter Try.func161, Try.ntmps161
  go_wp2_with (go_at_call 178; refine (step_any _ _ _).mono ?_; rintro e w' ⟨rfl, rfl⟩)
  go_ret
  exact ⟨rfl, rfl⟩

def PIn.start (i : PIn) : VR := { g := [i.pay, i.me, i.lps, i.words.length, 0, 0, 0, 0], w := i.words, sent := [], dice := i.dice, pc := 0, n := 0 }
theorem i3w : (Try.prog.info? 3).map (fun i => (i.zero, i.size, i.bytes)) = some (some (.int .i64 0), 1, 8) := by kernel_rfl
theorem flat_intC {w : World} {b o : Nat} {x : Int} (h : IntAt w b o x) : FlatAt intC w b o x := fun j u hu => by
  match j with
  | 0 => simp [intC] at hu; subst hu; exact h
  | j + 1 => simp [intC] at hu
theorem Sl.intC {w : World} {v : Value} {l : List Int} (h : Sl 1 IntAt w v l) : Sl 1 (FlatAt intC) w v l := by
  obtain ⟨a, cap, e, h1, h2, h3, h4⟩ := h
  refine ⟨a, cap, e, h1, h2, h3, fun i x hx => ?_⟩
  obtain ⟨b, o, ea, hR⟩ := h4 i x hx
  exact ⟨b, o, ea, flat_intC hR⟩
theorem runC_setW {vp : Value} {g : List Int} {vw : Value} {lps : Int} {D : Nat} {vs : Value} {pc n : Int} (x : Value) (h8 : g.length = 8) : (runC vp g vw lps D vs pc n).set 9 x = runC vp g x lps D vs pc n := by
  unfold runC
  rw [show 9 = 8 + 1 from rfl, List.set_cons_succ, List.set_append_right _ _ (by simp; omega)]
  simp [h8]
theorem RunAt.wordsGrown {b : Nat} {B : Nat} {vp : Value} {lps z : Int} {r : VR} {D : Nat} {vw vs : Value} {W W' : World} {vw' : Value} {l : List Int} (h : RunAt none b W B vp lps z r D vw vs) (hg : W.grownBy W' vw.ownBlock) (ho : Own b 3 1 intC W' vw' l) :
    RunAt none b (W'.setCell ⟨B, 9, none⟩ vw') B vp lps z { r with w := l } D vw' vs ∧ W'.frozen? ⟨B, 9, none⟩ = false ∧ W'.cell? ⟨B, 9, none⟩ = some vw := by
  have h1 : Out 174 W' B _ := h.out.grown h.words (by decide) hg
  have h2 : Out 207 W' D _ := h.dice.grown h.words (by decide) hg
  have h3 : Own b 60 3 sentC W' vs r.sent := h.sent.grown h.words (by decide) hg
  have hDB : D ≠ B := by
    intro e
    have a1 := h1.is
    have a2 := h2.is
    rw [e] at a2
    rw [a1] at a2
    injection a2 with a2; injection a2 with _ a2; exact absurd a2 (by decide)
  refine ⟨⟨h.g8, h.bB, h.bD, ?_, h2.set_other hDB, ho.set h1.is (by decide) _, h3.set h1.is (by decide) _, IntBlk.none, fun k hk => by cases hk⟩, h1.free 9, h1.cell (runC_tail 0 h.g8)⟩
  have := h1.set 9 vw'
  rw [runC_setW vw' h.g8] at this
  exact this
theorem RunAt.setRegs {b : Nat} {B : Nat} {vp : Value} {lps z : Int} {ws : List Int} {se : List PSent} {di pc n : Int} {D : Nat} {vw vs : Value} {W : World}
    (h : RunAt none b W B vp lps z { g := [0, 0, 0, 0, 0, 0, 0, 0], w := ws, sent := se, dice := di, pc := pc, n := n } D vw vs) (a1 a2 a3 a4 : Int) :
    RunAt none b ((((((((W.setCell ⟨B, 1, none⟩ (.int .i64 a1)).setCell ⟨B, 2, none⟩ (.int .i64 a2)).setCell ⟨B, 3, none⟩ (.int .i64 a3)).setCell ⟨B, 4, none⟩ (.int .i64 a4)).setCell ⟨B, 5, none⟩ (.int .i64 0)).setCell ⟨B, 6, none⟩ (.int .i64 0)).setCell ⟨B, 7, none⟩ (.int .i64 0)).setCell ⟨B, 8, none⟩ (.int .i64 0))
      B vp lps z { g := [a1, a2, a3, a4, 0, 0, 0, 0], w := ws, sent := se, dice := di, pc := pc, n := n } D vw vs := by
  have h1 := h.setB 1 (.int .i64 a1) { g := [a1, 0, 0, 0, 0, 0, 0, 0], w := ws, sent := se, dice := di, pc := pc, n := n } rfl rfl rfl rfl rfl
  have h2 := h1.setB 2 (.int .i64 a2) { g := [a1, a2, 0, 0, 0, 0, 0, 0], w := ws, sent := se, dice := di, pc := pc, n := n } rfl rfl rfl rfl rfl
  have h3 := h2.setB 3 (.int .i64 a3) { g := [a1, a2, a3, 0, 0, 0, 0, 0], w := ws, sent := se, dice := di, pc := pc, n := n } rfl rfl rfl rfl rfl
  have h4 := h3.setB 4 (.int .i64 a4) { g := [a1, a2, a3, a4, 0, 0, 0, 0], w := ws, sent := se, dice := di, pc := pc, n := n } rfl rfl rfl rfl rfl
  have h5 := h4.setB 5 (.int .i64 0) { g := [a1, a2, a3, a4, 0, 0, 0, 0], w := ws, sent := se, dice := di, pc := pc, n := n } rfl rfl rfl rfl rfl
  have h6 := h5.setB 6 (.int .i64 0) { g := [a1, a2, a3, a4, 0, 0, 0, 0], w := ws, sent := se, dice := di, pc := pc, n := n } rfl rfl rfl rfl rfl
  have h7 := h6.setB 7 (.int .i64 0) { g := [a1, a2, a3, a4, 0, 0, 0, 0], w := ws, sent := se, dice := di, pc := pc, n := n } rfl rfl rfl rfl rfl
  have h8 := h7.setB 8 (.int .i64 0) { g := [a1, a2, a3, a4, 0, 0, 0, 0], w := ws, sent := se, dice := di, pc := pc, n := n } rfl rfl rfl rfl rfl
  exact h8
set_option maxHeartbeats 2000000 in
set_option maxRecDepth 100000 in
theorem begin_any (vp vw : Value) (i : PIn) (w : World) (hvp : ∃ a m c, vp = .slice a m c) (hw : Sl 1 IntAt w vw i.words) (h8 : i.words.length ≤ 8) :
    Calls Try.prog 129 #[vp, inV vw i] w fun e w' => Gr w w' ∧ ∃ B D vw' vs, e = .returned (.pointer (some ⟨B, 0, none⟩)) ∧ RunAt none w.heap.size w' B vp i.lps (wordU i.seed i.me) i.start D vw' vs := by
  obtain ⟨pa, pm, pc, rfl⟩ := hvp
  have HWD := Lib.hid hw
  obtain ⟨aw, cw, rfl, hwc, hwm, -, -⟩ := hw
  unfold maxLen at hwm
  go_enter Try.func129, Try.ntmps129
  go_wp2
  have HX := Lib.hid (Out.new (w := w) (T := 51) (cs := [.slice aw i.words.length cw, .int .i64 i.pay, .int .i64 i.me, .int .i64 i.lps, .int .i64 i.seed, .int .i64 i.dice]))
  have HG := Lib.hid ((Gr.refl w).alloc (.cells #[.slice aw i.words.length cw, .int .i64 i.pay, .int .i64 i.me, .int .i64 i.lps, .int .i64 i.seed, .int .i64 i.dice] 51))
  have hsz : w.heap.size < (w.alloc (.cells #[.slice aw i.words.length cw, .int .i64 i.pay, .int .i64 i.me, .int .i64 i.lps, .int .i64 i.seed, .int .i64 i.dice] 51)).heap.size := by simp
  generalize w.alloc (.cells #[.slice aw i.words.length cw, .int .i64 i.pay, .int .i64 i.me, .int .i64 i.lps, .int .i64 i.seed, .int .i64 i.dice] 51) = W at HX HG hsz ⊢
  have x1 := HX.out.cell (i := 1) rfl
  have x2 := HX.out.cell (i := 2) rfl
  have x3 := HX.out.cell (i := 3) rfl
  have x4 := HX.out.cell (i := 4) rfl
  have x5 := HX.out.cell (i := 5) rfl
  go_region_held3 (fun W' => (W'.cell? ⟨w.heap.size, 3, none⟩ = some (.int .i64 i.lps) ∧ W'.cell? ⟨w.heap.size, 4, none⟩ = some (.int .i64 i.seed) ∧ W'.cell? ⟨w.heap.size, 2, none⟩ = some (.int .i64 i.me) ∧ W'.cell? ⟨w.heap.size, 5, none⟩ = some (.int .i64 i.dice)))
    (first | exact ⟨x3, x4, x2, x5⟩ | exact ⟨Gr.cell ((Gr.refl _).alloc _) x3, Gr.cell ((Gr.refl _).alloc _) x4, Gr.cell ((Gr.refl _).alloc _) x2, Gr.cell ((Gr.refl _).alloc _) x5⟩ | exact ⟨Gr.cell (((Gr.refl _).alloc _).alloc _) x3, Gr.cell (((Gr.refl _).alloc _).alloc _) x4, Gr.cell (((Gr.refl _).alloc _).alloc _) x2, Gr.cell (((Gr.refl _).alloc _).alloc _) x5⟩)
    (first
      | (go_at_call 161; refine (new_any _ _ _ _).mono ?_; rintro e w' ⟨rfl, rfl⟩))
  go_wp2
  have HR := Lib.hid (show RunAt none w.heap.size ((W.alloc (.cells #[.int .u64 (wordU i.seed i.me), .int .i64 i.dice] 207)).alloc (.cells #[.slice pa pm pc, .int .i64 0, .int .i64 0, .int .i64 0, .int .i64 0, .int .i64 0, .int .i64 0, .int .i64 0, .int .i64 0, .slice none 0 0, .int .i64 i.lps, .pointer (some ⟨W.heap.size, 0, none⟩), .slice none 0 0, .int .i64 0, .int .i64 0] 174)).drew (W.heap.size + 1) (.slice pa pm pc) i.lps (wordU i.seed i.me) { g := [0, 0, 0, 0, 0, 0, 0, 0], w := [], sent := [], dice := i.dice, pc := 0, n := 0 } W.heap.size (.slice none 0 0) (.slice none 0 0) from
    ⟨rfl, by omega, by omega, by have := (Out.new (w := W.alloc (.cells #[.int .u64 (wordU i.seed i.me), .int .i64 i.dice] 207)) (T := 174) (cs := [.slice pa pm pc, .int .i64 0, .int .i64 0, .int .i64 0, .int .i64 0, .int .i64 0, .int .i64 0, .int .i64 0, .int .i64 0, .slice none 0 0, .int .i64 i.lps, .pointer (some ⟨W.heap.size, 0, none⟩), .slice none 0 0, .int .i64 0, .int .i64 0])).drew; rw [World.size_alloc] at this; exact this,
     ((Out.new (w := W) (T := 207) (cs := [.int .u64 (wordU i.seed i.me), .int .i64 i.dice])).alloc _).drew, Own.nil, Own.nil, IntBlk.none, fun k hk => by cases hk⟩)
  have HG2 := Lib.hid (((HG.out.alloc (.cells #[.int .u64 (wordU i.seed i.me), .int .i64 i.dice] 207)).alloc (.cells #[.slice pa pm pc, .int .i64 0, .int .i64 0, .int .i64 0, .int .i64 0, .int .i64 0, .int .i64 0, .int .i64 0, .int .i64 0, .slice none 0 0, .int .i64 i.lps, .pointer (some ⟨W.heap.size, 0, none⟩), .slice none 0 0, .int .i64 0, .int .i64 0] 174)).drew)
  have HX2 := Lib.hid (((HX.out.alloc (.cells #[.int .u64 (wordU i.seed i.me), .int .i64 i.dice] 207)).alloc (.cells #[.slice pa pm pc, .int .i64 0, .int .i64 0, .int .i64 0, .int .i64 0, .int .i64 0, .int .i64 0, .int .i64 0, .int .i64 0, .slice none 0 0, .int .i64 i.lps, .pointer (some ⟨W.heap.size, 0, none⟩), .slice none 0 0, .int .i64 0, .int .i64 0] 174)).drew)
  have hB : w.heap.size ≤ W.heap.size + 1 := by omega
  generalize hBB : W.heap.size + 1 = B at HR hB ⊢
  generalize ((W.alloc (.cells #[.int .u64 (wordU i.seed i.me), .int .i64 i.dice] 207)).alloc (.cells #[.slice pa pm pc, .int .i64 0, .int .i64 0, .int .i64 0, .int .i64 0, .int .i64 0, .int .i64 0, .int .i64 0, .int .i64 0, .slice none 0 0, .int .i64 i.lps, .pointer (some ⟨W.heap.size, 0, none⟩), .slice none 0 0, .int .i64 0, .int .i64 0] 174)).drew = W2 at HR HG2 HX2 ⊢
  clear x1 x2 x3 x4 x5
  have x0 := HX2.out.cell (i := 0) rfl
  have x1 := HX2.out.cell (i := 1) rfl
  have x2 := HX2.out.cell (i := 2) rfl
  have x3 := HX2.out.cell (i := 3) rfl
  have cW := HR.out.cW
  have hs2 := HG2.out.size
  go_region_law
    (refine step_append_list rfl _ _ 39 rfl w.heap.size Try.underlying39 i3w rfl (by omega) (fun _ => rfl) (fun y u hu => by simp [intC] at hu; subst hu; rfl) _ _ rfl rfl [] i.words (HR.out.words.gr ((Gr.refl _).drew))
      (Sl.gr (FlatAt.gr intC) (HG2.out.drew) HWD.out.intC) (by simp [maxLen]; omega) (by simp; omega) (by simp; omega) ?_
     intro v' w' o' g' lie'
     have hg1 : Gr w w' := Gr.grown HG2.out.drew (HR.out.words.gr ((Gr.refl _).drew)) (Nat.le_refl _) g'
     obtain ⟨hr1, hf1, hc1⟩ := (HR.out.gr ((Gr.refl _).drew)).wordsGrown g' o'
     have hx1 := (HX2.out.drew).grown (HR.out.words.gr ((Gr.refl _).drew)) (by decide) g'
     simp only [List.nil_append] at hr1 o'
     obtain ⟨a', c', rfl⟩ := o'.shape
     have HG1 := Lib.hid hg1
     have HR1 := Lib.hid hr1
     have HX1 := Lib.hid hx1
     clear o' lie' g' hg1 hr1 hx1)
  all_goals
    have HG3 := Lib.hid (HG1.out.setCell (p := ⟨B, 9, none⟩) hB (.slice a' i.words.length c'))
    have HX3 := Lib.hid (HX1.out.set_other (O' := B) (i := 9) (v := .slice a' i.words.length c') (by omega))
    generalize w'.setCell ⟨B, 9, none⟩ (.slice a' i.words.length c') = W3 at HG3 HX3 HR1 ⊢
    clear x0 x1 x2 x3 cW hf1 hc1 hBB
    have x0 := HX3.out.cell (i := 0) rfl
    have x1 := HX3.out.cell (i := 1) rfl
    have x2 := HX3.out.cell (i := 2) rfl
    have x3 := HX3.out.cell (i := 3) rfl
    have r1 : W3.cell? ⟨B, 1, none⟩ = some (.int .i64 0) := HR1.out.out.cell rfl
    have r2 : W3.cell? ⟨B, 2, none⟩ = some (.int .i64 0) := HR1.out.out.cell rfl
    have r3 : W3.cell? ⟨B, 3, none⟩ = some (.int .i64 0) := HR1.out.out.cell rfl
    have r4 : W3.cell? ⟨B, 4, none⟩ = some (.int .i64 0) := HR1.out.out.cell rfl
    have r5 : W3.cell? ⟨B, 5, none⟩ = some (.int .i64 0) := HR1.out.out.cell rfl
    have r6 : W3.cell? ⟨B, 6, none⟩ = some (.int .i64 0) := HR1.out.out.cell rfl
    have r7 : W3.cell? ⟨B, 7, none⟩ = some (.int .i64 0) := HR1.out.out.cell rfl
    have r8 : W3.cell? ⟨B, 8, none⟩ = some (.int .i64 0) := HR1.out.out.cell rfl
    have f1 := HR1.out.free 1
    have f2 := HR1.out.free 2
    have f3 := HR1.out.free 3
    have f4 := HR1.out.free 4
    have f5 := HR1.out.free 5
    have f6 := HR1.out.free 6
    have f7 := HR1.out.free 7
    have f8 := HR1.out.free 8
    go_wp2
    go_ret
    have HF := RunAt.setRegs HR1.out i.pay i.me i.lps i.words.length
    refine ⟨?_, B, W.heap.size, .slice a' i.words.length c', .slice none 0 0, rfl, HF⟩
    exact (((((((HG3.out.setCell (p := ⟨B, 1, none⟩) hB _).setCell (p := ⟨B, 2, none⟩) hB _).setCell (p := ⟨B, 3, none⟩) hB _).setCell (p := ⟨B, 4, none⟩) hB _).setCell (p := ⟨B, 5, none⟩) hB _).setCell (p := ⟨B, 6, none⟩) hB _).setCell (p := ⟨B, 7, none⟩) hB _).setCell (p := ⟨B, 8, none⟩) hB _
end Go.Proofs.Ytkoopobfelcgpaa
