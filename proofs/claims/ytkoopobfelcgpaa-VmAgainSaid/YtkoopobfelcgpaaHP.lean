/- layer 7: the law VmWhole -/
import Derived.Test.YtkoopobfelcgpaaHO
set_option linter.unusedSimpArgs false
set_option linter.unusedVariables false
namespace Go.Proofs.Ytkoopobfelcgpaa
open Go.RowKit

/-- what a run keeps: how many words, and where it sends -/
structure VR.whole (L : Nat) (lps : Int) (r : VR) : Prop where
  w : r.w.length = L
  s : r.sent.length ≤ 4
  d : ∀ x ∈ r.sent, 0 ≤ x.dst ∧ x.dst < lps
theorem act_fault (lps z : Int) (x : PIns) (r : VR) : 0 ≤ (actV lps z x r).1 ∧ (actV lps z x r).1 ≤ 6 := by
  unfold actV
  repeat' split
  all_goals simp
theorem act_whole {L : Nat} {lps z : Int} {x : PIns} {r : VR} (h : r.whole L lps) : (actV lps z x r).2.whole L lps := by
  have hs := h.s
  unfold actV
  by_cases h1 : x.op = 1
  · rw [if_pos h1]; exact ⟨h.w, h.s, h.d⟩
  rw [if_neg h1]
  by_cases h2 : x.op = 2
  · rw [if_pos h2]; exact ⟨h.w, h.s, h.d⟩
  rw [if_neg h2]
  by_cases h9 : x.op = 9
  · rw [if_pos h9]; exact ⟨h.w, h.s, h.d⟩
  rw [if_neg h9]
  by_cases h10 : x.op = 10
  · rw [if_pos h10]
    by_cases hz : r.reg x.a = 0
    · simp only [if_pos hz]; exact ⟨h.w, h.s, h.d⟩
    · simp only [if_neg hz]; exact h
  rw [if_neg h10]
  by_cases h11 : x.op = 11
  · rw [if_pos h11]
    by_cases hz : r.reg x.b < 1
    · rw [if_pos hz]; exact h
    · rw [if_neg hz]; exact ⟨h.w, h.s, h.d⟩
  rw [if_neg h11]
  by_cases h12 : x.op = 12
  · rw [if_pos h12]
    by_cases hd : r.reg x.a < 0 ∨ lps ≤ r.reg x.a
    · rw [if_pos hd]; exact h
    rw [if_neg hd]
    by_cases hf : 4 ≤ r.sent.length
    · rw [if_pos hf]; exact h
    rw [if_neg hf]
    refine ⟨h.w, by simp; omega, ?_⟩
    intro y hy
    simp only [List.mem_append, List.mem_cons, List.not_mem_nil, or_false] at hy
    rcases hy with hy | hy
    · exact h.d y hy
    · subst hy; simp only; omega
  rw [if_neg h12]
  by_cases h13 : x.op = 13
  · rw [if_pos h13]
    split
    · exact h
    · exact ⟨h.w, h.s, h.d⟩
  rw [if_neg h13]
  by_cases h14 : x.op = 14
  · rw [if_pos h14]
    split
    · exact h
    · exact ⟨by simpa using h.w, h.s, h.d⟩
  rw [if_neg h14]
  split
  · exact h
  · exact ⟨h.w, h.s, h.d⟩
theorem step_whole {p : List PIns} {L : Nat} {lps z : Int} {r : VR} (h : r.whole L lps) : (stepV p lps z r).2.2.whole L lps ∧ 0 ≤ (stepV p lps z r).1 ∧ (stepV p lps z r).1 ≤ 6 := by
  have hn : r.next.whole L lps := ⟨h.w, h.s, h.d⟩
  unfold stepV
  split
  · exact ⟨h, by simp⟩
  split
  · exact ⟨h, by simp⟩
  split
  · exact ⟨hn, by simp⟩
  split
  · exact ⟨act_whole hn, by simp⟩
  · exact ⟨hn, act_fault _ _ _ _⟩
theorem run_whole {p : List PIns} {L : Nat} {lps z : Int} : ∀ (k : Nat) (r : VR), r.whole L lps → (runV p lps z k r).2.whole L lps ∧ 0 ≤ (runV p lps z k r).1 ∧ (runV p lps z k r).1 ≤ 6
  | 0, r, h => ⟨h, by simp [runV]⟩
  | k + 1, r, h => by
    have hs := step_whole (p := p) (z := z) h
    unfold runV
    split
    · split
      · exact run_whole k _ hs.1
      · exact ⟨hs.1, by simp⟩
    · exact hs
structure POut.whole (L : Nat) (lps : Int) (o : POut) : Prop where
  w : o.words.length = L
  s : o.sent.length ≤ 4
  d : ∀ x ∈ o.sent, 0 ≤ x.dst ∧ x.dst < lps
theorem out_whole (p : List PIns) (i : PIn) : ((runOut p i).2 = 0 ∧ (runOut p i).1.fault = 0 ∧ (runOut p i).1.whole i.words.length i.lps) ∨
    ((runOut p i).1.words = [] ∧ (runOut p i).1.sent = [] ∧ (runOut p i).1.dice = 0 ∧ (¬ (runOut p i).2 = 0 ∨ (runOut p i).2 = 0 ∧ 1 ≤ (runOut p i).1.fault ∧ (runOut p i).1.fault ≤ 6)) := by
  by_cases hm : mayE p i.words.length = 0
  · have h0 : i.start.whole i.words.length i.lps := ⟨rfl, by simp [PIn.start], by intro x hx; simp [PIn.start] at hx⟩
    have hr := run_whole (p := p) (z := wordU i.seed i.me) 122 i.start h0
    by_cases hf : (finV p i).1 = 0
    · rw [out_at hm hf]
      exact .inl ⟨rfl, rfl, hr.1.w, hr.1.s, hr.1.d⟩
    · rw [out_fault hm hf]
      have h1 : 0 ≤ (finV p i).1 := hr.2.1
      have h2 : (finV p i).1 ≤ 6 := hr.2.2
      exact .inr ⟨rfl, rfl, rfl, .inr ⟨rfl, by simp only; omega, h2⟩⟩
  · rw [out_not hm]
    exact .inr ⟨rfl, rfl, rfl, .inl hm⟩
theorem RunTo_any {p : List PIns} {i : PIn} {vp vw : Value} {w : World} (hp : Sl 4 InsAt w vp p) (hw : Sl 1 IntAt w vw i.words) (hi : insI p) (hwf : i.wf) (o : POut) (x : Int) (ho : (runOut p i).1 = o) (hx : (runOut p i).2 = x) :
    Calls Try.prog 46 #[vp, inV vw i] w fun e w' => Gr w w' ∧ ∃ v1 v2, e = .returned (.tuple #[outV v1 v2 o, .int .i64 x]) ∧ Own w.heap.size 3 1 intC w' v1 o.words ∧ Own w.heap.size 60 3 sentC w' v2 o.sent := by
  rw [← ho, ← hx]; exact Run_any hp hw hi hwf
theorem Sl.elem {α : Type} {sz n c : Nat} {R : World → Nat → Nat → α → Prop} {w : World} {a : Option Addr} {l : List α} (h : Sl sz R w (.slice a n c) l) (k : Nat) (hk : k < l.length) : ∃ b o, a = some ⟨b, o, none⟩ ∧ R w b (o + k * sz) l[k] := by
  obtain ⟨a', c', e, h1, h2, h3, h4⟩ := h
  injection e with e1 e2 e3
  subst e1
  exact h4 k l[k] (List.getElem?_eq_getElem hk)
set_option maxHeartbeats 4000000 in
set_option maxRecDepth 100000 in
theorem VmWhole_any (p : List PIns) (i : PIn) (vp vw : Value) (w : World) (hp : Sl 4 InsAt w vp p) (hw : Sl 1 IntAt w vw i.words) (hi : insI p) (hwf : i.wf) :
    Calls Try.prog 14 #[vp, inV vw i] w fun e w' => e = .returned (.bool true) ∧ Gr w w' := by
  have HP := Lib.hid hp
  have HW := Lib.hid hw
  have HI := Lib.hid hi
  have HWF := Lib.hid hwf
  obtain ⟨a, m, rfl, -⟩ := hp
  obtain ⟨aw, mw, rfl, -⟩ := hw
  clear hi hwf
  have HX := Lib.hid (Out.new (w := w) (T := 51) (cs := inL (.slice aw i.words.length mw) i))
  cases hf : fewB p.length i.words.length
  · have HF := Lib.hid hf
    clear hf
    go_enter Try.func14, Try.ntmps14
    go_wp2_with (first
      | (go_at_call 44; refine (fewTo_any p i _ _ _ (HP.out.gr InsAt.gr ((Gr.refl w).alloc _)) (HW.out.gr IntAt.gr ((Gr.refl w).alloc _)) _ HF.out).mono ?_; rintro e w1 ⟨rfl, hg1⟩; have HG1 := Lib.hid (((Gr.refl w).alloc _).trans hg1); clear hg1)
      | (go_at_call 45; refine (awake7_any _).mono ?_; rintro e w2 ⟨rfl, hg2⟩))
    go_ret
    exact ⟨rfl, HG1.out.trans hg2⟩
  have HF := Lib.hid hf
  clear hf
  rcases out_whole p i with ⟨hx0, hf0, hwh⟩ | ⟨hw0, hs0, hd0, hxf⟩
  · obtain ⟨⟨ws, se, di, fa⟩, ho⟩ : ∃ o, (runOut p i).1 = o := ⟨_, rfl⟩
    rw [ho] at hf0 hwh
    simp only at hf0
    subst hf0
    have HO := Lib.hid ho
    have HX0 := Lib.hid hx0
    have HWH := Lib.hid hwh
    have hlen : ws.length = i.words.length := hwh.w
    have hsl : se.length ≤ 4 := hwh.s
    clear ho hx0 hwh
    go_enter Try.func14, Try.ntmps14
    go_wp2_with (first
      | (go_at_call 44; refine (fewTo_any p i _ _ _ (HP.out.gr InsAt.gr ((Gr.refl w).alloc _)) (HW.out.gr IntAt.gr ((Gr.refl w).alloc _)) _ HF.out).mono ?_; rintro e w1 ⟨rfl, hg1⟩
         have HX1 := Lib.hid (HX.out.gr hg1)
         have i0 := HX1.out.cell (i := 0) rfl
         have i1 := HX1.out.cell (i := 1) rfl
         have i2 := HX1.out.cell (i := 2) rfl
         have i3 := HX1.out.cell (i := 3) rfl
         have i4 := HX1.out.cell (i := 4) rfl
         have i5 := HX1.out.cell (i := 5) rfl
         have HG1 := Lib.hid (((Gr.refl w).alloc _).trans hg1); clear hg1)
      | (go_at_call 46; refine (RunTo_any (HP.out.gr InsAt.gr HG1.out) (HW.out.gr IntAt.gr HG1.out) HI.out HWF.out _ _ HO.out HX0.out).mono ?_; rintro e w2 ⟨hg2, v1, v2, rfl, ho1, ho2⟩
         have HS := Lib.hid (outAt_own (o := ⟨ws, se, di, 0⟩) ho1 ho2).sent
         obtain ⟨b1, d1, rfl⟩ := ho1.shape
         obtain ⟨b2, d2, rfl⟩ := ho2.shape
         clear i0 i1 i2 i3 i4 i5
         have HG2 := Lib.hid (HG1.out.trans hg2)
         have HX2 := Lib.hid ((HX1.out.gr hg2).alloc (.cells #[.slice b1 ws.length d1, .slice b2 se.length d2, .int .i64 di, .int .i64 0] 55))
         have HO1 := Lib.hid (Out.new (w := w2) (T := 55) (cs := [.slice b1 ws.length d1, .slice b2 se.length d2, .int .i64 di, .int .i64 0]))
         clear ho1 ho2 hg2))
    have HG3 := Lib.hid ((Gr.refl w2).alloc (.cells #[.slice b1 i.words.length d1, .slice b2 se.length d2, .int .i64 di, .int .i64 0] 55))
    rw [hlen] at HO1 HX2
    go_loopg [7] se.length (fun g k wr => ∃ j : Nat, g + j = se.length ∧ k = .int .i64 j ∧ Gr (w2.alloc (.cells #[.slice b1 i.words.length d1, .slice b2 se.length d2, .int .i64 di, .int .i64 0] 55)) wr)
    case atStart => exact ⟨0, by omega, rfl, Gr.refl _⟩
    case round =>
      obtain ⟨j, hj, rfl, hg⟩ := hrel
      have HG := Lib.hid hg
      have q0 := (HO1.out.gr HG.out).cell (i := 0) rfl
      have q1 := (HO1.out.gr HG.out).cell (i := 1) rfl
      have i0 := (HX2.out.gr HG.out).cell (i := 0) rfl
      have i3 := (HX2.out.gr HG.out).cell (i := 3) rfl
      clear hg
      by_cases hlt : j < se.length
      · obtain ⟨b, f, rfl, hR⟩ := HS.out.elem j hlt
        have x0 := (HG3.out.trans HG.out).cell (hR 0 _ rfl)
        simp only [Nat.add_zero] at x0
        have hd := HWH.out.d se[j] (List.getElem_mem hlt)
        have g1 : decide (se[j].dst < 0) = false := decide_eq_false (by omega)
        have g2 : decide (i.lps ≤ se[j].dst) = false := decide_eq_false (by omega)
        have hk0 : (0 : Int) ≤ j := by omega
        have hk1 : (j : Int) < se.length := by omega
        clear hR hd
        go_wp2
        go_quiet (fail)
        go_wp2
        go_roundg (gk - 1)
        case measure => omega
        case rel => exact ⟨j + 1, by omega, by go_num, HG.out.drewN _⟩
      · go_wp2_with (go_at_call 45; refine (awake7_any _).mono ?_; rintro e w4 ⟨rfl, hg4⟩
                     have q0 := (HO1.out.gr (HG.out.trans hg4)).cell (i := 0) rfl
                     have q1 := (HO1.out.gr (HG.out.trans hg4)).cell (i := 1) rfl
                     have i0 := (HX2.out.gr (HG.out.trans hg4)).cell (i := 0) rfl
                     have HG4 := Lib.hid ((HG2.out.trans HG3.out).trans (HG.out.trans hg4))
                     clear hg4)
        go_ret
        exact ⟨by simp; omega, HG4.out⟩
  · obtain ⟨⟨ws, se, di, fa⟩, ho⟩ : ∃ o, (runOut p i).1 = o := ⟨_, rfl⟩
    obtain ⟨x, hx⟩ : ∃ x, (runOut p i).2 = x := ⟨_, rfl⟩
    rw [ho, hx] at hxf
    rw [ho] at hw0 hs0 hd0
    simp only at hw0 hs0 hd0 hxf
    subst hw0 hs0 hd0
    have HO := Lib.hid ho
    have HX0 := Lib.hid hx
    clear ho hx
    rcases hxf with hxf | ⟨rfl, hf1, hf6⟩
    · have g1 : (x != 0) = true := by simpa using hxf
      have g2 : (x == 0) = false := by simpa using hxf
      clear hxf
      go_enter Try.func14, Try.ntmps14
      go_wp2_with (first
        | (go_at_call 44; refine (fewTo_any p i _ _ _ (HP.out.gr InsAt.gr ((Gr.refl w).alloc _)) (HW.out.gr IntAt.gr ((Gr.refl w).alloc _)) _ HF.out).mono ?_; rintro e w1 ⟨rfl, hg1⟩
           have HX1 := Lib.hid (HX.out.gr hg1)
           have i0 := HX1.out.cell (i := 0) rfl
           have i1 := HX1.out.cell (i := 1) rfl
           have i2 := HX1.out.cell (i := 2) rfl
           have i3 := HX1.out.cell (i := 3) rfl
           have i4 := HX1.out.cell (i := 4) rfl
           have i5 := HX1.out.cell (i := 5) rfl
           have HG1 := Lib.hid (((Gr.refl w).alloc _).trans hg1); clear hg1)
        | (go_at_call 46; refine (RunTo_any (HP.out.gr InsAt.gr HG1.out) (HW.out.gr IntAt.gr HG1.out) HI.out HWF.out _ _ HO.out HX0.out).mono ?_; rintro e w2 ⟨hg2, v1, v2, rfl, ho1, ho2⟩
           obtain ⟨b1, d1, rfl⟩ := ho1.shape
           obtain ⟨b2, d2, rfl⟩ := ho2.shape
           clear i0 i1 i2 i3 i4 i5
           have HG2 := Lib.hid (HG1.out.trans hg2)
           have HO1 := Lib.hid (Out.new (w := w2) (T := 55) (cs := [.slice b1 0 d1, .slice b2 0 d2, .int .i64 0, .int .i64 fa]))
           clear ho1 ho2 hg2)
        | (go_at_call 45; refine (awake7_any _).mono ?_; rintro e w4 ⟨rfl, hg4⟩
           have hp1 := HO1.out.gr hg4
           have y0 := hp1.cell (i := 0) rfl
           have y1 := hp1.cell (i := 1) rfl
           have y2 := hp1.cell (i := 2) rfl
           have y3 := hp1.cell (i := 3) rfl
           have HG4 := Lib.hid ((HG2.out.alloc _).trans hg4)
           clear hg4 hp1))
      go_ret
      exact ⟨by simp, HG4.out⟩
    · have g1 : (fa != 0) = true := by simp; omega
      have g3 : decide (1 ≤ fa) = true := by simpa using hf1
      have g4 : decide (fa ≤ 6) = true := by simpa using hf6
      clear hf1 hf6
      go_enter Try.func14, Try.ntmps14
      go_wp2_with (first
        | (go_at_call 44; refine (fewTo_any p i _ _ _ (HP.out.gr InsAt.gr ((Gr.refl w).alloc _)) (HW.out.gr IntAt.gr ((Gr.refl w).alloc _)) _ HF.out).mono ?_; rintro e w1 ⟨rfl, hg1⟩
           have HX1 := Lib.hid (HX.out.gr hg1)
           have i0 := HX1.out.cell (i := 0) rfl
           have i1 := HX1.out.cell (i := 1) rfl
           have i2 := HX1.out.cell (i := 2) rfl
           have i3 := HX1.out.cell (i := 3) rfl
           have i4 := HX1.out.cell (i := 4) rfl
           have i5 := HX1.out.cell (i := 5) rfl
           have HG1 := Lib.hid (((Gr.refl w).alloc _).trans hg1); clear hg1)
        | (go_at_call 46; refine (RunTo_any (HP.out.gr InsAt.gr HG1.out) (HW.out.gr IntAt.gr HG1.out) HI.out HWF.out _ _ HO.out HX0.out).mono ?_; rintro e w2 ⟨hg2, v1, v2, rfl, ho1, ho2⟩
           obtain ⟨b1, d1, rfl⟩ := ho1.shape
           obtain ⟨b2, d2, rfl⟩ := ho2.shape
           clear i0 i1 i2 i3 i4 i5
           have HG2 := Lib.hid (HG1.out.trans hg2)
           have HO1 := Lib.hid (Out.new (w := w2) (T := 55) (cs := [.slice b1 0 d1, .slice b2 0 d2, .int .i64 0, .int .i64 fa]))
           clear ho1 ho2 hg2)
        | (go_at_call 45; refine (awake7_any _).mono ?_; rintro e w4 ⟨rfl, hg4⟩
           have hp1 := HO1.out.gr hg4
           have y0 := hp1.cell (i := 0) rfl
           have y1 := hp1.cell (i := 1) rfl
           have y2 := hp1.cell (i := 2) rfl
           have y3 := hp1.cell (i := 3) rfl
           have HG4 := Lib.hid ((HG2.out.alloc _).trans hg4)
           clear hg4 hp1))
      go_ret
      exact ⟨by simp, HG4.out⟩
end Go.Proofs.Ytkoopobfelcgpaa
