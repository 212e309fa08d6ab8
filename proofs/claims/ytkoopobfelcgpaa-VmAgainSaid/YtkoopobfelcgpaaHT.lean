/- layer 7: the law VmAgain -/
import Derived.Test.YtkoopobfelcgpaaHS
set_option linter.unusedSimpArgs false
set_option linter.unusedVariables false
namespace Go.Proofs.Ytkoopobfelcgpaa
open Go.RowKit

def insC7 (x : PIns) : List Value := [.int .i64 x.op, .int .i64 x.a, .int .i64 x.b, .int .i64 x.c]
theorem flat_ins7 : ∀ w b o x, InsAt w b o x → FlatAt insC7 w b o x := by
  intro w b o x h j u hu
  match j with
  | 0 => simp [insC7] at hu; subst hu; exact h.1
  | 1 => simp [insC7] at hu; subst hu; exact h.2.1
  | 2 => simp [insC7] at hu; subst hu; exact h.2.2.1
  | 3 => simp [insC7] at hu; subst hu; exact h.2.2.2
  | j + 4 => simp [insC7] at hu
theorem Sl.insC7 {w : World} {v : Value} {l : List PIns} (h : Sl 4 InsAt w v l) : Sl 4 (FlatAt insC7) w v l := by
  obtain ⟨a, cap, e, h1, h2, h3, h4⟩ := h
  refine ⟨a, cap, e, h1, h2, h3, fun i x hx => ?_⟩
  obtain ⟨b, o, ea, hR⟩ := h4 i x hx
  exact ⟨b, o, ea, flat_ins7 _ _ _ _ hR⟩
theorem i34w : (Try.prog.info? 34).map (fun i => (i.zero, i.size, i.bytes)) = some (some (.agg #[.int .i64 0, .int .i64 0, .int .i64 0, .int .i64 0]), 4, 32) := by kernel_rfl
theorem Own.emptyIns (W : World) (b : Nat) (hb : b ≤ W.heap.size) : Own b 34 4 insC7 (W.alloc (.cells #[] 34)) (.slice (some ⟨W.heap.size, 0, none⟩) 0 0) [] :=
  World.ownsRow_lit (size := 4) W #[] 0 hb (by unfold maxLen; omega) rfl
theorem Own.code {b : Nat} {w : World} {v : Value} {l : List PIns} (h : Own b 34 4 insC7 w v l) : Sl 4 InsAt w v l := by
  obtain ⟨a, cap, e, h1, h2, h3, h4⟩ := Own.sl (sz := 4) (cells := insC7) (fun _ => rfl) h
  refine ⟨a, cap, e, h1, h2, h3, fun i x hx => ?_⟩
  obtain ⟨b, o, ea, hR⟩ := h4 i x hx
  exact ⟨b, o, ea, hR 0 _ rfl, hR 1 _ rfl, hR 2 _ rfl, hR 3 _ rfl⟩
theorem Own.outOf {α : Type} {base e sz : Nat} {cells : α → List Value} {w : World} {a : Option Addr} {n c : Nat} {l : List α} (h : Own base e sz cells w (.slice a n c) l) (h0 : 0 < l.length) :
    ∃ g cs, a = some ⟨g, 0, none⟩ ∧ base ≤ g ∧ Out e w g cs ∧ n * sz ≤ cs.length := by
  obtain ⟨-, ⟨he, hn⟩ | ⟨g, cap, cur, he, hb, hg, hnc, hcm, hcs, ht⟩⟩ := h
  · omega
  · injection he with e1 e2 e3
    refine ⟨g, cur.toList, e1, hb, ?_, ?_⟩
    · unfold Out; rw [hg]
    · subst e2
      simp only [Array.length_toList]
      have := Nat.mul_le_mul_right sz hnc
      omega
set_option maxHeartbeats 4000000 in
set_option maxRecDepth 100000 in
theorem VmAgain_any (p : List PIns) (i : PIn) (q : List PIns) (vp vw vq : Value) (w : World) (hp : Sl 4 InsAt w vp p) (hw : Sl 1 IntAt w vw i.words) (hq : Sl 4 InsAt w vq q) (hi : insI p) (hj : insI q) (hwf : i.wf) :
    Calls Try.prog 15 #[vp, inV vw i, vq] w fun e w' => e = .returned (.bool true) ∧ Gr w w' := by
  have HP := Lib.hid hp
  have HW := Lib.hid hw
  have HQ := Lib.hid hq
  have HI := Lib.hid hi
  have HJ := Lib.hid hj
  have HWF := Lib.hid hwf
  obtain ⟨a, m, rfl, -⟩ := hp
  obtain ⟨aw, mw, rfl, -⟩ := hw
  obtain ⟨aq, mq, rfl, -⟩ := hq
  clear hi hj hwf
  have HX := Lib.hid (Out.new (w := w) (T := 51) (cs := inL (.slice aw i.words.length mw) i))
  cases hf : fewB p.length i.words.length
  · have HF := Lib.hid hf
    clear hf
    go_enter Try.func15, Try.ntmps15
    go_wp2_with (first
      | (go_at_call 44; refine (fewTo_any p i _ _ _ (HP.out.gr InsAt.gr ((Gr.refl w).alloc _)) (HW.out.gr IntAt.gr ((Gr.refl w).alloc _)) _ HF.out).mono ?_; rintro e w1 ⟨rfl, hg1⟩; have HG1 := Lib.hid (((Gr.refl w).alloc _).trans hg1); clear hg1)
      | (go_at_call 45; refine (awake7_any _).mono ?_; rintro e w2 ⟨rfl, hg2⟩))
    go_ret
    exact ⟨rfl, HG1.out.trans hg2⟩
  have HF := Lib.hid hf
  have hfl : p.length ≤ 100 ∧ i.words.length ≤ 60 := by simpa [fewB] using hf
  have HFL := Lib.hid hfl
  clear hf hfl
  by_cases h1 : q.length ≤ 100
  case neg =>
    have g1 : decide (100 < (q.length : Int)) = true := decide_eq_true (by omega)
    clear h1
    go_enter Try.func15, Try.ntmps15
    go_wp2_with (first
      | (go_at_call 44; refine (fewTo_any p i _ _ _ (HP.out.gr InsAt.gr ((Gr.refl w).alloc _)) (HW.out.gr IntAt.gr ((Gr.refl w).alloc _)) _ HF.out).mono ?_; rintro e w1 ⟨rfl, hg1⟩; have HG1 := Lib.hid (((Gr.refl w).alloc _).trans hg1); clear hg1)
      | (go_at_call 45; refine (awake7_any _).mono ?_; rintro e w2 ⟨rfl, hg2⟩))
    go_ret
    exact ⟨rfl, HG1.out.trans hg2⟩
  have g1 : decide (100 < (q.length : Int)) = false := decide_eq_false (by omega)
  clear h1
  obtain ⟨o, ho⟩ : ∃ o, (runOut p i).1 = o := ⟨_, rfl⟩
  obtain ⟨x, hx⟩ : ∃ x, (runOut p i).2 = x := ⟨_, rfl⟩
  obtain ⟨oq, hoq⟩ : ∃ o, (runOut q i).1 = o := ⟨_, rfl⟩
  obtain ⟨xq, hxq⟩ : ∃ x, (runOut q i).2 = x := ⟨_, rfl⟩
  have HO := Lib.hid ho
  have HX0 := Lib.hid hx
  have HOQ := Lib.hid hoq
  have HXQ := Lib.hid hxq
  clear ho hx hoq hxq
  go_enter Try.func15, Try.ntmps15
  go_wp2_with (first
    | (go_at_call 44; refine (fewTo_any p i _ _ _ (HP.out.gr InsAt.gr ((Gr.refl w).alloc _)) (HW.out.gr IntAt.gr ((Gr.refl w).alloc _)) _ HF.out).mono ?_; rintro e w1 ⟨rfl, hg1⟩
       have HX1 := Lib.hid (HX.out.gr hg1)
       have hx1 := HX1.out.alloc (.cells #[] 3)
       have i0 := hx1.cell (i := 0) rfl
       have HG1 := Lib.hid (((Gr.refl w).alloc _).trans hg1); clear hg1 hx1)
    | (at_builtin; refine wpList_append_list rfl _ _ 39 rfl w1.heap.size Try.underlying39 i3w rfl (by omega) (fun _ => rfl) (fun y u hu => by simp [intC] at hu; subst hu; rfl) _ _ rfl rfl [] i.words (Own.emptyLit w1 w1.heap.size (Nat.le_refl _))
          (Sl.gr (FlatAt.gr intC) (HG1.out.alloc (.cells #[] 3)) HW.out.intC) (by have := HFL.out.2; simp [maxLen]; omega) (by have := HFL.out.2; simp; omega) (by simp) ?_
       intro v' w2 o' g' lie'
       have hg2 : Gr w1 w2 := Gr.grown ((Gr.refl w1).alloc (.cells #[] 3)) (Own.emptyLit w1 w1.heap.size (Nat.le_refl _)) (Nat.le_refl _) g'
       simp only [List.nil_append] at o'
       obtain ⟨a', c', rfl⟩ := o'.shape
       have HG2 := Lib.hid (HG1.out.trans hg2)
       have HG12 := Lib.hid hg2
       have HWO := Lib.hid o'
       clear i0 hg2 o' g' lie')
    | (at_builtin; refine wpList_append_list rfl _ _ 38 rfl w2.heap.size Try.underlying38 i34w rfl (by omega) (fun _ => rfl) (fun y u hu => by simp [insC7] at hu; rcases hu with rfl | rfl | rfl | rfl <;> rfl) _ _ rfl rfl [] p (Own.emptyIns w2 w2.heap.size (Nat.le_refl _)) (HP.out.gr InsAt.gr (HG2.out.alloc (.cells #[] 34))).insC7 (by have := HFL.out.1; simp [maxLen]; omega) (by have := HFL.out.1; simp; omega) (by simp) ?_
       intro v' w3 o' g' lie'
       have hg3 : Gr w2 w3 := Gr.grown ((Gr.refl w2).alloc (.cells #[] 34)) (Own.emptyIns w2 w2.heap.size (Nat.le_refl _)) (Nat.le_refl _) g'
       simp only [List.nil_append] at o'
       obtain ⟨a1, c1, rfl⟩ := o'.shape
       have HG3 := Lib.hid (HG2.out.trans hg3)
       have HG23 := Lib.hid hg3
       have HCO := Lib.hid o'
       have HX3 := Lib.hid (HX1.out.gr (HG12.out.trans hg3))
       have i0 := HX3.out.cell (i := 0) rfl
       have i1 := HX3.out.cell (i := 1) rfl
       have i2 := HX3.out.cell (i := 2) rfl
       have i3 := HX3.out.cell (i := 3) rfl
       have i4 := HX3.out.cell (i := 4) rfl
       have i5 := HX3.out.cell (i := 5) rfl
       clear hg3 o' g' lie')
    | (go_at_call 46; with_reducible refine (RunTo_any (HP.out.gr InsAt.gr HG3.out) (HW.out.gr IntAt.gr HG3.out) HI.out HWF.out _ _ HO.out HX0.out).mono ?_; rintro e w4 ⟨hg4, v1, v2, rfl, ho1, ho2⟩
       have HA := Lib.hid ho1
       have HAS := Lib.hid ho2
       have HAO := Lib.hid (outAt_own ho1 ho2)
       obtain ⟨b1, d1, rfl⟩ := ho1.shape
       obtain ⟨b2, d2, rfl⟩ := ho2.shape
       clear i0 i1 i2 i3 i4 i5
       have HG4 := Lib.hid (HG3.out.trans hg4)
       have HG34 := Lib.hid hg4
       have HX4 := Lib.hid ((HX3.out.gr hg4).alloc (.cells #[.slice b1 o.words.length d1, .slice b2 o.sent.length d2, .int .i64 o.dice, .int .i64 o.fault] 55))
       have HBA := Lib.hid (Out.new (w := w4) (T := 55) (cs := outL (.slice b1 o.words.length d1) (.slice b2 o.sent.length d2) o))
       have HG4a := Lib.hid (HG4.out.alloc (.cells #[.slice b1 o.words.length d1, .slice b2 o.sent.length d2, .int .i64 o.dice, .int .i64 o.fault] 55))
       have i0 := HX4.out.cell (i := 0) rfl
       have i1 := HX4.out.cell (i := 1) rfl
       have i2 := HX4.out.cell (i := 2) rfl
       have i3 := HX4.out.cell (i := 3) rfl
       have i4 := HX4.out.cell (i := 4) rfl
       have i5 := HX4.out.cell (i := 5) rfl
       clear ho1 ho2 hg4)
    | (go_at_call 46; with_reducible refine (RunTo_any (HQ.out.gr InsAt.gr HG4a.out) (HW.out.gr IntAt.gr HG4a.out) HJ.out HWF.out _ _ HOQ.out HXQ.out).mono ?_; rintro e w5 ⟨hg5, v1, v2, rfl, ho1, ho2⟩
       clear i0 i1 i2 i3 i4 i5
       have HG5 := Lib.hid (HG4a.out.trans hg5)
       have HG45 := Lib.hid (((Gr.refl w4).alloc _).trans hg5)
       have HX5 := Lib.hid (HX4.out.gr hg5)
       have HBA5 := Lib.hid (HBA.out.gr hg5)
       have i0 := HX5.out.cell (i := 0) rfl
       have i1 := HX5.out.cell (i := 1) rfl
       have i2 := HX5.out.cell (i := 2) rfl
       have i3 := HX5.out.cell (i := 3) rfl
       have i4 := HX5.out.cell (i := 4) rfl
       have i5 := HX5.out.cell (i := 5) rfl
       clear ho1 ho2 hg5)
    | (go_at_call 46; with_reducible refine (RunTo_any (HP.out.gr InsAt.gr HG5.out) (HW.out.gr IntAt.gr HG5.out) HI.out HWF.out _ _ HO.out HX0.out).mono ?_; rintro e w6 ⟨hg6, v1, v2, rfl, ho1, ho2⟩
       have HB := Lib.hid ho1
       have HBS := Lib.hid ho2
       have HBO := Lib.hid (outAt_own ho1 ho2)
       obtain ⟨e1, f1, rfl⟩ := ho1.shape
       obtain ⟨e2, f2, rfl⟩ := ho2.shape
       clear i0 i1 i2 i3 i4 i5
       have HG6 := Lib.hid (HG5.out.trans hg6)
       have HG56 := Lib.hid hg6
       have HX6 := Lib.hid ((HX5.out.gr hg6).alloc (.cells #[.slice e1 o.words.length f1, .slice e2 o.sent.length f2, .int .i64 o.dice, .int .i64 o.fault] 55))
       have HBA6 := Lib.hid ((HBA5.out.gr hg6).alloc (.cells #[.slice e1 o.words.length f1, .slice e2 o.sent.length f2, .int .i64 o.dice, .int .i64 o.fault] 55))
       have HBB := Lib.hid (Out.new (w := w6) (T := 55) (cs := outL (.slice e1 o.words.length f1) (.slice e2 o.sent.length f2) o))
       have HG6a := Lib.hid (HG6.out.alloc (.cells #[.slice e1 o.words.length f1, .slice e2 o.sent.length f2, .int .i64 o.dice, .int .i64 o.fault] 55))
       have i0 := HX6.out.cell (i := 0) rfl
       have i1 := HX6.out.cell (i := 1) rfl
       have i2 := HX6.out.cell (i := 2) rfl
       have i3 := HX6.out.cell (i := 3) rfl
       have i4 := HX6.out.cell (i := 4) rfl
       have i5 := HX6.out.cell (i := 5) rfl
       have y0 := HBA6.out.cell (i := 0) rfl
       have y1 := HBA6.out.cell (i := 1) rfl
       have y2 := HBA6.out.cell (i := 2) rfl
       have y3 := HBA6.out.cell (i := 3) rfl
       clear ho1 ho2 hg6)
    | (go_at_call 48; with_reducible refine (outSame_any o _ _ _ _ _ (HAO.out.gr (HG45.out.trans (HG56.out.trans ((Gr.refl w6).alloc _)))) (HBO.out.gr ((Gr.refl w6).alloc _))).mono ?_; rintro e w7 ⟨rfl, hg7⟩
       clear i0 i1 i2 i3 i4 i5 y0 y1 y2 y3
       have HG7 := Lib.hid (HG6a.out.trans hg7)
       have HG67 := Lib.hid (((Gr.refl w6).alloc _).trans hg7)
       have HX7 := Lib.hid (HX6.out.gr hg7)
       have HBA7 := Lib.hid (HBA6.out.gr hg7)
       have HBB7 := Lib.hid (HBB.out.gr hg7)
       have i0 := HX7.out.cell (i := 0) rfl
       have i1 := HX7.out.cell (i := 1) rfl
       have i2 := HX7.out.cell (i := 2) rfl
       have i3 := HX7.out.cell (i := 3) rfl
       have i4 := HX7.out.cell (i := 4) rfl
       have i5 := HX7.out.cell (i := 5) rfl
       clear hg7)
    | (go_at_call 49; with_reducible refine (intsSelf_any i.words _ _ _ (HWO.out.ints.gr IntAt.gr (HG23.out.trans (HG34.out.trans (HG45.out.trans (HG56.out.trans HG67.out))))) (HW.out.gr IntAt.gr HG7.out)).mono ?_; rintro e w8 ⟨rfl, hg8⟩
       clear i0 i1 i2 i3 i4 i5
       have HG8 := Lib.hid (HG7.out.trans hg8)
       have HG78 := Lib.hid hg8
       have HX8 := Lib.hid (HX7.out.gr hg8)
       have HBA8 := Lib.hid (HBA7.out.gr hg8)
       have HBB8 := Lib.hid (HBB7.out.gr hg8)
       clear hg8))
  go_loopg [13] p.length (fun g k wr => ∃ j : Nat, g + j = p.length ∧ k = .int .i64 j ∧ Gr w8 wr)
  case atStart => exact ⟨0, by omega, rfl, Gr.refl _⟩
  case round =>
    obtain ⟨j, hj, rfl, hg⟩ := hrel
    have HG := Lib.hid hg
    clear hg
    by_cases hlt : j < p.length
    · obtain ⟨b, f, rfl, hR⟩ := HP.out.elem j hlt
      obtain ⟨b', f', rfl, hR'⟩ := HCO.out.code.elem j hlt
      have gg := HG8.out.trans HG.out
      have gg' := HG34.out.trans (HG45.out.trans (HG56.out.trans (HG67.out.trans (HG78.out.trans HG.out))))
      obtain ⟨x0, x1, x2, x3⟩ := InsAt.gr _ _ _ _ _ gg hR
      obtain ⟨z0, z1, z2, z3⟩ := InsAt.gr _ _ _ _ _ gg' hR'
      have hk0 : (0 : Int) ≤ j := by omega
      have hk1 : (j : Int) < p.length := by omega
      clear hR hR' gg gg'
      go_wp2
      go_quiet (fail)
      go_wp2
      have hfl := HFL.out.1
      go_roundg (gk - 1)
      case measure => omega
      case rel => exact ⟨j + 1, by omega, congrArg (Value.int .i64) (by unfold wrap64; omega), HG.out.drewN _⟩
    · go_wp2
      have HA9 := Lib.hid ((HA.out.gr (HG45.out.trans (HG56.out.trans (HG67.out.trans (HG78.out.trans HG.out))))))
      have HB9 := Lib.hid (HB.out.gr (HG67.out.trans (HG78.out.trans HG.out)))
      have HBS9 := Lib.hid (HBS.out.gr (HG67.out.trans (HG78.out.trans HG.out)))
      have HBA9 := Lib.hid (HBA8.out.gr HG.out)
      have HBB9 := Lib.hid (HBB8.out.gr HG.out)
      have HG9 := Lib.hid (HG34.out.trans (HG45.out.trans (HG56.out.trans (HG67.out.trans (HG78.out.trans HG.out)))))
      have hcs : 0 < o.words.length → ∃ g cs, b1 = some ⟨g, 0, none⟩ ∧ w3.heap.size ≤ g ∧ g < w4.heap.size ∧ Out 3 wr g cs ∧ o.words.length ≤ cs.length := fun h0 => by
        obtain ⟨g, cs, e, hb, hO, hl⟩ := HA.out.outOf h0
        exact ⟨g, cs, e, hb, hO.lt, hO.gr (HG45.out.trans (HG56.out.trans (HG67.out.trans (HG78.out.trans HG.out)))), by omega⟩
      have HCS := Lib.hid hcs
      have HLEN : Hid (o.words.length ≤ 9223372036854775807) := by
        obtain ⟨_, cap, _, h1, h2, -⟩ := HAO.out.words
        unfold maxLen at h2
        show o.words.length ≤ 9223372036854775807
        omega
      clear hcs
      generalize hW : wr = W0 at HA9 HB9 HBS9 HBA9 HBB9 HG9 HCS
      go_loopg [14] o.words.length (fun g k wr => ∃ j : Nat, g + j = o.words.length ∧ k = .int .i64 j ∧ Gr w3 wr ∧ Out 55 wr w4.heap.size (outL (.slice b1 o.words.length d1) (.slice b2 o.sent.length d2) o) ∧ Out 55 wr w6.heap.size (outL (.slice e1 o.words.length f1) (.slice e2 o.sent.length f2) o) ∧
        Own w5.heap.size 3 1 intC wr (.slice e1 o.words.length f1) o.words ∧ Own w5.heap.size 60 3 sentC wr (.slice e2 o.sent.length f2) o.sent ∧ (0 < o.words.length → ∃ g cs, b1 = some ⟨g, 0, none⟩ ∧ w3.heap.size ≤ g ∧ g < w4.heap.size ∧ Out 3 wr g cs ∧ o.words.length ≤ cs.length))
      case atStart => subst hW; exact ⟨0, by omega, rfl, HG9.out, HBA9.out, HBB9.out, HB9.out, HBS9.out, HCS.out⟩
      case round =>
        obtain ⟨k, hk, rfl, hg3, hA, hBB, hBW, hBS, hcs⟩ := hrel
        have HH := Lib.hid hg3
        have HHA := Lib.hid hA
        have HHB := Lib.hid hBB
        have HHW := Lib.hid hBW
        have HHS := Lib.hid hBS
        have HHC := Lib.hid hcs
        have y0 := hA.cell (i := 0) rfl
        clear hg3 hA hBB hBW hBS hcs
        by_cases hkl : k < o.words.length
        · obtain ⟨g, cs, rfl, hb, hb', hO, hle⟩ := HHC.out (by omega)
          have c0 := hO.cell (i := k) (List.getElem?_eq_getElem (by omega))
          have c1 := hO.free k
          have hk0 : (0 : Int) ≤ k := by omega
          have hk1 : (k : Int) < o.words.length := by omega
          have HO3 := Lib.hid hO
          clear hO
          go_wp2
          have hsz := HG45.out.size
          have hn1 : Value.ownBlock (.slice e1 o.words.length f1) ≠ some g := by
            intro e
            rcases HHW.out.block with h0 | ⟨g', cur, h1, h2, -⟩
            · rw [h0] at e; cases e
            · rw [h1] at e; injection e with e; omega
          have hn2 : Value.ownBlock (.slice e2 o.sent.length f2) ≠ some g := by
            intro e
            rcases HHS.out.block with h0 | ⟨g', cur, h1, h2, -⟩
            · rw [h0] at e; cases e
            · rw [h1] at e; injection e with e; omega
          have hs6 := HG56.out.size
          have hlen60 := HLEN.out
          go_roundg (gk - 1)
          case measure => omega
          case rel => exact ⟨k + 1, by omega, congrArg (Value.int .i64) (by unfold wrap64; omega), HH.out.setCell (p := ⟨g, k, none⟩) hb _, HHA.out.set_other (by omega), HHB.out.set_other (by omega), HHW.out.setFar hn1 _, HHS.out.setFar hn2 _, fun _ => ⟨g, cs.set k (.int .i64 77), rfl, hb, hb', HO3.out.set k _, by simp; exact hle⟩⟩
        · have HX9 := Lib.hid (HX3.out.gr HH.out)
          have HW9 := Lib.hid (HW.out.gr IntAt.gr (HG3.out.trans HH.out))
          have HWO9 := Lib.hid ((HWO.out.ints.gr IntAt.gr HG23.out).gr IntAt.gr HH.out)
          go_wp2
          have HGG := Lib.hid (HG3.out.trans HH.out)
          clear y0
          have Z0 := Lib.hid (fun y : After wr => (HX9.out.gr y.h).cell (i := 0) rfl)
          have hb := Gr.refl wr
          by_cases h0 : o.words.length = 0
          · have q0 := fun y : After wr => (HX9.out.gr y.h).cell (i := 0) rfl
            have u0 := fun y : After wr => (HHB.out.gr y.h).cell (i := 0) rfl
            have n0 : ((o.words.length : Int) == 0) = true := by rw [h0]; rfl
            refine wp_region_grow _ hb mixed (by kernel_rfl) ?_
            repeat (go_big_quiet_step (first
              | (go_at_call 45; with_reducible exact After.calls (awake7_any _))
              | (go_at_call 49; with_reducible exact After.calls (intsSelf_any i.words _ _ _ (HWO9.out.gr IntAt.gr (After.h _)) (HW9.out.gr IntAt.gr (After.h _))))))
            refine wpQuiet_nil ?_
            intro _ hw'
            obtain ⟨y, rfl⟩ := hw'
            go_wp2
            go_ret
            exact ⟨by simp, HGG.out.trans y.h⟩
          have n0 : ((o.words.length : Int) == 0) = false := by simpa using h0
          by_cases hx0 : x = 0
          case neg =>
            have x0 : (x != 0) = true := by simpa using hx0
            have q0 := fun y : After wr => (HX9.out.gr y.h).cell (i := 0) rfl
            have u0 := fun y : After wr => (HHB.out.gr y.h).cell (i := 0) rfl
            refine wp_region_grow _ hb mixed (by kernel_rfl) ?_
            repeat (go_big_quiet_step (first
              | (go_at_call 45; with_reducible exact After.calls (awake7_any _))
              | (go_at_call 49; with_reducible exact After.calls (intsSelf_any i.words _ _ _ (HWO9.out.gr IntAt.gr (After.h _)) (HW9.out.gr IntAt.gr (After.h _))))))
            refine wpQuiet_nil ?_
            intro _ hw'
            obtain ⟨y, rfl⟩ := hw'
            go_wp2
            go_ret
            exact ⟨by simp, HGG.out.trans y.h⟩
          have x0 : (x != 0) = false := by simpa using hx0
          have HBX := Lib.hid (⟨HHW.out.ints, Own.sl (sz := 3) (cells := sentC) (fun _ => rfl) HHS.out⟩ : OutAt wr (.slice e1 o.words.length f1) (.slice e2 o.sent.length f2) o)
          have i0 := HX9.out.cell (i := 0) rfl
          have i1 := HX9.out.cell (i := 1) rfl
          have i2 := HX9.out.cell (i := 2) rfl
          have i3 := HX9.out.cell (i := 3) rfl
          have i4 := HX9.out.cell (i := 4) rfl
          have i5 := HX9.out.cell (i := 5) rfl
          have u0 := HHB.out.cell (i := 0) rfl
          have u1 := HHB.out.cell (i := 1) rfl
          have u2 := HHB.out.cell (i := 2) rfl
          have u3 := HHB.out.cell (i := 3) rfl
          have HX0b := Lib.hid hx0
          clear hx0 h0
          go_region_held3 (fun W' => W'.cell? ⟨w.heap.size, 0, none⟩ = some (.slice aw i.words.length mw) ∧ W'.cell? ⟨w.heap.size, 1, none⟩ = some (.int .i64 i.pay) ∧ W'.cell? ⟨w.heap.size, 2, none⟩ = some (.int .i64 i.me) ∧ W'.cell? ⟨w.heap.size, 3, none⟩ = some (.int .i64 i.lps) ∧ W'.cell? ⟨w.heap.size, 4, none⟩ = some (.int .i64 i.seed) ∧ W'.cell? ⟨w.heap.size, 5, none⟩ = some (.int .i64 i.dice) ∧ W'.cell? ⟨w6.heap.size, 0, none⟩ = some (.slice e1 o.words.length f1) ∧ W'.cell? ⟨w6.heap.size, 1, none⟩ = some (.slice e2 o.sent.length f2) ∧ W'.cell? ⟨w6.heap.size, 2, none⟩ = some (.int .i64 o.dice) ∧ W'.cell? ⟨w6.heap.size, 3, none⟩ = some (.int .i64 o.fault))
            (first | with_reducible exact ⟨i0, i1, i2, i3, i4, i5, u0, u1, u2, u3⟩ | exact ⟨i0, i1, i2, i3, i4, i5, u0, u1, u2, u3⟩)
            (first
            | (go_at_call 45; with_reducible refine (awake7_any _).mono ?_; rintro e s1 ⟨rfl, hs1⟩
               clear i0 i1 i2 i3 i4 i5 u0 u1 u2 u3
               have HS1 := Lib.hid ((by first | with_reducible exact (Gr.refl _) | with_reducible exact (Gr.refl _).drew : Gr wr _).trans hs1)
               have HP1 := Lib.hid (HX9.out.gr HS1.out)
               have HP2 := Lib.hid (HHB.out.gr HS1.out)
               have i0 := HP1.out.cell (i := 0) rfl
               have i1 := HP1.out.cell (i := 1) rfl
               have i2 := HP1.out.cell (i := 2) rfl
               have i3 := HP1.out.cell (i := 3) rfl
               have i4 := HP1.out.cell (i := 4) rfl
               have i5 := HP1.out.cell (i := 5) rfl
               have u0 := HP2.out.cell (i := 0) rfl
               have u1 := HP2.out.cell (i := 1) rfl
               have u2 := HP2.out.cell (i := 2) rfl
               have u3 := HP2.out.cell (i := 3) rfl
               clear hs1)
            | (go_at_call 49; with_reducible refine (intsSelf_any i.words _ _ _ (HWO9.out.gr IntAt.gr HS1.out) (HW9.out.gr IntAt.gr HS1.out)).mono ?_; rintro e s2 ⟨rfl, hs2⟩
               clear i0 i1 i2 i3 i4 i5 u0 u1 u2 u3
               have HS2 := Lib.hid (HS1.out.trans hs2)
               have HR1 := Lib.hid (HX9.out.gr HS2.out)
               have HR2 := Lib.hid (HHB.out.gr HS2.out)
               have i0 := HR1.out.cell (i := 0) rfl
               have i1 := HR1.out.cell (i := 1) rfl
               have i2 := HR1.out.cell (i := 2) rfl
               have i3 := HR1.out.cell (i := 3) rfl
               have i4 := HR1.out.cell (i := 4) rfl
               have i5 := HR1.out.cell (i := 5) rfl
               have u0 := HR2.out.cell (i := 0) rfl
               have u1 := HR2.out.cell (i := 1) rfl
               have u2 := HR2.out.cell (i := 2) rfl
               have u3 := HR2.out.cell (i := 3) rfl
               clear hs2)
            | (go_at_call 50; with_reducible refine (must_any p i _ _ _ (HP.out.gr InsAt.gr (HGG.out.trans HS2.out)) (HW.out.gr IntAt.gr (HGG.out.trans HS2.out)) HI.out HWF.out o HO.out).mono ?_; rintro e s3 ⟨hs3, v1, v2, rfl, ho1, ho2⟩
               clear i0 i1 i2 i3 i4 i5 u0 u1 u2 u3
               have HS3 := Lib.hid (HS2.out.trans hs3)
               have HMO := Lib.hid (outAt_own ho1 ho2)
               have HT1 := Lib.hid (HX9.out.gr HS3.out)
               have HT2 := Lib.hid (HHB.out.gr HS3.out)
               have i0 := HT1.out.cell (i := 0) rfl
               have i1 := HT1.out.cell (i := 1) rfl
               have i2 := HT1.out.cell (i := 2) rfl
               have i3 := HT1.out.cell (i := 3) rfl
               have i4 := HT1.out.cell (i := 4) rfl
               have i5 := HT1.out.cell (i := 5) rfl
               have u0 := HT2.out.cell (i := 0) rfl
               have u1 := HT2.out.cell (i := 1) rfl
               have u2 := HT2.out.cell (i := 2) rfl
               have u3 := HT2.out.cell (i := 3) rfl
               clear hs3 ho1 ho2)
            | (go_at_call 48; with_reducible refine (outSame_any o _ _ _ _ _ (HBX.out.gr HS3.out) HMO.out).mono ?_; rintro e s4 ⟨rfl, hs4⟩
               have HS4 := Lib.hid (HS3.out.trans hs4)
               clear i0 i1 i2 i3 i4 i5 u0 u1 u2 u3
               have i0 := (HX9.out.gr HS4.out).cell (i := 0) rfl
               have i1 := (HX9.out.gr HS4.out).cell (i := 1) rfl
               have i2 := (HX9.out.gr HS4.out).cell (i := 2) rfl
               have i3 := (HX9.out.gr HS4.out).cell (i := 3) rfl
               have i4 := (HX9.out.gr HS4.out).cell (i := 4) rfl
               have i5 := (HX9.out.gr HS4.out).cell (i := 5) rfl
               have u0 := (HHB.out.gr HS4.out).cell (i := 0) rfl
               have u1 := (HHB.out.gr HS4.out).cell (i := 1) rfl
               have u2 := (HHB.out.gr HS4.out).cell (i := 2) rfl
               have u3 := (HHB.out.gr HS4.out).cell (i := 3) rfl
               clear hs4))
          go_wp2
          go_ret
          exact ⟨by simp, HGG.out.trans HS4.out⟩
end Go.Proofs.Ytkoopobfelcgpaa
