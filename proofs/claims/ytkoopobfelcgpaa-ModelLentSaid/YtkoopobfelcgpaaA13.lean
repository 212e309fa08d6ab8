/- layer 5: awake -/
import Derived.Test.YtkoopobfelcgpaaA12
namespace Go.Proofs.Ytkoopobfelcgpaa
open Go.RowKit

theorem Sl_nil {α : Type} {sz : Nat} {R : World → Nat → Nat → α → Prop} {w : World} : Sl sz R w (.slice none 0 0) [] := ⟨none, 0, rfl, Nat.le_refl _, Nat.zero_le _, fun _ => rfl, fun i x h => by simp at h⟩
theorem Sl_one {α : Type} {sz : Nat} {R : World → Nat → Nat → α → Prop} {w : World} {b : Nat} {x : α} (h : R w b 0 x) : Sl sz R w (.slice (some ⟨b, 0, none⟩) 1 1) [x] :=
  ⟨some ⟨b, 0, none⟩, 1, rfl, Nat.le_refl _, by unfold maxLen; omega, (fun h => by cases h), fun i y hy => (by
    cases i with
    | zero => simp at hy; subst hy; exact ⟨b, 0, rfl, by simpa using h⟩
    | succ i => simp at hy)⟩
theorem cell_set_other {w : World} {a p : Addr} {u v : Value} (h : w.cell? p = some u) (hne : p.block ≠ a.block) : (w.setCell a v).cell? p = some u := by
  rw [World.cell?_of_block (w := w) (Below.heap_setCell w a v p.block hne)]; exact h
theorem cell_set_same {w : World} {a : Addr} {u v : Value} (h : w.cell? a = some u) : (w.setCell a v).cell? a = some v := by
  simp only [World.cell?, World.setCell] at *
  rw [Array.getElem?_modify]
  simp only [if_true]
  cases hb : w.heap[a.block]? with
  | none => rw [hb] at h; cases h
  | some o =>
    rw [hb] at h
    cases o with
    | cells c e f =>
      simp only [Option.map_some] at *
      split at h
      · cases h
      · rename_i hs
        simp only [hs, if_false, Bool.false_eq_true]
        have : a.off < c.size := by
          rcases Nat.lt_or_ge a.off c.size with g | g
          · exact g
          · rw [Array.getElem?_eq_none g] at h; cases h
        simp [this]
    | _ => cases h

theorem cell_set_off {w : World} {b i j : Nat} {u v : Value} (h : w.cell? ⟨b, j, none⟩ = some u) (hne : j ≠ i) : (w.setCell ⟨b, i, none⟩ v).cell? ⟨b, j, none⟩ = some u := by
  have hne' : (⟨b, i, none⟩ : Addr) ≠ ⟨b, j, none⟩ := by intro e; exact hne (by injection e with _ e2; exact e2.symm)
  have := World.cell?_setCell_other (w := w) (v := v) (h := hne')
  exact this.trans h

def m5 (d : Nat) : PModel := ⟨0, 4621819117588971520, [d], [[⟨0, 0, 0, 0⟩]], [⟨0, []⟩], []⟩
theorem m5_ok : checkE (m5 4607182418800017408) = 0 := by decide +kernel
theorem m5_bad : checkE (m5 0) = 15 := by decide +kernel
theorem m5_same : sameB (m5 0) (m5 0) = true := by decide +kernel

theorem m5_at (w : World) (d : Nat) (b0 b1 b2 b3 : Nat) (h0 : w.cell? ⟨b0, 0, none⟩ = some (.float .f64 d)) (h1 : w.cell? ⟨b1, 0, none⟩ = some (.int .i64 0)) (h2 : w.cell? ⟨b1, 1, none⟩ = some (.int .i64 0))
    (h3 : w.cell? ⟨b1, 2, none⟩ = some (.int .i64 0)) (h4 : w.cell? ⟨b1, 3, none⟩ = some (.int .i64 0)) (h5 : w.cell? ⟨b2, 0, none⟩ = some (.slice (some ⟨b1, 0, none⟩) 1 1))
    (h6 : w.cell? ⟨b3, 0, none⟩ = some (.int .i64 0)) (h7 : w.cell? ⟨b3, 1, none⟩ = some (.slice none 0 0)) :
    ModelAt w (.slice (some ⟨b0, 0, none⟩) 1 1) (.slice (some ⟨b2, 0, none⟩) 1 1) (.slice (some ⟨b3, 0, none⟩) 1 1) (.slice none 0 0) (m5 d) :=
  ⟨Sl_one h0, Sl_one ⟨_, h5, Sl_one ⟨h1, h2, h3, h4⟩⟩, Sl_one ⟨h6, _, h7, Sl_nil⟩, Sl_nil⟩

set_option maxHeartbeats 2000000 in
theorem awake5_any (w : World) : Calls Try.prog 29 #[] w fun e w' => e = .returned (.bool true) ∧ Gr w w' := by
  go_enter Try.func29, Try.ntmps29
  go_wp2_with fail
  refine (Check_any (m5 4607182418800017408) _ _ _ _ _ ?_).mono ?_
  · exact m5_at _ _ w.heap.size (w.heap.size + 1) (w.heap.size + 1 + 1) (w.heap.size + 1 + 1 + 1) (by go_cell) (by go_cell) (by go_cell) (by go_cell) (by go_cell) (by go_cell) (by go_cell) (by go_cell)
  rintro e W ⟨rfl, hW⟩
  rw [m5_ok]
  have c0 := hW.cell (p := ⟨w.heap.size + 1, 0, none⟩) (v := .int .i64 0) (by go_cell)
  have c1 := hW.cell (p := ⟨w.heap.size + 1, 1, none⟩) (v := .int .i64 0) (by go_cell)
  have c2 := hW.cell (p := ⟨w.heap.size + 1, 2, none⟩) (v := .int .i64 0) (by go_cell)
  have c3 := hW.cell (p := ⟨w.heap.size + 1, 3, none⟩) (v := .int .i64 0) (by go_cell)
  have c4 := hW.cell (p := ⟨w.heap.size + 1 + 1, 0, none⟩) (v := .slice (some ⟨w.heap.size + 1, 0, none⟩) 1 1) (by go_cell)
  have c5 := hW.cell (p := ⟨w.heap.size + 1 + 1 + 1, 0, none⟩) (v := .int .i64 0) (by go_cell)
  have c6 := hW.cell (p := ⟨w.heap.size + 1 + 1 + 1, 1, none⟩) (v := .slice none 0 0) (by go_cell)
  have hs := hW.size
  simp only [World.size_alloc] at hs
  have hs4 : w.heap.size + 1 + 1 + 1 + 1 < W.heap.size := by omega
  have d0 := hW.cell (p := ⟨w.heap.size + 1 + 1 + 1 + 1, 0, none⟩) (v := .int .i64 0) (by go_cell)
  have d1 := hW.cell (p := ⟨w.heap.size + 1 + 1 + 1 + 1, 1, none⟩) (v := .float .f64 4621819117588971520) (by go_cell)
  have d2 := hW.cell (p := ⟨w.heap.size + 1 + 1 + 1 + 1, 2, none⟩) (v := .slice (some ⟨w.heap.size, 0, none⟩) 1 1) (by go_cell)
  have d3 := hW.cell (p := ⟨w.heap.size + 1 + 1 + 1 + 1, 3, none⟩) (v := .slice (some ⟨w.heap.size + 1 + 1, 0, none⟩) 1 1) (by go_cell)
  have d4 := hW.cell (p := ⟨w.heap.size + 1 + 1 + 1 + 1, 4, none⟩) (v := .slice (some ⟨w.heap.size + 1 + 1 + 1, 0, none⟩) 1 1) (by go_cell)
  have d5 := hW.cell (p := ⟨w.heap.size + 1 + 1 + 1 + 1, 5, none⟩) (v := .slice none 0 0) (by go_cell)
  have hf : W.frozen? ⟨w.heap.size + 1 + 1 + 1 + 1, 2, none⟩ = false := by
    rw [Below.frozen hW (by simp only [World.size_alloc]; omega)]; go_simp
  have hg : Gr w W := Gr.trans (((((Gr.refl w).alloc _).alloc _).alloc _).alloc _ |>.alloc _) hW
  clear hW
  go_wp2_with fail
  have hx : ∀ p u, W.cell? p = some u → p.block ≠ w.heap.size + 1 + 1 + 1 + 1 → ((W.setCell ⟨w.heap.size + 1 + 1 + 1 + 1, 2, none⟩ (.slice (some ⟨W.heap.size, 0, none⟩) 1 1)).alloc (.cells #[.float .f64 0] 22)).cell? p = some u :=
    fun p u hp hn => Gr.cell ((Gr.refl _).alloc _) (cell_set_other hp hn)
  refine (Check_any (m5 0) _ _ _ _ _ ?_).mono ?_
  · exact m5_at _ _ W.heap.size (w.heap.size + 1) (w.heap.size + 1 + 1) (w.heap.size + 1 + 1 + 1) (by go_cell) (hx _ _ c0 (by simp only []; omega)) (hx _ _ c1 (by simp only []; omega)) (hx _ _ c2 (by simp only []; omega)) (hx _ _ c3 (by simp only []; omega))
      (hx _ _ c4 (by simp only []; omega)) (hx _ _ c5 (by simp only []; omega)) (hx _ _ c6 (by simp only []; omega))
  rintro e W2 ⟨rfl, hW2⟩
  rw [m5_bad]
  have hy : ∀ p u, W.cell? p = some u → p.block ≠ w.heap.size + 1 + 1 + 1 + 1 → W2.cell? p = some u := fun p u hp hn => hW2.cell (hx p u hp hn)
  have hd2 : W2.cell? ⟨w.heap.size + 1 + 1 + 1 + 1, 2, none⟩ = some (.slice (some ⟨W.heap.size, 0, none⟩) 1 1) := hW2.cell (Gr.cell ((Gr.refl _).alloc _) (cell_set_same d2))
  have hd0 : W2.cell? ⟨w.heap.size + 1 + 1 + 1 + 1, 0, none⟩ = some (.int .i64 0) := hW2.cell (Gr.cell ((Gr.refl _).alloc _) (cell_set_off d0 (by decide)))
  have hd1 : W2.cell? ⟨w.heap.size + 1 + 1 + 1 + 1, 1, none⟩ = some (.float .f64 4621819117588971520) := hW2.cell (Gr.cell ((Gr.refl _).alloc _) (cell_set_off d1 (by decide)))
  have hd3 : W2.cell? ⟨w.heap.size + 1 + 1 + 1 + 1, 3, none⟩ = some (.slice (some ⟨w.heap.size + 1 + 1, 0, none⟩) 1 1) := hW2.cell (Gr.cell ((Gr.refl _).alloc _) (cell_set_off d3 (by decide)))
  have hd4 : W2.cell? ⟨w.heap.size + 1 + 1 + 1 + 1, 4, none⟩ = some (.slice (some ⟨w.heap.size + 1 + 1 + 1, 0, none⟩) 1 1) := hW2.cell (Gr.cell ((Gr.refl _).alloc _) (cell_set_off d4 (by decide)))
  have hd5 : W2.cell? ⟨w.heap.size + 1 + 1 + 1 + 1, 5, none⟩ = some (.slice none 0 0) := hW2.cell (Gr.cell ((Gr.refl _).alloc _) (cell_set_off d5 (by decide)))
  have hdl : W2.cell? ⟨W.heap.size, 0, none⟩ = some (.float .f64 0) := hW2.cell (by go_cell)
  have hg2 : Gr w W2 := ((hg.setCell (by simp only []; omega) _).alloc _).trans hW2
  have HM := Lib.hid (m5_at W2 0 W.heap.size (w.heap.size + 1) (w.heap.size + 1 + 1) (w.heap.size + 1 + 1 + 1) hdl (hy _ _ c0 (by simp only []; omega)) (hy _ _ c1 (by simp only []; omega)) (hy _ _ c2 (by simp only []; omega)) (hy _ _ c3 (by simp only []; omega))
      (hy _ _ c4 (by simp only []; omega)) (hy _ _ c5 (by simp only []; omega)) (hy _ _ c6 (by simp only []; omega)))
  clear hx hy c0 c1 c2 c3 c4 c5 c6 d0 d1 d2 d3 d4 d5 hdl hf hs hs4 hW2
  go_wp2_with fail
  refine (Ins_any _ _ _ _ _ _).mono ?_
  rintro e W3 ⟨rfl, hW3⟩
  rw [show insB 9 1 0 0 1 = true from rfl]
  have e0 := hW3.cell hd0
  have e1 := hW3.cell hd1
  have e2 := hW3.cell hd2
  have e3 := hW3.cell hd3
  have e4 := hW3.cell hd4
  have e5 := hW3.cell hd5
  have hg3 := hg2.trans hW3
  clear hd0 hd1 hd2 hd3 hd4 hd5 hg2 hg
  go_wp2_with fail
  refine (Same_any (m5 0) (m5 0) _ _ _ _ _ _ _ _ _ (HM.out.gr hW3) (HM.out.gr hW3)).mono ?_
  rintro e W4 ⟨rfl, hW4⟩
  rw [m5_same]
  go_wp2_with fail
  go_ret
  exact ⟨rfl, hg3.trans hW4⟩
end Go.Proofs.Ytkoopobfelcgpaa
