/- layer 5: the laws' walks: ModelCopies -/
import Derived.Test.YtkoopobfelcgpaaB1
import Derived.Test.YtkoopobfelcgpaaA15
namespace Go.Proofs.Ytkoopobfelcgpaa
open Go.RowKit

theorem vals_at {base : Nat} {w : World} {v : Value} {vs : List SV} {ps : List (List PIns)} (h : Own base 38 1 valCells w v vs) (hn : vs.length = ps.length) (ha : OwnAll base w vs ps) : Sl 1 (SlAt 4 InsAt) w v ps := by
  obtain ⟨a, c, e, h1, h2, h3, h4⟩ := Own.sl (cells := valCells) (fun _ => rfl) h
  rw [hn] at e h1
  refine ⟨a, c, e, h1, h2, h3, fun i p hp => ?_⟩
  have hi : i < vs.length := by
    rw [hn]
    rcases Nat.lt_or_ge i ps.length with g | g
    · exact g
    · rw [List.getElem?_eq_none g] at hp; cases hp
  obtain ⟨b, o, ea, hf⟩ := h4 i vs[i] (List.getElem?_eq_getElem hi)
  exact ⟨b, o, ea, vs[i].val, hf 0 _ rfl, (Own.sl (cells := insCells) (fun _ => rfl) (ha i _ p (List.getElem?_eq_getElem hi) hp)).imp ins_flat⟩
theorem lps_at {base : Nat} {w : World} {v : Value} {ls : List (Int × SV)} {xs : List PLP} (h : Own base 41 2 lpCells w v ls) (hn : ls.length = xs.length) (ha : OwnLPs base w ls xs) : Sl 2 LPAt w v xs := by
  obtain ⟨a, c, e, h1, h2, h3, h4⟩ := Own.sl (cells := lpCells) (fun _ => rfl) h
  rw [hn] at e h1
  refine ⟨a, c, e, h1, h2, h3, fun i x hx => ?_⟩
  have hi : i < ls.length := by
    rw [hn]
    rcases Nat.lt_or_ge i xs.length with g | g
    · exact g
    · rw [List.getElem?_eq_none g] at hx; cases hx
  obtain ⟨b, o, ea, hf⟩ := h4 i ls[i] (List.getElem?_eq_getElem hi)
  obtain ⟨k1, k2⟩ := ha i _ x (List.getElem?_eq_getElem hi) hx
  refine ⟨b, o, ea, ?_, ls[i].2.val, hf 1 _ rfl, (Own.sl (cells := intCells) (fun _ => rfl) k2).imp int_flat⟩
  rw [← k1]; exact hf 0 _ rfl

theorem CopiedAt.at {m : PModel} {w : World} {v1 v2 v3 v4 : Value} {vs : List SV} {ls : List (Int × SV)} {W : World} (h : CopiedAt m w v1 v2 v3 v4 vs ls W) : ModelAt W v1 v2 v3 v4 m :=
  ⟨(Own.sl (cells := floatCells) (fun _ => rfl) h.d).imp float_flat, vals_at h.p h.pn h.pa, lps_at h.l h.ln h.la, (Own.sl (cells := initCells) (fun _ => rfl) h.i).imp init_flat⟩

theorem small_of {m : PModel} (h : lightB 20 40 60 60 200 100 m = true) : Small m := by
  simp only [lightB, Bool.and_eq_true, decide_eq_true_eq, List.all_eq_true] at h
  obtain ⟨⟨⟨⟨⟨h1, h2⟩, h3⟩, h4⟩, h5⟩, h6⟩ := h
  exact ⟨by omega, by omega, by omega, by omega, fun p hp => Nat.le_trans (h5 p hp) (by decide), fun x hx => Nat.le_trans (h6 x hx) (by decide)⟩

set_option maxHeartbeats 4000000 in
set_option maxRecDepth 100000 in
theorem ModelCopies_any (m : PModel) (vd vp vl vi : Value) (w : World) (h : ModelAt w vd vp vl vi m) :
    Calls Try.prog 6 #[.agg #[.int .i64 m.seed, .float .f64 m.fin, vd, vp, vl, vi]] w fun e w' => e = .returned (.bool true) ∧ Gr w w' := by
  have Q := Lib.hid h
  obtain ⟨ad, cd, rfl, -⟩ := h.delays
  obtain ⟨ap, cp, rfl, -⟩ := h.programs
  obtain ⟨al, cl, rfl, -⟩ := h.lps
  obtain ⟨ai, ci, rfl, -⟩ := h.init
  clear h
  have hb := Gr.refl (w.alloc (.cells #[.int .i64 m.seed, .float .f64 m.fin, .slice ad m.delays.length cd, .slice ap m.programs.length cp, .slice al m.lps.length cl, .slice ai m.init.length ci] 28))
  obtain ⟨K, q0, q1, q2, q3, q4, q5⟩ := After.box6 hb
  have HK := Lib.hid K
  clear K
  cases hl : lightB 20 40 60 60 200 100 m
  case false =>
    have HL := Lib.hid hl
    clear hl
    go_enter Try.func6, Try.ntmps6
    go_wp2_with (first
      | (go_at_call 30; refine (Calls.to (light5_any m _ _ _ _ _ (Q.out.gr (HK.out ⟨_, hb⟩))) (boolv HL.out)).mono ?_; rintro e w' ⟨rfl, hg⟩)
      | (go_at_call 29; refine (awake5_any _).mono ?_; rintro e w'' ⟨rfl, hg'⟩))
    go_ret
    exact ⟨rfl, (HK.out ⟨_, hg⟩).trans hg'⟩
  case true =>
    have HS := Lib.hid (small_of hl)
    have HL := Lib.hid hl
    clear hl
    have HR := Lib.hid (sameB_refl m)
    go_enter Try.func6, Try.ntmps6
    go_wp2_with (first
      | (go_at_call 30; refine (Calls.to (light5_any m _ _ _ _ _ (Q.out.gr (HK.out ⟨_, hb⟩))) (boolv HL.out)).mono ?_; rintro e w' ⟨rfl, hg⟩
         have z0 : w'.cell? ⟨w.heap.size, 0, none⟩ = some (.int .i64 m.seed) := q0 ⟨_, hg⟩
         have z1 : w'.cell? ⟨w.heap.size, 1, none⟩ = some (.float .f64 m.fin) := q1 ⟨_, hg⟩
         have z2 : w'.cell? ⟨w.heap.size, 2, none⟩ = some (.slice ad m.delays.length cd) := q2 ⟨_, hg⟩
         have z3 : w'.cell? ⟨w.heap.size, 3, none⟩ = some (.slice ap m.programs.length cp) := q3 ⟨_, hg⟩
         have z4 : w'.cell? ⟨w.heap.size, 4, none⟩ = some (.slice al m.lps.length cl) := q4 ⟨_, hg⟩
         have z5 : w'.cell? ⟨w.heap.size, 5, none⟩ = some (.slice ai m.init.length ci) := q5 ⟨_, hg⟩
         have HG := Lib.hid hg
         clear hg)
      | (go_at_call 37; refine (Copy_any m _ _ _ _ _ (Q.out.gr (HK.out ⟨_, HG.out⟩)) HS.out).mono ?_; rintro e w3 ⟨v1, v2, v3, v4, vs, ls, rfl, hc⟩
         obtain ⟨a1, c1, rfl⟩ := hc.d.shape
         obtain ⟨a2, c2, rfl⟩ := hc.p.shape
         obtain ⟨a3, c3, rfl⟩ := hc.l.shape
         obtain ⟨a4, c4, rfl⟩ := hc.i.shape
         have HC := Lib.hid hc
         clear hc z0 z1 z2 z3 z4 z5))
    clear q0 q1 q2 q3 q4 q5
    have hW := Gr.refl (w3.alloc (.cells #[.int .i64 m.seed, .float .f64 m.fin, .slice a1 m.delays.length c1, .slice a2 vs.length c2, .slice a3 ls.length c3, .slice a4 m.init.length c4] 28))
    obtain ⟨K, q0, q1, q2, q3, q4, q5⟩ := After.box6 (HG.out.trans (HC.out.g.trans (((Gr.refl w3).alloc _).trans hW)))
    obtain ⟨K', r0, r1, r2, r3, r4, r5⟩ := After.box6 hW
    have HK1 := Lib.hid K
    have HK2 := Lib.hid K'
    have HM := Lib.hid HC.out.at
    clear K K' HC
    refine wp_region_grow _ hW mixed (by kernel_rfl) ?_
    repeat (go_big_quiet_step (first
      | (go_at_call 29; exact After.calls (awake5_any _))
      | (go_at_call 36; with_reducible exact After.calls (Calls.to (RSame_any m m _ _ _ _ _ _ _ _ _ (HM.out.gr (HK2.out _)) (Q.out.gr (HK1.out _))) (boolv HR.out)))
      | (go_at_call 35; with_reducible exact After.calls (Calls.to (Same_any m m _ _ _ _ _ _ _ _ _ (HM.out.gr (HK2.out _)) (Q.out.gr (HK1.out _))) (boolv HR.out)))
      | (go_at_call 31; with_reducible exact After.calls (Check_any m _ _ _ _ _ (HM.out.gr (HK2.out _))))
      | (go_at_call 31; with_reducible exact After.calls (Check_any m _ _ _ _ _ (Q.out.gr (HK1.out _))))))
    refine wpQuiet_nil ?_
    intro _ hw'
    obtain ⟨x, rfl⟩ := hw'
    go_wp2
    go_ret
    exact ⟨by simp, HK1.out x⟩
end Go.Proofs.Ytkoopobfelcgpaa
