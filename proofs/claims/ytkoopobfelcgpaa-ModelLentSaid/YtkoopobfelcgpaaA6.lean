/- layer 5: Check -/
import Derived.Test.YtkoopobfelcgpaaA5
namespace Go.Proofs.Ytkoopobfelcgpaa
open Go.RowKit

def delayB (d : Nat) : Bool := !fnan d && fgt d 0
def lpB (np : Nat) (x : PLP) : Bool := (decide (0 ≤ x.prog) && decide (x.prog ≤ (np : Int) - 1)) && decide (x.words.length ≤ 8)
def initB (nl : Nat) (x : PInit) : Bool := !fnan x.t && (decide (0 ≤ x.dst) && decide (x.dst ≤ (nl : Int) - 1))
def checkB (m : PModel) : Bool := (countsB m && !fnan m.fin) && (m.delays.all delayB && (m.programs.all progB && (m.lps.all (lpB m.programs.length) && m.init.all (initB m.lps.length))))
def checkE (m : PModel) : Int := if checkB m = true then 0 else 15

theorem all_succ {α : Type} (p : α → Bool) (l : List α) (k : Nat) (x : α) (h : l[k]? = some x) : (l.take (k + 1)).all p = ((l.take k).all p && p x) := by
  rw [List.take_add_one, h]; simp [List.all_append]
theorem all_end {α : Type} (p : α → Bool) (l : List α) (k : Nat) (hk : l.length ≤ k) : (l.take k).all p = l.all p := by rw [List.take_of_length_le hk]

set_option maxHeartbeats 8000000 in
set_option maxRecDepth 100000 in
theorem Check_any (m : PModel) (vd vp vl vi : Value) (w : World) (h : ModelAt w vd vp vl vi m) :
    Calls Try.prog 31 #[.agg #[.int .i64 m.seed, .float .f64 m.fin, vd, vp, vl, vi]] w fun e w' => e = .returned (.int .i64 (checkE m)) ∧ Gr w w' := by
  have h0 := Lib.hid h
  obtain ⟨ad, cd, rfl, hdc, hdm, -, hd⟩ := h.delays
  obtain ⟨ap, cp, rfl, hpc, hpm, -, hp⟩ := h.programs
  obtain ⟨al, cl, rfl, hlc, hlm, -, hl⟩ := h.lps
  obtain ⟨ai, ci, rfl, hic, him, -, hi⟩ := h.init
  clear h
  unfold maxLen at hpm hlm hdm him
  have HD := Lib.hid hd; clear hd
  have HP := Lib.hid hp; clear hp
  have HL := Lib.hid hl; clear hl
  have HI := Lib.hid hi; clear hi
  go_enter Try.func31, Try.ntmps31
  go_wp2_with (first | (go_at_call 79; refine (counts_any m _ _ _ _ _ (by exact h0.out.gr ((Gr.refl _).alloc _))).mono ?_; rintro e W ⟨rfl, hW⟩; obtain ⟨hg, hs, q0, q1, q2, q3, q4, q5⟩ := box6 hW) | (go_at_call 80; refine (isnan_any _ _).mono ?_; rintro e w' ⟨rfl, rfl⟩))
  all_goals
    have hc : countsB m = true ∨ countsB m = false := by cases countsB m <;> simp
    have HC := Lib.hid hc; clear hc
    clear hW q0 q1
    go_loopg [3, 23] m.delays.length (fun g r i wr => ∃ (k : Nat) (B : Bool), g + k = m.delays.length ∧ i = .int .i64 k ∧ r = .bool B ∧ Gr W wr ∧ B = ((countsB m && !fnan m.fin) && (m.delays.take k).all delayB))
    case atStart => exact ⟨0, _, by omega, rfl, rfl, Gr.refl _, by simp [*]⟩
    case round =>
      obtain ⟨k, B, hk, rfl, rfl, hgr, hB⟩ := hrel
      have HB := Lib.hid hB; clear hB
      by_cases hlt : k < m.delays.length
      · obtain ⟨b, o, rfl, hR⟩ := HD.out k m.delays[k] (by simp [hlt])
        have hv : wr.cell? ⟨b, o + k * 1, none⟩ = some (.float .f64 m.delays[k]) := (hg.trans hgr).cell hR
        rw [Nat.mul_one] at hv
        clear hR
        cases B
        all_goals go_wp2_with (go_at_call 80; refine (isnan_any _ _).mono ?_; rintro e w' ⟨rfl, rfl⟩)
        all_goals
          go_roundg (gk - 1)
          case measure => omega
          case rel => exact ⟨k + 1, _, by omega, by go_num, rfl, hgr, by rw [all_succ _ _ k m.delays[k] (by simp [hlt])]; have := HB.out; grind [delayB, fgt]⟩
      · have hB := HB.out
        rw [all_end _ _ k (by omega)] at hB
        have HB1 := Lib.hid hB
        clear hB HB
        have q2' := hgr.cell q2
        have q3' := hgr.cell q3
        have q4' := hgr.cell q4
        have q5' := hgr.cell q5
        have hg1 := hg.trans hgr
        clear q2 q3 q4 q5 hgr hg
        go_wp2
        go_loopg [3, 41] m.programs.length (fun g r i wr2 => ∃ (k : Nat) (B2 : Bool), g + k = m.programs.length ∧ i = .int .i64 k ∧ r = .bool B2 ∧ Gr wr wr2 ∧ B2 = (B && (m.programs.take k).all progB))
        case atStart => exact ⟨0, _, by omega, rfl, rfl, Gr.refl _, by simp⟩
        case round =>
          clear hlt hk
          obtain ⟨k, B2, hk, rfl, rfl, hgr, hB⟩ := hrel
          have HB := Lib.hid hB; clear hB
          by_cases hlt : k < m.programs.length
          · obtain ⟨b, o, rfl, v, hv0, hv⟩ := HP.out k m.programs[k] (by simp [hlt])
            have hv1 := (hg1.trans hgr).cell hv0
            rw [Nat.mul_one] at hv1
            have hv2 := Lib.hid (hv.gr InsAt.gr (hg1.trans hgr))
            clear hv0 hv
            cases B2
            all_goals go_wp2_with (go_at_call 81; refine (program_any _ _ _ hv2.out).mono ?_; rintro e w' ⟨rfl, hg'⟩)
            · go_roundg (gk - 1)
              case measure => omega
              case rel => exact ⟨k + 1, _, by omega, by go_num, rfl, hgr, by rw [all_succ _ _ k m.programs[k] (by simp [hlt])]; have := HB.out; grind⟩
            · go_roundg (gk - 1)
              case measure => omega
              case rel => exact ⟨k + 1, _, by omega, by go_num, rfl, hgr.trans hg', by rw [all_succ _ _ k m.programs[k] (by simp [hlt])]; have := HB.out; grind⟩
          · have hB := HB.out
            rw [all_end _ _ k (by omega)] at hB
            have HB2 := Lib.hid hB
            clear hB HB
            have r3 := hgr.cell q3'
            have r4 := hgr.cell q4'
            have r5 := hgr.cell q5'
            have hg2 := hg1.trans hgr
            clear q2' q3' q4' q5' hgr hg1
            go_wp2
            go_loopg [3, 54] m.lps.length (fun g r i wr3 => ∃ (k : Nat) (B3 : Bool), g + k = m.lps.length ∧ i = .int .i64 k ∧ r = .bool B3 ∧ Gr wr wr3 ∧ B3 = (B2 && (m.lps.take k).all (lpB m.programs.length)))
            case atStart => exact ⟨0, _, by omega, rfl, rfl, Gr.refl _, by simp⟩
            case round =>
              clear hlt hk
              obtain ⟨k, B3, hk, rfl, rfl, hgr, hB⟩ := hrel
              have HB := Lib.hid hB; clear hB
              by_cases hlt : k < m.lps.length
              · obtain ⟨b, o, rfl, hv0, v, hv1, a', c', rfl, hac, hcm, -⟩ := HL.out k m.lps[k] (by simp [hlt])
                have p0 := (hg2.trans hgr).cell hv0
                have p1 := (hg2.trans hgr).cell hv1
                have p3 := hgr.cell r3
                have hsz := lt_of_cell p3
                simp only [] at hsz
                unfold maxLen at hcm
                clear hv0 hv1
                cases B3
                all_goals go_wp2_with (go_at_call 82; refine (within_any _ _ _ _).mono ?_; rintro e w' ⟨rfl, rfl⟩)
                all_goals
                  go_roundg (gk - 1)
                  case measure => omega
                  case rel => exact ⟨k + 1, _, by omega, by go_num, rfl, hgr.alloc _, by rw [all_succ _ _ k m.lps[k] (by simp [hlt])]; have := HB.out; grind [lpB, withinB]⟩
              · have hB := HB.out
                rw [all_end _ _ k (by omega)] at hB
                have HB3 := Lib.hid hB
                clear hB HB
                have r4' := hgr.cell r4
                have r5' := hgr.cell r5
                have hg3 := hg2.trans hgr
                clear r3 r4 r5 hgr hg2
                go_wp2
                go_loopg [3, 78] m.init.length (fun g r i wr4 => ∃ (k : Nat) (B4 : Bool), g + k = m.init.length ∧ i = .int .i64 k ∧ r = .bool B4 ∧ Gr wr wr4 ∧ B4 = (B3 && (m.init.take k).all (initB m.lps.length)))
                case atStart => exact ⟨0, _, by omega, rfl, rfl, Gr.refl _, by simp⟩
                case round =>
                  clear hlt hk
                  obtain ⟨k, B4, hk, rfl, rfl, hgr, hB⟩ := hrel
                  have HB := Lib.hid hB; clear hB
                  by_cases hlt : k < m.init.length
                  · obtain ⟨b, o, rfl, hv0, hv1, hv2⟩ := HI.out k m.init[k] (by simp [hlt])
                    have p0 := (hg3.trans hgr).cell hv0
                    have p1 := (hg3.trans hgr).cell hv1
                    have p2 := (hg3.trans hgr).cell hv2
                    have p4 := hgr.cell r4'
                    have hsz := lt_of_cell p4
                    simp only [] at hsz
                    clear hv0 hv1 hv2
                    cases B4
                    all_goals go_wp2_with (first | (go_at_call 82; refine (within_any _ _ _ _).mono ?_; rintro e w' ⟨rfl, rfl⟩) | (go_at_call 80; refine (isnan_any _ _).mono ?_; rintro e w' ⟨rfl, rfl⟩))
                    all_goals
                      go_roundg (gk - 1)
                      case measure => omega
                      case rel => exact ⟨k + 1, _, by omega, by go_num, rfl, hgr.alloc _, by rw [all_succ _ _ k m.init[k] (by simp [hlt])]; have := HB.out; grind [initB, withinB]⟩
                  · have hB := HB.out
                    rw [all_end _ _ k (by omega)] at hB
                    have HB4 := Lib.hid hB
                    clear hB HB
                    have hg4 := hg3.trans hgr
                    cases B4
                    all_goals go_wp2
                    all_goals
                      go_ret
                      exact ⟨ret_int (by have b1 := HB1.out; have b2 := HB2.out; have b3 := HB3.out; have b4 := HB4.out; subst b1; subst b2; subst b3; rw [checkE, checkB]; grind), hg4⟩
end Go.Proofs.Ytkoopobfelcgpaa
