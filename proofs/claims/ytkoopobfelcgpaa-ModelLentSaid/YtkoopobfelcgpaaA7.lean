/- layer 5: the reference's Check -/
import Derived.Test.YtkoopobfelcgpaaA6
import Derived.Deep.QuietTactic
import Derived.BigQuiet
namespace Go.Proofs.Ytkoopobfelcgpaa
open Go.RowKit

theorem Gr.drewN {a b : World} (h : Gr a b) (n : Nat) : Gr a (b.drewN n) := ⟨h.os, h.tape, h.output, h.size, h.block⟩

theorem order_self (f : Ieee.Format) (x y : Nat) (o : Ordering) (h : f.order x y = some o) : f.order x x = some .eq := by
  unfold Ieee.Format.order at *
  generalize f.read x = a at *
  generalize f.read y = b at *
  cases a with
  | nan => simp [Ieee.Datum.order] at h
  | infinity s => cases s <;> rfl
  | number s m i => simp [Ieee.Datum.order]
theorem fgt_nan (x y : Nat) (h : fgt x y = true) : fnan x = false := by
  have h' : FloatKind.f64.format.order x y = some .gt := by simpa [fgt] using h
  simp [fnan, order_self _ _ _ _ h']
theorem delayB_eq (d : Nat) : delayB d = fgt d 0 := by
  unfold delayB
  cases h : fgt d 0 with
  | false => simp
  | true => simp [fgt_nan _ _ h]
theorem checkE_bad {m : PModel} (h : checkB m = false) : (15 : Int) = checkE m := by simp [checkE, h]
theorem checkE_ok {m : PModel} (h : checkB m = true) : (0 : Int) = checkE m := by simp [checkE, h]
theorem checkB_counts {m : PModel} (h : (countsB m && !fnan m.fin) = false) : checkB m = false := by rw [checkB, h]; rfl
theorem checkB_delays {m : PModel} (h : m.delays.all delayB = false) : checkB m = false := by rw [checkB, h]; simp
theorem checkB_programs {m : PModel} (h : m.programs.all progB = false) : checkB m = false := by rw [checkB, h]; simp
theorem checkB_lps {m : PModel} (h : m.lps.all (lpB m.programs.length) = false) : checkB m = false := by rw [checkB, h]; simp
theorem checkB_init {m : PModel} (h : m.init.all (initB m.lps.length) = false) : checkB m = false := by rw [checkB, h]; simp

set_option maxHeartbeats 8000000 in
set_option maxRecDepth 100000 in
theorem RCheck_any (m : PModel) (vd vp vl vi : Value) (w : World) (h : ModelAt w vd vp vl vi m) :
    Calls Try.prog 32 #[.agg #[.int .i64 m.seed, .float .f64 m.fin, vd, vp, vl, vi]] w fun e w' => e = .returned (.int .i64 (checkE m)) ∧ Gr w w' := by
  obtain ⟨ad, cd, rfl, hdc, hdm, -, hd⟩ := h.delays
  obtain ⟨ap, cp, rfl, hpc, hpm, -, hp⟩ := h.programs
  obtain ⟨al, cl, rfl, hlc, hlm, -, hl⟩ := h.lps
  obtain ⟨ai, ci, rfl, hic, him, -, hi⟩ := h.init
  clear h
  unfold maxLen at hpm hlm hdm him
  have HD := Lib.hid hd; clear hd
  have HP := Lib.hid hp; clear hp
  have HL := Lib.hid hl; clear hl
  have HI := Lib.hid hi; clear hi
  have hnan := fnan_eq
  go_enter Try.func32, Try.ntmps32
  by_cases hcn : (countsB m && !fnan m.fin) = true
  case neg =>
    have HCN := Lib.hid hcn
    clear hcn
    go_wp2
    all_goals (first
      | (clear hnan; go_ret; exact ⟨ret_int (checkE_bad (checkB_counts (by simpa using HCN.out))), (Gr.refl _).alloc _⟩)
      | (exfalso; clear hnan; have := HCN.out; grind [countsB, fnan]))
  have c1 : (1 : Int) ≤ m.lps.length := by grind [countsB]
  have c2 : (m.lps.length : Int) ≤ 6 := by grind [countsB]
  have c3 : (1 : Int) ≤ m.programs.length := by grind [countsB]
  have c4 : (m.programs.length : Int) ≤ 4 := by grind [countsB]
  have c5 : (1 : Int) ≤ m.delays.length := by grind [countsB]
  have c6 : (m.delays.length : Int) ≤ 8 := by grind [countsB]
  have c7 : (m.init.length : Int) ≤ 16 := by grind [countsB]
  have c8 : fnan m.fin = false := by grind
  have HC := Lib.hid hcn
  clear hcn
  go_wp2
  clear c1 c2 c3 c4 c5 c6 c7 c8 hnan
  generalize hW : w.alloc _ = W
  have hWg : Gr (w.alloc (.cells #[.int .i64 m.seed, .float .f64 m.fin, .slice ad m.delays.length cd, .slice ap m.programs.length cp, .slice al m.lps.length cl, .slice ai m.init.length ci] 28)) W := by rw [hW]; exact Gr.refl _
  clear hW
  obtain ⟨hg, hs, q0, q1, q2, q3, q4, q5⟩ := box6 hWg
  clear hWg q0 q1
  go_loopg [3] m.delays.length (fun g i wr => ∃ (k : Nat), g + k = m.delays.length ∧ i = .int .i64 k ∧ Gr W wr ∧ (m.delays.take k).all delayB = true)
  case atStart => exact ⟨0, by omega, rfl, Gr.refl _, by simp⟩
  case round =>
    obtain ⟨k, hk, rfl, hgr, hB⟩ := hrel
    have HB := Lib.hid hB; clear hB
    have r2 := hgr.cell q2
    by_cases hlt : k < m.delays.length
    · obtain ⟨b, o, rfl, hR⟩ := HD.out k m.delays[k] (by simp [hlt])
      have hv : wr.cell? ⟨b, o + k * 1, none⟩ = some (.float .f64 m.delays[k]) := (hg.trans hgr).cell hR
      rw [Nat.mul_one] at hv
      clear hR
      go_wp2
      · have hb : delayB m.delays[k] = false := by rw [delayB_eq]; grind [fgt]
        go_ret
        exact ⟨ret_int (checkE_bad (checkB_delays (all_false _ _ k m.delays[k] (by simp [hlt]) hb))), hg.trans hgr⟩
      · have hb : delayB m.delays[k] = true := by rw [delayB_eq]; grind [fgt]
        go_roundg (gk - 1)
        case measure => omega
        case rel => exact ⟨k + 1, by omega, by go_num, hgr, all_take_succ _ _ k m.delays[k] (by simp [hlt]) HB.out hb⟩
    · have HB1 := Lib.hid (all_whole _ _ k (by omega) HB.out)
      clear HB
      have q3' := hgr.cell q3
      have q4' := hgr.cell q4
      have q5' := hgr.cell q5
      have hg1 := hg.trans hgr
      go_wp2
      clear q2 q3 q4 q5 hgr hg r2
      go_loopg [4] m.programs.length (fun g i wr2 => ∃ (k : Nat), g + k = m.programs.length ∧ i = .int .i64 k ∧ Gr wr wr2 ∧ (m.programs.take k).all progB = true)
      case atStart => exact ⟨0, by omega, rfl, Gr.refl _, by simp⟩
      case round =>
        clear hlt hk
        obtain ⟨k, hk, rfl, hgr, hB⟩ := hrel
        have HB := Lib.hid hB; clear hB
        have r3 := hgr.cell q3'
        by_cases hlt : k < m.programs.length
        · obtain ⟨b, o, rfl, v, hv0, hv⟩ := HP.out k m.programs[k] (by simp [hlt])
          have hv1 := (hg1.trans hgr).cell hv0
          rw [Nat.mul_one] at hv1
          have hv2 := Lib.hid (hv.gr InsAt.gr (hg1.trans hgr))
          clear hv0 hv
          go_wp2_with (go_at_call 83; refine (Rprogram_any _ _ _ hv2.out).mono ?_; rintro e w' ⟨rfl, hg'⟩)
          · have hb : progB m.programs[k] = false := by grind
            go_ret
            exact ⟨ret_int (checkE_bad (checkB_programs (all_false _ _ k m.programs[k] (by simp [hlt]) hb))), (hg1.trans hgr).trans hg'⟩
          · have hb : progB m.programs[k] = true := by grind
            go_roundg (gk - 1)
            case measure => omega
            case rel => exact ⟨k + 1, by omega, by go_num, hgr.trans hg', all_take_succ _ _ k m.programs[k] (by simp [hlt]) HB.out hb⟩
        · have HB2 := Lib.hid (all_whole _ _ k (by omega) HB.out)
          clear HB
          have r4 := hgr.cell q4'
          have r5 := hgr.cell q5'
          have r3' := Lib.hid r3
          have hg2 := hg1.trans hgr
          go_wp2
          clear q3' q4' q5' hgr hg1 r3
          go_loopg [5] m.lps.length (fun g i wr3 => ∃ (k : Nat), g + k = m.lps.length ∧ i = .int .i64 k ∧ Gr wr wr3 ∧ (m.lps.take k).all (lpB m.programs.length) = true)
          case atStart => exact ⟨0, by omega, rfl, Gr.refl _, by simp⟩
          case round =>
            clear hlt hk
            obtain ⟨k, hk, rfl, hgr, hB⟩ := hrel
            have HB := Lib.hid hB; clear hB
            have s4 := hgr.cell r4
            have s3 := hgr.cell r3'.out
            by_cases hlt : k < m.lps.length
            · obtain ⟨b, o, rfl, hv0, v, hv1, a', c', rfl, hac, hcm, -⟩ := HL.out k m.lps[k] (by simp [hlt])
              have p0 := (hg2.trans hgr).cell hv0
              have p1 := (hg2.trans hgr).cell hv1
              unfold maxLen at hcm
              clear hv0 hv1
              have hk0 : (0 : Int) ≤ (k : Int) := by omega
              have hk1 : (k : Int) < (m.lps.length : Int) := by omega
              by_cases c1 : m.lps[k].prog < 0
              · have d1 : decide (m.lps[k].prog < 0) = true := by simpa using c1
                have hb : lpB m.programs.length m.lps[k] = false := by grind [lpB]
                go_wp2_with fail
                go_quiet (fail)
                go_wp2
                go_ret
                exact ⟨ret_int (checkE_bad (checkB_lps (all_false _ _ k m.lps[k] (by simp [hlt]) hb))), (hg2.trans hgr).drewN _⟩
              have d1 : decide (m.lps[k].prog < 0) = false := by simpa using c1
              by_cases c2 : (m.programs.length : Int) ≤ m.lps[k].prog
              · have d2 : decide ((m.programs.length : Int) ≤ m.lps[k].prog) = true := by simpa using c2
                have hb : lpB m.programs.length m.lps[k] = false := by grind [lpB]
                go_wp2_with fail
                go_quiet (fail)
                go_wp2
                go_ret
                exact ⟨ret_int (checkE_bad (checkB_lps (all_false _ _ k m.lps[k] (by simp [hlt]) hb))), (hg2.trans hgr).drewN _⟩
              have d2 : decide ((m.programs.length : Int) ≤ m.lps[k].prog) = false := by simpa using c2
              by_cases c3 : (8 : Int) < m.lps[k].words.length
              · have d3 : decide ((8 : Int) < m.lps[k].words.length) = true := by simpa using c3
                have hb : lpB m.programs.length m.lps[k] = false := by grind [lpB]
                go_wp2_with fail
                go_quiet (fail)
                go_wp2
                go_ret
                exact ⟨ret_int (checkE_bad (checkB_lps (all_false _ _ k m.lps[k] (by simp [hlt]) hb))), (hg2.trans hgr).drewN _⟩
              have d3 : decide ((8 : Int) < m.lps[k].words.length) = false := by simpa using c3
              have hb : lpB m.programs.length m.lps[k] = true := by grind [lpB]
              have HBB := Lib.hid hb; clear hb
              go_wp2_with fail
              go_quiet (fail)
              go_wp2
              go_roundg (gk - 1)
              case measure => omega
              case rel => exact ⟨k + 1, by omega, by go_num, hgr.drewN _, all_take_succ _ _ k m.lps[k] (by simp [hlt]) HB.out HBB.out⟩
            · have HB3 := Lib.hid (all_whole _ _ k (by omega) HB.out)
              clear HB
              have t4 := Lib.hid s4
              have t5 := hgr.cell r5
              have hg3 := hg2.trans hgr
              go_wp2
              clear r4 r5 hgr hg2 s3 s4 r3'
              go_loopg [6] m.init.length (fun g i wr4 => ∃ (k : Nat), g + k = m.init.length ∧ i = .int .i64 k ∧ Gr wr wr4 ∧ (m.init.take k).all (initB m.lps.length) = true)
              case atStart => exact ⟨0, by omega, rfl, Gr.refl _, by simp⟩
              case round =>
                clear hlt hk
                obtain ⟨k, hk, rfl, hgr, hB⟩ := hrel
                have HB := Lib.hid hB; clear hB
                have s5 := hgr.cell t5
                by_cases hlt : k < m.init.length
                · obtain ⟨b, o, rfl, hv0, hv1, hv2⟩ := HI.out k m.init[k] (by simp [hlt])
                  have p0 := (hg3.trans hgr).cell hv0
                  have p1 := (hg3.trans hgr).cell hv1
                  have p2 := (hg3.trans hgr).cell hv2
                  have p4 := hgr.cell t4.out
                  have hsz := lt_of_cell p4
                  simp only [] at hsz
                  clear hv0 hv1 hv2
                  have hnan := fnan_eq
                  go_wp2
                  all_goals clear hnan
                  all_goals (first
                    | (have hb : initB m.lps.length m.init[k] = false := by grind [initB, fnan]
                       go_ret
                       exact ⟨ret_int (checkE_bad (checkB_init (all_false _ _ k m.init[k] (by simp [hlt]) hb))), (hg3.trans hgr).alloc _⟩)
                    | (have hb : initB m.lps.length m.init[k] = true := by grind [initB, fnan]
                       go_roundg (gk - 1)
                       case measure => omega
                       case rel => exact ⟨k + 1, by omega, by go_num, hgr.alloc _, all_take_succ _ _ k m.init[k] (by simp [hlt]) HB.out hb⟩))
                · have HB4 := Lib.hid (all_whole _ _ k (by omega) HB.out)
                  clear HB
                  go_wp2
                  go_ret
                  exact ⟨ret_int (checkE_ok (by rw [checkB, HC.out, HB1.out, HB2.out, HB3.out, HB4.out]; rfl)), hg3.trans hgr⟩
end Go.Proofs.Ytkoopobfelcgpaa
