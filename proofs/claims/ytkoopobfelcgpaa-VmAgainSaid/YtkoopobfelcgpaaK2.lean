/- K2: the texts A12 A13 A14 Grow A15 Own, merged by tools/merge.py -/
import Derived.Test.YtkoopobfelcgpaaK1
import Derived.Deep.RegionHeld3
import Derived.Deep.QuietTactic
import Derived.BigQuiet
import Derived.Deep.AppendLies
import Derived.Laws.AppendOwnNone

section -- A12
/- layer 5: the reference's Same -/
namespace Go.Proofs.Ytkoopobfelcgpaa
open Go.RowKit

set_option maxHeartbeats 2000000 in
theorem Ints_any (l r : List Int) (v u : Value) (w : World) (h : Sl 1 IntAt w v l) (h' : Sl 1 IntAt w u r) :
    Calls Try.prog 49 #[v, u] w fun e w' => e = .returned (.bool (eqL intEq l r)) ∧ ∃ n, w' = w.drewN n := by
  obtain ⟨a, cap, rfl, hlc, hcm, -, hel⟩ := h
  obtain ⟨a', cap', rfl, hlc', hcm', -, hel'⟩ := h'
  unfold maxLen at hcm hcm'
  have H := Lib.hid hel; clear hel
  have H' := Lib.hid hel'; clear hel'
  by_cases hn : l.length = r.length
  case neg =>
    have hn1 : ((l.length : Int) != r.length) = true := by rw [bne_iff_ne]; omega
    have hn2 := Lib.hid (eqL_len intEq l r hn)
    clear hn
    go_enter Try.func49, Try.ntmps49
    go_wp2
    go_ret
    exact ⟨ret_bool hn2.out.symm, 0, rfl⟩
  have hn1 : ((l.length : Int) != r.length) = false := by rw [bne_eq_false_iff_eq]; omega
  have HN := Lib.hid hn
  have hle : r.length ≤ l.length := by omega
  clear hn
  go_enter Try.func49, Try.ntmps49
  go_wp2
  clear hn1
  go_loopg [5] l.length (fun g i wr => ∃ k : Nat, g + k = l.length ∧ i = .int .i64 k ∧ ((l.zip r).take k).all (fun q => intEq q.1 q.2) = true ∧ ∃ n, wr = w.drewN n)
  case atStart => exact ⟨0, by omega, rfl, by simp, 0, rfl⟩
  case round =>
    obtain ⟨k, hk, rfl, hall, nd, rfl⟩ := hrel
    have HA := Lib.hid hall; clear hall
    by_cases hlt : k < l.length
    · have hlt' : k < r.length := by have := HN.out; omega
      obtain ⟨b, o, rfl, hR⟩ := H.out k l[k] (by simp [hlt])
      obtain ⟨b', o', rfl, hR'⟩ := H'.out k r[k] (by simp [hlt'])
      have p0 := hR
      have p0' := hR'
      rw [Nat.mul_one] at p0 p0'
      unfold IntAt at hR hR' p0 p0'
      clear hR hR'
      have hk0 : (0 : Int) ≤ (k : Int) := by omega
      have hk1 : (k : Int) < (l.length : Int) := by omega
      have hk2 : (k : Int) < (r.length : Int) := by omega
      go_wp2
      go_quiet (fail)
      go_wp2
      all_goals (try clear hneq)
      · have hb : intEq l[k] r[k] = false := by grind [intEq]
        go_ret
        exact ⟨ret_bool (eqL_at _ _ _ k l[k] r[k] (by simp [hlt]) (by simp [hlt']) hb).symm, nd + nq, by first | rfl | exact World.drewN_drewN _ _ _⟩
      · have hb : intEq l[k] r[k] = true := by grind [intEq]
        go_roundg (gk - 1)
        case measure => omega
        case rel => exact ⟨k + 1, by omega, by go_num, eqL_step _ _ _ k l[k] r[k] (by simp [hlt]) (by simp [hlt']) HA.out hb, nd + nq, by first | rfl | exact World.drewN_drewN _ _ _⟩
    · go_wp2
      go_ret
      exact ⟨ret_bool (eqL_end _ _ _ k HN.out (by omega) HA.out).symm, _, rfl⟩

theorem Ints_quiet (l r : List Int) (v u : Value) (w : World) (n : Nat) (h : Sl 1 IntAt w v l) (h' : Sl 1 IntAt w u r) :
    Calls Try.prog 49 #[v, u] (w.drewN n) fun e w'' => e = .returned (.bool (eqL intEq l r)) ∧ ∃ m, w'' = w.drewN m :=
  Calls.quiet_of (Ints_any l r v u _ (h.gr IntAt.gr ((Gr.refl _).drewN _)) (h'.gr IntAt.gr ((Gr.refl _).drewN _)))
theorem sameB_bad {a b : PModel} (h : (decide (a.seed = b.seed) && fsame a.fin b.fin) = false ∨ eqL fsame a.delays b.delays = false ∨ eqL initSame a.init b.init = false ∨ eqL (eqL insEq) a.programs b.programs = false ∨ eqL lpSame a.lps b.lps = false) : false = sameB a b := by
  grind [sameB]
theorem len_bad {a b : PModel} (h : ¬ (a.delays.length = b.delays.length ∧ a.programs.length = b.programs.length ∧ a.lps.length = b.lps.length ∧ a.init.length = b.init.length)) : false = sameB a b := by
  apply sameB_bad
  by_cases h1 : a.delays.length = b.delays.length
  · by_cases h2 : a.programs.length = b.programs.length
    · by_cases h3 : a.lps.length = b.lps.length
      · exact .inr (.inr (.inl (eqL_len _ _ _ (by omega))))
      · exact .inr (.inr (.inr (.inr (eqL_len _ _ _ h3))))
    · exact .inr (.inr (.inr (.inl (eqL_len _ _ _ h2))))
  · exact .inr (.inl (eqL_len _ _ _ h1))

set_option maxHeartbeats 16000000 in
set_option maxRecDepth 100000 in
theorem RSame_any (m n : PModel) (vd vp vl vi ud up ul ui : Value) (w : World) (h : ModelAt w vd vp vl vi m) (h' : ModelAt w ud up ul ui n) :
    Calls Try.prog 36 #[.agg #[.int .i64 m.seed, .float .f64 m.fin, vd, vp, vl, vi], .agg #[.int .i64 n.seed, .float .f64 n.fin, ud, up, ul, ui]] w
      fun e w' => e = .returned (.bool (sameB m n)) ∧ Gr w w' := by
  obtain ⟨ad, cd, rfl, hdc, hdm, -, hd⟩ := h.delays
  obtain ⟨ap, cp, rfl, hpc, hpm, -, hp⟩ := h.programs
  obtain ⟨al, cl, rfl, hlc, hlm, -, hl⟩ := h.lps
  obtain ⟨ai, ci, rfl, hic, him, -, hi⟩ := h.init
  obtain ⟨ad', cd', rfl, hdc', hdm', -, hd'⟩ := h'.delays
  obtain ⟨ap', cp', rfl, hpc', hpm', -, hp'⟩ := h'.programs
  obtain ⟨al', cl', rfl, hlc', hlm', -, hl'⟩ := h'.lps
  obtain ⟨ai', ci', rfl, hic', him', -, hi'⟩ := h'.init
  clear h h'
  unfold maxLen at hpm hlm hdm him hpm' hlm' hdm' him'
  have HD := Lib.hid hd; clear hd
  have HP := Lib.hid hp; clear hp
  have HL := Lib.hid hl; clear hl
  have HI := Lib.hid hi; clear hi
  have HD' := Lib.hid hd'; clear hd'
  have HP' := Lib.hid hp'; clear hp'
  have HL' := Lib.hid hl'; clear hl'
  have HI' := Lib.hid hi'; clear hi'
  by_cases hcn : (m.seed = n.seed ∧ fsame m.fin n.fin = true) ∧ (m.delays.length = n.delays.length ∧ m.programs.length = n.programs.length ∧ m.lps.length = n.lps.length ∧ m.init.length = n.init.length)
  case neg =>
    have HCN := Lib.hid hcn
    clear hcn
    go_enter Try.func36, Try.ntmps36
    go_wp2_with (go_at_call 94; refine (Float_any _ _ _).mono ?_; rintro e w' ⟨rfl, rfl⟩)
    all_goals (first
      | (go_ret; exact ⟨ret_bool (by
          have hh := HCN.out
          by_cases g1 : m.seed = n.seed ∧ fsame m.fin n.fin = true
          · exact len_bad (fun g2 => hh ⟨g1, g2⟩)
          · exact sameB_bad (.inl (by grind))), ((Gr.refl _).alloc _).alloc _⟩)
      | (exfalso; have := HCN.out; simp_all; done)
      | (exfalso; have := HCN.out; grind))
  obtain ⟨⟨e1, e2⟩, e3, e4, e5, e6⟩ := hcn
  have c1 : (m.seed != n.seed) = false := by rw [bne_eq_false_iff_eq]; exact e1
  have c3 : ((m.delays.length : Int) != n.delays.length) = false := by rw [bne_eq_false_iff_eq]; omega
  have c4 : ((m.programs.length : Int) != n.programs.length) = false := by rw [bne_eq_false_iff_eq]; omega
  have c5 : ((m.lps.length : Int) != n.lps.length) = false := by rw [bne_eq_false_iff_eq]; omega
  have c6 : ((m.init.length : Int) != n.init.length) = false := by rw [bne_eq_false_iff_eq]; omega
  have E := Lib.hid (show (m.seed = n.seed ∧ fsame m.fin n.fin = true) ∧ (m.delays.length = n.delays.length ∧ m.programs.length = n.programs.length ∧ m.lps.length = n.lps.length ∧ m.init.length = n.init.length) from ⟨⟨e1, e2⟩, e3, e4, e5, e6⟩)
  clear e1 e3 e4 e5 e6
  go_enter Try.func36, Try.ntmps36
  go_wp2_with (go_at_call 94; refine (Float_any _ _ _).mono ?_; rintro e w' ⟨rfl, rfl⟩)
  clear c1 c3 c4 c5 c6 e2
  have hB := Gr.refl ((w.alloc (.cells #[.int .i64 m.seed, .float .f64 m.fin, .slice ad m.delays.length cd, .slice ap m.programs.length cp, .slice al m.lps.length cl, .slice ai m.init.length ci] 28)).alloc
    (.cells #[.int .i64 n.seed, .float .f64 n.fin, .slice ad' n.delays.length cd', .slice ap' n.programs.length cp', .slice al' n.lps.length cl', .slice ai' n.init.length ci'] 28))
  generalize hW : (w.alloc (.cells #[.int .i64 m.seed, .float .f64 m.fin, .slice ad m.delays.length cd, .slice ap m.programs.length cp, .slice al m.lps.length cl, .slice ai m.init.length ci] 28)).alloc
    (.cells #[.int .i64 n.seed, .float .f64 n.fin, .slice ad' n.delays.length cd', .slice ap' n.programs.length cp', .slice al' n.lps.length cl', .slice ai' n.init.length ci'] 28) = W
  have HW := Lib.hid (hW ▸ hB : Gr ((w.alloc (.cells #[.int .i64 m.seed, .float .f64 m.fin, .slice ad m.delays.length cd, .slice ap m.programs.length cp, .slice al m.lps.length cl, .slice ai m.init.length ci] 28)).alloc
    (.cells #[.int .i64 n.seed, .float .f64 n.fin, .slice ad' n.delays.length cd', .slice ap' n.programs.length cp', .slice al' n.lps.length cl', .slice ai' n.init.length ci'] 28)) W)
  clear hW hB
  go_loopg [5] m.delays.length (fun g i wr => ∃ (k : Nat), g + k = m.delays.length ∧ i = .int .i64 k ∧ Gr W wr ∧ ((m.delays.zip n.delays).take k).all (fun q => fsame q.1 q.2) = true)
  case atStart => exact ⟨0, by omega, rfl, Gr.refl _, by simp⟩
  case round =>
    obtain ⟨k, hk, rfl, hgr, hB⟩ := hrel
    have HB := Lib.hid hB; clear hB
    obtain ⟨k1, s1, ⟨p0, p1, p2, p3, p4, p5⟩, ⟨q0, q1, q2, q3, q4, q5⟩⟩ := box66 (HW.out.trans hgr)
    by_cases hlt : k < m.delays.length
    · have hlt' : k < n.delays.length := by have := E.out; omega
      obtain ⟨b, o, rfl, hR⟩ := HD.out k m.delays[k] (by simp [hlt])
      obtain ⟨b', o', rfl, hR'⟩ := HD'.out k n.delays[k] (by simp [hlt'])
      have x0 := k1.cell hR
      have x0' := k1.cell hR'
      rw [Nat.mul_one] at x0 x0'
      clear hR hR' p0 p1 p3 p4 p5 q0 q1 q3 q4 q5
      have z1 : (0 : Int) ≤ (k : Int) := by omega
      have z2 : (k : Int) < (m.delays.length : Int) := by omega
      have z3 : (k : Int) < (n.delays.length : Int) := by omega
      go_wp2
      go_quiet ((go_at_call 94; exact Calls.quiet_of_same ((Float_any _ _ _).mono fun _ _ ⟨h1, h2⟩ => ⟨h1, h2.symm⟩)))
      clear p2 q2 x0 x0' z1 z2 z3
      go_wp2
      · have hb : fsame m.delays[k] n.delays[k] = false := by grind
        go_ret
        exact ⟨ret_bool (sameB_bad (.inr (.inl (eqL_at _ _ _ k m.delays[k] n.delays[k] (by simp [hlt]) (by simp [hlt']) hb)))), k1.drewN _⟩
      · have hb : fsame m.delays[k] n.delays[k] = true := by grind
        go_roundg (m.delays.length - (k + 1))
        case measure => omega
        case rel => exact ⟨k + 1, by omega, by go_num, hgr.drewN _, eqL_step _ _ _ k m.delays[k] n.delays[k] (by simp [hlt]) (by simp [hlt']) HB.out hb⟩
    · have HB1 := Lib.hid (eqL_end _ _ _ k E.out.2.1 (by omega) HB.out)
      have HG1 := Lib.hid hgr
      clear HB
      go_wp2
      clear hgr k1 s1 p0 p1 p2 p3 p4 p5 q0 q1 q2 q3 q4 q5
      go_loopg [6] m.programs.length (fun g i wr2 => ∃ (k : Nat), g + k = m.programs.length ∧ i = .int .i64 k ∧ Gr W wr2 ∧ ((m.programs.zip n.programs).take k).all (fun q => eqL insEq q.1 q.2) = true)
      case atStart => exact ⟨0, by omega, rfl, HG1.out, by simp⟩
      case round =>
        clear hlt hk HG1
        obtain ⟨k, hk, rfl, hgr, hB⟩ := hrel
        have HB := Lib.hid hB; clear hB
        obtain ⟨k1, s1, ⟨p0, p1, p2, p3, p4, p5⟩, ⟨q0, q1, q2, q3, q4, q5⟩⟩ := box66 (HW.out.trans hgr)
        by_cases hlt : k < m.programs.length
        · have hlt' : k < n.programs.length := by have := E.out; omega
          obtain ⟨b, o, rfl, v, hv0, hv⟩ := HP.out k m.programs[k] (by simp [hlt])
          obtain ⟨b', o', rfl, u, hu0, hu⟩ := HP'.out k n.programs[k] (by simp [hlt'])
          have x0 := k1.cell hv0
          have x0' := k1.cell hu0
          rw [Nat.mul_one] at x0 x0'
          obtain ⟨av, cv, rfl, hvc, hvm, -, hve⟩ := hv
          obtain ⟨au, cu, rfl, huc, hum, -, hue⟩ := hu
          unfold maxLen at hvm hum
          have HV := Lib.hid hve
          have HU := Lib.hid hue
          clear hve hue hv0 hu0 p0 p1 p2 p4 p5 q0 q1 q2 q4 q5
          have z1 : (0 : Int) ≤ (k : Int) := by omega
          have z2 : (k : Int) < (m.programs.length : Int) := by omega
          have z3 : (k : Int) < (n.programs.length : Int) := by omega
          by_cases hle : m.programs[k].length = n.programs[k].length
          case neg =>
            have hb := Lib.hid (eqL_len insEq _ _ hle)
            have d1 : ((m.programs[k].length : Int) != n.programs[k].length) = true := by rw [bne_iff_ne]; omega
            clear hle
            go_wp2
            go_quiet (fail)
            go_wp2
            go_ret
            exact ⟨ret_bool (sameB_bad (.inr (.inr (.inr (.inl (eqL_at _ _ _ k m.programs[k] n.programs[k] (by simp [hlt]) (by simp [hlt']) hb.out)))))), k1.drewN _⟩
          have d1 : ((m.programs[k].length : Int) != n.programs[k].length) = false := by rw [bne_eq_false_iff_eq]; omega
          have HE := Lib.hid hle
          have hle2 : n.programs[k].length ≤ m.programs[k].length := by omega
          clear hle
          go_wp2
          go_quiet (fail)
          clear d1
          go_wp2
          have hgr2 := hgr.drewN nq
          have X0 := Lib.hid x0
          have X0' := Lib.hid x0'
          clear p3 q3 x0 x0' k1 s1
          have hh := Gr.refl (wr.drewN nq)
          generalize hWI : wr.drewN nq = WI
          rw [hWI] at hh hgr2
          have hX0 : WI.cell? ⟨b, o + k, none⟩ = some (.slice av m.programs[k].length cv) := by rw [← hWI]; exact X0.out
          have hX0' : WI.cell? ⟨b', o' + k, none⟩ = some (.slice au n.programs[k].length cu) := by rw [← hWI]; exact X0'.out
          clear X0 X0' hWI hgr
          have X0 := Lib.hid hX0
          have X0' := Lib.hid hX0'
          clear hX0 hX0'
          have hstart := Lib.hid (Gr.refl WI)
          go_loopg [7] m.programs[k].length (fun g i wr3 => ∃ (j : Nat), g + j = m.programs[k].length ∧ i = .int .i64 j ∧ Gr WI wr3 ∧ ((m.programs[k].zip n.programs[k]).take j).all (fun q => insEq q.1 q.2) = true)
          case atStart => exact ⟨0, by omega, rfl, hstart.out, by simp⟩
          case round =>
            clear hh
            obtain ⟨j, hj, rfl, hgi, hBi⟩ := hrel
            have HBI := Lib.hid hBi; clear hBi
            have hgr := hgr2.trans hgi
            obtain ⟨k1, s1, ⟨p0, p1, p2, p3, p4, p5⟩, ⟨q0, q1, q2, q3, q4, q5⟩⟩ := box66 (HW.out.trans hgr)
            have x0 := hgi.cell X0.out
            have x0' := hgi.cell X0'.out
            clear p0 p1 p2 p4 p5 q0 q1 q2 q4 q5
            by_cases hjt : j < m.programs[k].length
            · have hjt' : j < n.programs[k].length := by have := HE.out; omega
              obtain ⟨bb, oo, rfl, hR⟩ := HV.out j m.programs[k][j] (by simp [hjt])
              obtain ⟨bb', oo', rfl, hR'⟩ := HU.out j n.programs[k][j] (by simp [hjt'])
              obtain ⟨y0, y1, y2, y3⟩ := InsAt.gr _ _ _ _ _ k1 hR
              obtain ⟨y0', y1', y2', y3'⟩ := InsAt.gr _ _ _ _ _ k1 hR'
              clear hR hR'
              have zz1 : (0 : Int) ≤ (j : Int) := by omega
              have zz2 : (j : Int) < (m.programs[k].length : Int) := by omega
              have zz3 : (j : Int) < (n.programs[k].length : Int) := by omega
              have hneq := run_neq_ins
              go_wp2
              go_quiet (fail)
              clear hneq y0 y1 y2 y3 y0' y1' y2' y3' x0 x0' p3 q3
              go_wp2
              · have hb : insEq m.programs[k][j] n.programs[k][j] = false := by grind
                go_ret
                exact ⟨ret_bool (sameB_bad (.inr (.inr (.inr (.inl (eqL_at _ _ _ k m.programs[k] n.programs[k] (by simp [hlt]) (by simp [hlt']) (eqL_at _ _ _ j m.programs[k][j] n.programs[k][j] (by simp [hjt]) (by simp [hjt']) hb))))))), k1.drewN _⟩
              · have hb : insEq m.programs[k][j] n.programs[k][j] = true := by grind
                go_roundg (m.programs[k].length - (j + 1))
                case measure => omega
                case rel => exact ⟨j + 1, by omega, by go_num, hgi.drewN _, eqL_step _ _ _ j m.programs[k][j] n.programs[k][j] (by simp [hjt]) (by simp [hjt']) HBI.out hb⟩
            · have HBJ := Lib.hid (eqL_end _ _ _ j HE.out (by omega) HBI.out)
              go_wp2
              go_roundg (m.programs.length - (k + 1))
              case measure => omega
              case rel => exact ⟨k + 1, by omega, by go_num, hgr, eqL_step _ _ _ k m.programs[k] n.programs[k] (by simp [hlt]) (by simp [hlt']) HB.out HBJ.out⟩
        · have HB2 := Lib.hid (eqL_end _ _ _ k E.out.2.2.1 (by omega) HB.out)
          have HG1 := Lib.hid hgr
          clear HB
          go_wp2
          clear hgr k1 s1 p0 p1 p2 p3 p4 p5 q0 q1 q2 q3 q4 q5
          go_loopg [8] m.lps.length (fun g i wr4 => ∃ (k : Nat), g + k = m.lps.length ∧ i = .int .i64 k ∧ Gr W wr4 ∧ ((m.lps.zip n.lps).take k).all (fun q => lpSame q.1 q.2) = true)
          case atStart => exact ⟨0, by omega, rfl, HG1.out, by simp⟩
          case round =>
            clear hlt hk HG1
            obtain ⟨k, hk, rfl, hgr, hB⟩ := hrel
            have HB := Lib.hid hB; clear hB
            obtain ⟨k1, s1, ⟨p0, p1, p2, p3, p4, p5⟩, ⟨q0, q1, q2, q3, q4, q5⟩⟩ := box66 (HW.out.trans hgr)
            by_cases hlt : k < m.lps.length
            · have hlt' : k < n.lps.length := by have := E.out; omega
              obtain ⟨b, o, rfl, hv1, v, hv0, hv⟩ := HL.out k m.lps[k] (by simp [hlt])
              obtain ⟨b', o', rfl, hu1, u, hu0, hu⟩ := HL'.out k n.lps[k] (by simp [hlt'])
              have x0 := k1.cell hv0
              have x0' := k1.cell hu0
              have x1 := k1.cell hv1
              have x1' := k1.cell hu1
              have HV := Lib.hid (hv.gr IntAt.gr k1)
              have HU := Lib.hid (hu.gr IntAt.gr k1)
              clear hv hu hv0 hu0 hv1 hu1 p0 p1 p2 p3 p5 q0 q1 q2 q3 q5
              have z1 : (0 : Int) ≤ (k : Int) := by omega
              have z2 : (k : Int) < (m.lps.length : Int) := by omega
              have z3 : (k : Int) < (n.lps.length : Int) := by omega
              by_cases hle : m.lps[k].prog = n.lps[k].prog
              case neg =>
                have hb : lpSame m.lps[k] n.lps[k] = false := by simp [lpSame, hle]
                have HBB := Lib.hid hb
                have d1 : (m.lps[k].prog != n.lps[k].prog) = true := by rw [bne_iff_ne]; exact hle
                clear hle hb
                go_wp2
                go_quiet (fail)
                go_wp2
                go_ret
                exact ⟨ret_bool (sameB_bad (.inr (.inr (.inr (.inr (eqL_at _ _ _ k m.lps[k] n.lps[k] (by simp [hlt]) (by simp [hlt']) HBB.out)))))), k1.drewN _⟩
              have d1 : (m.lps[k].prog != n.lps[k].prog) = false := by rw [bne_eq_false_iff_eq]; exact hle
              have HE := Lib.hid hle
              clear hle
              go_wp2
              go_quiet ((go_at_call 49; exact Ints_quiet m.lps[k].words n.lps[k].words _ _ _ _ HV.out HU.out))
              clear d1 x0 x0' x1 x1' p4 q4 z1 z2 z3
              go_wp2
              · have hb : lpSame m.lps[k] n.lps[k] = false := by have := HE.out; grind [lpSame]
                go_ret
                exact ⟨ret_bool (sameB_bad (.inr (.inr (.inr (.inr (eqL_at _ _ _ k m.lps[k] n.lps[k] (by simp [hlt]) (by simp [hlt']) hb)))))), k1.drewN _⟩
              · have hb : lpSame m.lps[k] n.lps[k] = true := by have := HE.out; grind [lpSame]
                go_roundg (m.lps.length - (k + 1))
                case measure => omega
                case rel => exact ⟨k + 1, by omega, by go_num, hgr.drewN _, eqL_step _ _ _ k m.lps[k] n.lps[k] (by simp [hlt]) (by simp [hlt']) HB.out hb⟩
            · have HB3 := Lib.hid (eqL_end _ _ _ k E.out.2.2.2.1 (by omega) HB.out)
              have HG1 := Lib.hid hgr
              clear HB
              go_wp2
              clear hgr k1 s1 p0 p1 p2 p3 p4 p5 q0 q1 q2 q3 q4 q5
              go_loopg [9] m.init.length (fun g i wr5 => ∃ (k : Nat), g + k = m.init.length ∧ i = .int .i64 k ∧ Gr W wr5 ∧ ((m.init.zip n.init).take k).all (fun q => initSame q.1 q.2) = true)
              case atStart => exact ⟨0, by omega, rfl, HG1.out, by simp⟩
              case round =>
                clear hlt hk HG1
                obtain ⟨k, hk, rfl, hgr, hB⟩ := hrel
                have HB := Lib.hid hB; clear hB
                obtain ⟨k1, s1, ⟨p0, p1, p2, p3, p4, p5⟩, ⟨q0, q1, q2, q3, q4, q5⟩⟩ := box66 (HW.out.trans hgr)
                by_cases hlt : k < m.init.length
                · have hlt' : k < n.init.length := by have := E.out; omega
                  obtain ⟨b, o, rfl, hR⟩ := HI.out k m.init[k] (by simp [hlt])
                  obtain ⟨b', o', rfl, hR'⟩ := HI'.out k n.init[k] (by simp [hlt'])
                  obtain ⟨y0, y1, y2⟩ := InitAt.gr _ _ _ _ _ k1 hR
                  obtain ⟨y0', y1', y2'⟩ := InitAt.gr _ _ _ _ _ k1 hR'
                  clear hR hR' p0 p1 p2 p3 p4 q0 q1 q2 q3 q4
                  have z1 : (0 : Int) ≤ (k : Int) := by omega
                  have z2 : (k : Int) < (m.init.length : Int) := by omega
                  have z3 : (k : Int) < (n.init.length : Int) := by omega
                  by_cases hf : fsame m.init[k].t n.init[k].t = true
                  case neg =>
                    have hf' : fsame m.init[k].t n.init[k].t = false := by simpa using hf
                    clear hf
                    have hb := Lib.hid (show initSame m.init[k] n.init[k] = false by simp [initSame, hf'])
                    go_wp2
                    go_quiet ((go_at_call 94; exact Calls.quiet_of_same ((Float_any _ _ _).mono fun _ _ ⟨h1, h2⟩ => ⟨by rw [h1, hf'], h2.symm⟩)))
                    go_wp2
                    go_ret
                    exact ⟨ret_bool (sameB_bad (.inr (.inr (.inl (eqL_at _ _ _ k m.init[k] n.init[k] (by simp [hlt]) (by simp [hlt']) hb.out))))), k1.drewN _⟩
                  have HF := Lib.hid hf
                  clear hf
                  by_cases hd : m.init[k].dst = n.init[k].dst
                  case neg =>
                    have hb := Lib.hid (show initSame m.init[k] n.init[k] = false by simp [initSame, hd])
                    have d1 : (m.init[k].dst != n.init[k].dst) = true := by rw [bne_iff_ne]; exact hd
                    clear hd
                    go_wp2
                    go_quiet ((go_at_call 94; exact Calls.quiet_of_same ((Float_any _ _ _).mono fun _ _ ⟨h1, h2⟩ => ⟨by rw [h1, HF.out], h2.symm⟩)))
                    go_wp2
                    go_ret
                    exact ⟨ret_bool (sameB_bad (.inr (.inr (.inl (eqL_at _ _ _ k m.init[k] n.init[k] (by simp [hlt]) (by simp [hlt']) hb.out))))), k1.drewN _⟩
                  have d1 : (m.init[k].dst != n.init[k].dst) = false := by rw [bne_eq_false_iff_eq]; exact hd
                  have HDD := Lib.hid hd
                  clear hd
                  go_wp2
                  go_quiet ((go_at_call 94; exact Calls.quiet_of_same ((Float_any _ _ _).mono fun _ _ ⟨h1, h2⟩ => ⟨by rw [h1, HF.out], h2.symm⟩)))
                  clear d1 y0 y1 y2 y0' y1' y2' p5 q5 z1 z2 z3
                  go_wp2
                  · have hb : initSame m.init[k] n.init[k] = false := by grind [initSame]
                    go_ret
                    exact ⟨ret_bool (sameB_bad (.inr (.inr (.inl (eqL_at _ _ _ k m.init[k] n.init[k] (by simp [hlt]) (by simp [hlt']) hb))))), k1.drewN _⟩
                  · have hb : initSame m.init[k] n.init[k] = true := by have := HF.out; have := HDD.out; grind [initSame]
                    go_roundg (m.init.length - (k + 1))
                    case measure => omega
                    case rel => exact ⟨k + 1, by omega, by go_num, hgr.drewN _, eqL_step _ _ _ k m.init[k] n.init[k] (by simp [hlt]) (by simp [hlt']) HB.out hb⟩
                · have HB4 := Lib.hid (eqL_end _ _ _ k E.out.2.2.2.2 (by omega) HB.out)
                  go_wp2
                  go_ret
                  exact ⟨ret_bool (by rw [sameB, E.out.1.2, HB1.out, HB2.out, HB3.out, HB4.out, decide_eq_true E.out.1.1]; rfl), k1⟩
end Go.Proofs.Ytkoopobfelcgpaa
end -- A12

section -- A13
/- layer 5: awake -/
namespace Go.Proofs.Ytkoopobfelcgpaa
open Go.RowKit

theorem Sl_nil {α : Type} {sz : Nat} {R : World → Nat → Nat → α → Prop} {w : World} : Sl sz R w (.slice none 0 0) [] := ⟨none, 0, rfl, Nat.le_refl _, Nat.zero_le _, fun _ => rfl, fun i x h => by simp at h⟩
theorem Sl_one {α : Type} {sz : Nat} {R : World → Nat → Nat → α → Prop} {w : World} {b : Nat} {x : α} (h : R w b 0 x) : Sl sz R w (.slice (some ⟨b, 0, none⟩) 1 1) [x] :=
  ⟨some ⟨b, 0, none⟩, 1, rfl, Nat.le_refl _, by unfold maxLen; omega, (fun h => by cases h), fun i y hy => (by
    cases i with
    | zero => simp at hy; subst hy; exact ⟨b, 0, rfl, by simpa using h⟩
    | succ i => simp at hy)⟩
theorem cell_set_other {w : World} {a p : Addr} {u v : Value} (h : w.cell? p = some u) (hne : p.block ≠ a.block) : (w.setCell a v).cell? p = some u := by
  rw [World.cell?_of_block (w := w) (Below.heap_setCell w a v p.block hne)]; exact h
theorem cell_set_same {w : World} {a : Addr} {u v : Value} (h : w.cell? a = some u) : (w.setCell a v).cell? a = some v := by
  simp only [World.cell?, World.setCell] at *
  rw [Array.getElem?_modify]
  simp only [if_true]
  cases hb : w.heap[a.block]? with
  | none => rw [hb] at h; cases h
  | some o =>
    rw [hb] at h
    cases o with
    | cells c e f =>
      simp only [Option.map_some] at *
      split at h
      · cases h
      · rename_i hs
        simp only [hs, if_false, Bool.false_eq_true]
        have : a.off < c.size := by
          rcases Nat.lt_or_ge a.off c.size with g | g
          · exact g
          · rw [Array.getElem?_eq_none g] at h; cases h
        simp [this]
    | _ => cases h

theorem cell_set_off {w : World} {b i j : Nat} {u v : Value} (h : w.cell? ⟨b, j, none⟩ = some u) (hne : j ≠ i) : (w.setCell ⟨b, i, none⟩ v).cell? ⟨b, j, none⟩ = some u := by
  have hne' : (⟨b, i, none⟩ : Addr) ≠ ⟨b, j, none⟩ := by intro e; exact hne (by injection e with _ e2; exact e2.symm)
  have := World.cell?_setCell_other (w := w) (v := v) (h := hne')
  exact this.trans h

def m5 (d : Nat) : PModel := ⟨0, 4621819117588971520, [d], [[⟨0, 0, 0, 0⟩]], [⟨0, []⟩], []⟩
theorem m5_ok : checkE (m5 4607182418800017408) = 0 := by decide +kernel
theorem m5_bad : checkE (m5 0) = 15 := by decide +kernel
theorem m5_same : sameB (m5 0) (m5 0) = true := by decide +kernel

theorem m5_at (w : World) (d : Nat) (b0 b1 b2 b3 : Nat) (h0 : w.cell? ⟨b0, 0, none⟩ = some (.float .f64 d)) (h1 : w.cell? ⟨b1, 0, none⟩ = some (.int .i64 0)) (h2 : w.cell? ⟨b1, 1, none⟩ = some (.int .i64 0))
    (h3 : w.cell? ⟨b1, 2, none⟩ = some (.int .i64 0)) (h4 : w.cell? ⟨b1, 3, none⟩ = some (.int .i64 0)) (h5 : w.cell? ⟨b2, 0, none⟩ = some (.slice (some ⟨b1, 0, none⟩) 1 1))
    (h6 : w.cell? ⟨b3, 0, none⟩ = some (.int .i64 0)) (h7 : w.cell? ⟨b3, 1, none⟩ = some (.slice none 0 0)) :
    ModelAt w (.slice (some ⟨b0, 0, none⟩) 1 1) (.slice (some ⟨b2, 0, none⟩) 1 1) (.slice (some ⟨b3, 0, none⟩) 1 1) (.slice none 0 0) (m5 d) :=
  ⟨Sl_one h0, Sl_one ⟨_, h5, Sl_one ⟨h1, h2, h3, h4⟩⟩, Sl_one ⟨h6, _, h7, Sl_nil⟩, Sl_nil⟩

set_option maxHeartbeats 2000000 in
theorem awake5_any (w : World) : Calls Try.prog 29 #[] w fun e w' => e = .returned (.bool true) ∧ Gr w w' := by
  go_enter Try.func29, Try.ntmps29
  go_wp2_with fail
  refine (Check_any (m5 4607182418800017408) _ _ _ _ _ ?_).mono ?_
  · exact m5_at _ _ w.heap.size (w.heap.size + 1) (w.heap.size + 1 + 1) (w.heap.size + 1 + 1 + 1) (by go_cell) (by go_cell) (by go_cell) (by go_cell) (by go_cell) (by go_cell) (by go_cell) (by go_cell)
  rintro e W ⟨rfl, hW⟩
  rw [m5_ok]
  have c0 := hW.cell (p := ⟨w.heap.size + 1, 0, none⟩) (v := .int .i64 0) (by go_cell)
  have c1 := hW.cell (p := ⟨w.heap.size + 1, 1, none⟩) (v := .int .i64 0) (by go_cell)
  have c2 := hW.cell (p := ⟨w.heap.size + 1, 2, none⟩) (v := .int .i64 0) (by go_cell)
  have c3 := hW.cell (p := ⟨w.heap.size + 1, 3, none⟩) (v := .int .i64 0) (by go_cell)
  have c4 := hW.cell (p := ⟨w.heap.size + 1 + 1, 0, none⟩) (v := .slice (some ⟨w.heap.size + 1, 0, none⟩) 1 1) (by go_cell)
  have c5 := hW.cell (p := ⟨w.heap.size + 1 + 1 + 1, 0, none⟩) (v := .int .i64 0) (by go_cell)
  have c6 := hW.cell (p := ⟨w.heap.size + 1 + 1 + 1, 1, none⟩) (v := .slice none 0 0) (by go_cell)
  have hs := hW.size
  simp only [World.size_alloc] at hs
  have hs4 : w.heap.size + 1 + 1 + 1 + 1 < W.heap.size := by omega
  have d0 := hW.cell (p := ⟨w.heap.size + 1 + 1 + 1 + 1, 0, none⟩) (v := .int .i64 0) (by go_cell)
  have d1 := hW.cell (p := ⟨w.heap.size + 1 + 1 + 1 + 1, 1, none⟩) (v := .float .f64 4621819117588971520) (by go_cell)
  have d2 := hW.cell (p := ⟨w.heap.size + 1 + 1 + 1 + 1, 2, none⟩) (v := .slice (some ⟨w.heap.size, 0, none⟩) 1 1) (by go_cell)
  have d3 := hW.cell (p := ⟨w.heap.size + 1 + 1 + 1 + 1, 3, none⟩) (v := .slice (some ⟨w.heap.size + 1 + 1, 0, none⟩) 1 1) (by go_cell)
  have d4 := hW.cell (p := ⟨w.heap.size + 1 + 1 + 1 + 1, 4, none⟩) (v := .slice (some ⟨w.heap.size + 1 + 1 + 1, 0, none⟩) 1 1) (by go_cell)
  have d5 := hW.cell (p := ⟨w.heap.size + 1 + 1 + 1 + 1, 5, none⟩) (v := .slice none 0 0) (by go_cell)
  have hf : W.frozen? ⟨w.heap.size + 1 + 1 + 1 + 1, 2, none⟩ = false := by
    rw [Below.frozen hW (by simp only [World.size_alloc]; omega)]; go_simp
  have hg : Gr w W := Gr.trans (((((Gr.refl w).alloc _).alloc _).alloc _).alloc _ |>.alloc _) hW
  clear hW
  go_wp2_with fail
  have hx : ∀ p u, W.cell? p = some u → p.block ≠ w.heap.size + 1 + 1 + 1 + 1 → ((W.setCell ⟨w.heap.size + 1 + 1 + 1 + 1, 2, none⟩ (.slice (some ⟨W.heap.size, 0, none⟩) 1 1)).alloc (.cells #[.float .f64 0] 22)).cell? p = some u :=
    fun p u hp hn => Gr.cell ((Gr.refl _).alloc _) (cell_set_other hp hn)
  refine (Check_any (m5 0) _ _ _ _ _ ?_).mono ?_
  · exact m5_at _ _ W.heap.size (w.heap.size + 1) (w.heap.size + 1 + 1) (w.heap.size + 1 + 1 + 1) (by go_cell) (hx _ _ c0 (by simp only []; omega)) (hx _ _ c1 (by simp only []; omega)) (hx _ _ c2 (by simp only []; omega)) (hx _ _ c3 (by simp only []; omega))
      (hx _ _ c4 (by simp only []; omega)) (hx _ _ c5 (by simp only []; omega)) (hx _ _ c6 (by simp only []; omega))
  rintro e W2 ⟨rfl, hW2⟩
  rw [m5_bad]
  have hy : ∀ p u, W.cell? p = some u → p.block ≠ w.heap.size + 1 + 1 + 1 + 1 → W2.cell? p = some u := fun p u hp hn => hW2.cell (hx p u hp hn)
  have hd2 : W2.cell? ⟨w.heap.size + 1 + 1 + 1 + 1, 2, none⟩ = some (.slice (some ⟨W.heap.size, 0, none⟩) 1 1) := hW2.cell (Gr.cell ((Gr.refl _).alloc _) (cell_set_same d2))
  have hd0 : W2.cell? ⟨w.heap.size + 1 + 1 + 1 + 1, 0, none⟩ = some (.int .i64 0) := hW2.cell (Gr.cell ((Gr.refl _).alloc _) (cell_set_off d0 (by decide)))
  have hd1 : W2.cell? ⟨w.heap.size + 1 + 1 + 1 + 1, 1, none⟩ = some (.float .f64 4621819117588971520) := hW2.cell (Gr.cell ((Gr.refl _).alloc _) (cell_set_off d1 (by decide)))
  have hd3 : W2.cell? ⟨w.heap.size + 1 + 1 + 1 + 1, 3, none⟩ = some (.slice (some ⟨w.heap.size + 1 + 1, 0, none⟩) 1 1) := hW2.cell (Gr.cell ((Gr.refl _).alloc _) (cell_set_off d3 (by decide)))
  have hd4 : W2.cell? ⟨w.heap.size + 1 + 1 + 1 + 1, 4, none⟩ = some (.slice (some ⟨w.heap.size + 1 + 1 + 1, 0, none⟩) 1 1) := hW2.cell (Gr.cell ((Gr.refl _).alloc _) (cell_set_off d4 (by decide)))
  have hd5 : W2.cell? ⟨w.heap.size + 1 + 1 + 1 + 1, 5, none⟩ = some (.slice none 0 0) := hW2.cell (Gr.cell ((Gr.refl _).alloc _) (cell_set_off d5 (by decide)))
  have hdl : W2.cell? ⟨W.heap.size, 0, none⟩ = some (.float .f64 0) := hW2.cell (by go_cell)
  have hg2 : Gr w W2 := ((hg.setCell (by simp only []; omega) _).alloc _).trans hW2
  have HM := Lib.hid (m5_at W2 0 W.heap.size (w.heap.size + 1) (w.heap.size + 1 + 1) (w.heap.size + 1 + 1 + 1) hdl (hy _ _ c0 (by simp only []; omega)) (hy _ _ c1 (by simp only []; omega)) (hy _ _ c2 (by simp only []; omega)) (hy _ _ c3 (by simp only []; omega))
      (hy _ _ c4 (by simp only []; omega)) (hy _ _ c5 (by simp only []; omega)) (hy _ _ c6 (by simp only []; omega)))
  clear hx hy c0 c1 c2 c3 c4 c5 c6 d0 d1 d2 d3 d4 d5 hdl hf hs hs4 hW2
  go_wp2_with fail
  refine (Ins_any _ _ _ _ _ _).mono ?_
  rintro e W3 ⟨rfl, hW3⟩
  rw [show insB 9 1 0 0 1 = true from rfl]
  have e0 := hW3.cell hd0
  have e1 := hW3.cell hd1
  have e2 := hW3.cell hd2
  have e3 := hW3.cell hd3
  have e4 := hW3.cell hd4
  have e5 := hW3.cell hd5
  have hg3 := hg2.trans hW3
  clear hd0 hd1 hd2 hd3 hd4 hd5 hg2 hg
  go_wp2_with fail
  refine (Same_any (m5 0) (m5 0) _ _ _ _ _ _ _ _ _ (HM.out.gr hW3) (HM.out.gr hW3)).mono ?_
  rintro e W4 ⟨rfl, hW4⟩
  rw [m5_same]
  go_wp2_with fail
  go_ret
  exact ⟨rfl, hg3.trans hW4⟩
end Go.Proofs.Ytkoopobfelcgpaa
end -- A13

section -- A14
/- layer 5: the laws' walks -/
namespace Go.Proofs.Ytkoopobfelcgpaa
open Go.RowKit

theorem held4 {w W W' : World} {n : Nat} {a b c d : Value} (h : (W.cell? ⟨n, 0, none⟩ = some a ∧ W.cell? ⟨n, 1, none⟩ = some b ∧ W.cell? ⟨n, 2, none⟩ = some c ∧ W.cell? ⟨n, 3, none⟩ = some d) ∧ Gr w W) (g : Gr W W') :
    (W'.cell? ⟨n, 0, none⟩ = some a ∧ W'.cell? ⟨n, 1, none⟩ = some b ∧ W'.cell? ⟨n, 2, none⟩ = some c ∧ W'.cell? ⟨n, 3, none⟩ = some d) ∧ Gr w W' :=
  ⟨⟨g.cell h.1.1, g.cell h.1.2.1, g.cell h.1.2.2.1, g.cell h.1.2.2.2⟩, h.2.trans g⟩

set_option maxHeartbeats 2000000 in
theorem ModelIns_any (x : PIns) (len : Int) (w : World) : Calls Try.prog 4 #[.agg #[.int .i64 x.op, .int .i64 x.a, .int .i64 x.b, .int .i64 x.c], .int .i64 len] w fun e w' => e = .returned (.bool true) ∧ Gr w w' := by
  go_enter Try.func4, Try.ntmps4
  go_wp2_with fail
  have hB := (Gr.refl w).alloc (.cells #[.int .i64 x.op, .int .i64 x.a, .int .i64 x.b, .int .i64 x.c] 34)
  go_region_held3 (fun w' => (w'.cell? ⟨w.heap.size, 0, none⟩ = some (.int .i64 x.op) ∧ w'.cell? ⟨w.heap.size, 1, none⟩ = some (.int .i64 x.a) ∧ w'.cell? ⟨w.heap.size, 2, none⟩ = some (.int .i64 x.b) ∧ w'.cell? ⟨w.heap.size, 3, none⟩ = some (.int .i64 x.c)) ∧ Gr w w')
    (first | (refine held4 ?_ (by assumption); assumption) | (refine ⟨?_, hB.drew⟩; go_keep) | go_keep)
    (first
      | (go_at_call 29; refine (awake5_any _).mono ?_; rintro e w' ⟨rfl, hg⟩)
      | (go_at_call 33; refine (Ins_any _ _ _ _ _ _).mono ?_; rintro e w' ⟨rfl, hg⟩)
      | (go_at_call 34; refine (RIns_any _ _ _ _ _ _).mono ?_; rintro e w' ⟨rfl, hg⟩))
  all_goals
    have hend : Gr w _ := And.right (by assumption)
    go_wp2
    go_ret
    exact ⟨rfl, hend⟩
end Go.Proofs.Ytkoopobfelcgpaa
end -- A14

section -- Grow
/- A region that draws its order, whose operations only read and whose calls only add new blocks: one walk in the order of the text serves every order. -/
namespace Go.Proofs.Ytkoopobfelcgpaa
open Go.RowKit

/-- A world that has grown out of W0. -/
structure After (W0 : World) where
  w : World
  h : Gr W0 w

instance {W0 : World} : Nonempty (After W0) := ⟨⟨W0, Gr.refl _⟩⟩

theorem wp_region_grow {id : Nat} {Q : Exit → Act → World → Prop} {a : Act} {w : World} {l : List Oper} (W0 : World) (h0 : Gr W0 w) (hm : Try.prog.follows .mixedOrders = true) (hB : Region.lexB .any l.toArray = true)
    (h : wpQuiet Try.prog l.toArray (fun w' => ∃ x : After W0, w' = x.w) (fun a' => ∀ w', (∃ x : After W0, w' = x.w) → Q .normal a' w') l a) : (Code.region id l.toArray true).wp Try.prog Q a w :=
  wp_region_quiet (C := fun w' => ∃ x : After W0, w' = x.w) hm hB ⟨⟨_, h0.drew⟩, rfl⟩ (by simpa using h)

theorem After.calls {W0 : World} {x : After W0} {f : FuncId} {args : Array Value} {v : Value} (h : Calls Try.prog f args x.w fun e w' => e = .returned v ∧ Gr x.w w') :
    Calls Try.prog f args x.w fun e w'' => e = .returned v ∧ ∃ y : After W0, w'' = y.w :=
  h.mono fun _ w' ⟨he, hg⟩ => ⟨he, ⟨w', x.h.trans hg⟩, rfl⟩
theorem After.calls_same {W0 : World} {x : After W0} {f : FuncId} {args : Array Value} {v : Value} (h : Calls Try.prog f args x.w fun e w' => e = .returned v ∧ x.w = w') :
    Calls Try.prog f args x.w fun e w'' => e = .returned v ∧ ∃ y : After W0, w'' = y.w :=
  h.mono fun _ _ ⟨he, hg⟩ => ⟨he, x, hg.symm⟩
theorem After.box1 {w W : World} {a0 : Value} {t : TypeId} (hW : Gr (w.alloc (.cells #[a0] t)) W) : (∀ x : After W, Gr w x.w) ∧ (∀ x : After W, x.w.cell? ⟨w.heap.size, 0, none⟩ = some a0) :=
  ⟨fun x => (((Gr.refl w).alloc _).trans hW).trans x.h, fun x => (hW.trans x.h).cell (by simp)⟩
theorem After.box2 {w W : World} {a0 a1 : Value} {t : TypeId} (hW : Gr (w.alloc (.cells #[a0, a1] t)) W) : (∀ x : After W, Gr w x.w) ∧ (∀ x : After W, x.w.cell? ⟨w.heap.size, 0, none⟩ = some a0) ∧ (∀ x : After W, x.w.cell? ⟨w.heap.size, 1, none⟩ = some a1) :=
  ⟨fun x => (((Gr.refl w).alloc _).trans hW).trans x.h, fun x => (hW.trans x.h).cell (by simp), fun x => (hW.trans x.h).cell (by simp)⟩
theorem After.box3 {w W : World} {a0 a1 a2 : Value} {t : TypeId} (hW : Gr (w.alloc (.cells #[a0, a1, a2] t)) W) : (∀ x : After W, Gr w x.w) ∧ (∀ x : After W, x.w.cell? ⟨w.heap.size, 0, none⟩ = some a0) ∧ (∀ x : After W, x.w.cell? ⟨w.heap.size, 1, none⟩ = some a1) ∧ (∀ x : After W, x.w.cell? ⟨w.heap.size, 2, none⟩ = some a2) :=
  ⟨fun x => (((Gr.refl w).alloc _).trans hW).trans x.h, fun x => (hW.trans x.h).cell (by simp), fun x => (hW.trans x.h).cell (by simp), fun x => (hW.trans x.h).cell (by simp)⟩
theorem After.box4 {w W : World} {a0 a1 a2 a3 : Value} {t : TypeId} (hW : Gr (w.alloc (.cells #[a0, a1, a2, a3] t)) W) : (∀ x : After W, Gr w x.w) ∧ (∀ x : After W, x.w.cell? ⟨w.heap.size, 0, none⟩ = some a0) ∧ (∀ x : After W, x.w.cell? ⟨w.heap.size, 1, none⟩ = some a1) ∧ (∀ x : After W, x.w.cell? ⟨w.heap.size, 2, none⟩ = some a2) ∧ (∀ x : After W, x.w.cell? ⟨w.heap.size, 3, none⟩ = some a3) :=
  ⟨fun x => (((Gr.refl w).alloc _).trans hW).trans x.h, fun x => (hW.trans x.h).cell (by simp), fun x => (hW.trans x.h).cell (by simp), fun x => (hW.trans x.h).cell (by simp), fun x => (hW.trans x.h).cell (by simp)⟩
theorem After.box5 {w W : World} {a0 a1 a2 a3 a4 : Value} {t : TypeId} (hW : Gr (w.alloc (.cells #[a0, a1, a2, a3, a4] t)) W) : (∀ x : After W, Gr w x.w) ∧ (∀ x : After W, x.w.cell? ⟨w.heap.size, 0, none⟩ = some a0) ∧ (∀ x : After W, x.w.cell? ⟨w.heap.size, 1, none⟩ = some a1) ∧ (∀ x : After W, x.w.cell? ⟨w.heap.size, 2, none⟩ = some a2) ∧ (∀ x : After W, x.w.cell? ⟨w.heap.size, 3, none⟩ = some a3) ∧ (∀ x : After W, x.w.cell? ⟨w.heap.size, 4, none⟩ = some a4) :=
  ⟨fun x => (((Gr.refl w).alloc _).trans hW).trans x.h, fun x => (hW.trans x.h).cell (by simp), fun x => (hW.trans x.h).cell (by simp), fun x => (hW.trans x.h).cell (by simp), fun x => (hW.trans x.h).cell (by simp), fun x => (hW.trans x.h).cell (by simp)⟩
theorem After.box6 {w W : World} {a0 a1 a2 a3 a4 a5 : Value} {t : TypeId} (hW : Gr (w.alloc (.cells #[a0, a1, a2, a3, a4, a5] t)) W) : (∀ x : After W, Gr w x.w) ∧ (∀ x : After W, x.w.cell? ⟨w.heap.size, 0, none⟩ = some a0) ∧ (∀ x : After W, x.w.cell? ⟨w.heap.size, 1, none⟩ = some a1) ∧ (∀ x : After W, x.w.cell? ⟨w.heap.size, 2, none⟩ = some a2) ∧ (∀ x : After W, x.w.cell? ⟨w.heap.size, 3, none⟩ = some a3) ∧ (∀ x : After W, x.w.cell? ⟨w.heap.size, 4, none⟩ = some a4) ∧ (∀ x : After W, x.w.cell? ⟨w.heap.size, 5, none⟩ = some a5) :=
  ⟨fun x => (((Gr.refl w).alloc _).trans hW).trans x.h, fun x => (hW.trans x.h).cell (by simp), fun x => (hW.trans x.h).cell (by simp), fun x => (hW.trans x.h).cell (by simp), fun x => (hW.trans x.h).cell (by simp), fun x => (hW.trans x.h).cell (by simp), fun x => (hW.trans x.h).cell (by simp)⟩
theorem mixed : Try.prog.follows .mixedOrders = true := by kernel_rfl
theorem Calls.to {f : FuncId} {args : Array Value} {v u : Value} {w : World} (h : Calls Try.prog f args w fun e w' => e = .returned v ∧ Gr w w') (e : v = u) : Calls Try.prog f args w fun e w' => e = .returned u ∧ Gr w w' := e ▸ h
theorem boolv {a b : Bool} (h : a = b) : Value.bool a = Value.bool b := by rw [h]
theorem intv {k : IntKind} {a b : Int} (h : a = b) : Value.int k a = Value.int k b := by rw [h]
end Go.Proofs.Ytkoopobfelcgpaa
end -- Grow

section -- A15
/- layer 5: the laws' walks: ModelChecks -/
namespace Go.Proofs.Ytkoopobfelcgpaa
open Go.RowKit

set_option maxHeartbeats 4000000 in
theorem ModelChecks_any (m : PModel) (vd vp vl vi : Value) (w : World) (h : ModelAt w vd vp vl vi m) :
    Calls Try.prog 3 #[.agg #[.int .i64 m.seed, .float .f64 m.fin, vd, vp, vl, vi]] w fun e w' => e = .returned (.bool true) ∧ Gr w w' := by
  have Q := Lib.hid h
  obtain ⟨ad, cd, rfl, -⟩ := h.delays
  obtain ⟨ap, cp, rfl, -⟩ := h.programs
  obtain ⟨al, cl, rfl, -⟩ := h.lps
  obtain ⟨ai, ci, rfl, -⟩ := h.init
  clear h
  cases hl : lightB 20 40 60 60 200 100 m
  all_goals
    have HL := Lib.hid hl
    clear hl
    go_enter Try.func3, Try.ntmps3
    go_wp2_with fail
    have hW := Gr.refl (w.alloc (.cells #[.int .i64 m.seed, .float .f64 m.fin, .slice ad m.delays.length cd, .slice ap m.programs.length cp, .slice al m.lps.length cl, .slice ai m.init.length ci] 28))
    obtain ⟨K, q0, q1, q2, q3, q4, q5⟩ := After.box6 hW
    have HK := Lib.hid K
    clear K
    refine wp_region_grow _ hW mixed (by kernel_rfl) ?_
    repeat (go_big_quiet_step (first
      | (go_at_call 29; exact After.calls (awake5_any _))
      | (go_at_call 30; exact After.calls (Calls.to (light5_any m _ _ _ _ _ (Q.out.gr (HK.out _))) (boolv HL.out)))
      | (go_at_call 31; exact After.calls (Check_any m _ _ _ _ _ (Q.out.gr (HK.out _))))
      | (go_at_call 32; exact After.calls (RCheck_any m _ _ _ _ _ (Q.out.gr (HK.out _))))))
    refine wpQuiet_nil ?_
    intro _ hw'
    obtain ⟨x, rfl⟩ := hw'
    go_wp2
    go_ret
    exact ⟨by simp, HK.out x⟩

theorem fsame_symm (a b : Nat) : fsame a b = fsame b a := by grind [fsame]
theorem fsame_refl (a : Nat) : fsame a a = true := by simp [fsame]
theorem eqL_symm {α : Type} {p : α → α → Bool} (hp : ∀ a b, p a b = p b a) : ∀ l r : List α, eqL p l r = eqL p r l
  | [], [] => rfl
  | [], _ :: _ => by simp [eqL]
  | _ :: _, [] => by simp [eqL]
  | a :: l, b :: r => by
    have ih := eqL_symm hp l r
    simp only [eqL, List.length_cons, List.zip_cons_cons, List.all_cons] at *
    rw [hp a b]
    have e1 : decide (l.length + 1 = r.length + 1) = decide (l.length = r.length) := by simp
    have e2 : decide (r.length + 1 = l.length + 1) = decide (r.length = l.length) := by simp
    rw [e1, e2]
    generalize decide (l.length = r.length) = x at *
    generalize decide (r.length = l.length) = y at *
    generalize ((l.zip r).all fun q => p q.1 q.2) = u at *
    generalize ((r.zip l).all fun q => p q.1 q.2) = v at *
    revert ih
    cases x <;> cases y <;> cases u <;> cases v <;> cases p b a <;> simp
theorem eqL_refl {α : Type} {p : α → α → Bool} (hp : ∀ a, p a a = true) : ∀ l : List α, eqL p l l = true
  | [] => rfl
  | a :: l => by
    have ih := eqL_refl hp l
    simp only [eqL, List.length_cons, List.zip_cons_cons, List.all_cons, hp] at *
    simpa using ih
theorem intEq_symm (a b : Int) : intEq a b = intEq b a := by grind [intEq]
theorem insEq_symm (a b : PIns) : insEq a b = insEq b a := by grind [insEq]
theorem lpSame_symm (a b : PLP) : lpSame a b = lpSame b a := by rw [lpSame, lpSame, eqL_symm intEq_symm]; grind
theorem initSame_symm (a b : PInit) : initSame a b = initSame b a := by rw [initSame, initSame, fsame_symm]; grind
theorem sameB_symm (a b : PModel) : sameB a b = sameB b a := by
  rw [sameB, sameB, fsame_symm, eqL_symm fsame_symm, eqL_symm initSame_symm, eqL_symm (eqL_symm insEq_symm), eqL_symm lpSame_symm]; grind
theorem sameB_refl (a : PModel) : sameB a a = true := by
  rw [sameB, fsame_refl, eqL_refl fsame_refl, eqL_refl (fun x => by rw [initSame, fsame_refl]; simp), eqL_refl (eqL_refl (fun x => by simp [insEq])), eqL_refl (fun x => by rw [lpSame, eqL_refl (fun x => by simp [intEq])]; simp)]; simp

set_option maxHeartbeats 8000000 in
set_option maxRecDepth 100000 in
theorem ModelSame_any (m n : PModel) (vd vp vl vi ud up ul ui : Value) (w : World) (h : ModelAt w vd vp vl vi m) (h' : ModelAt w ud up ul ui n) :
    Calls Try.prog 5 #[.agg #[.int .i64 m.seed, .float .f64 m.fin, vd, vp, vl, vi], .agg #[.int .i64 n.seed, .float .f64 n.fin, ud, up, ul, ui]] w
      fun e w' => e = .returned (.bool true) ∧ Gr w w' := by
  have Q := Lib.hid h
  have Q' := Lib.hid h'
  obtain ⟨ad, cd, rfl, -⟩ := h.delays
  obtain ⟨ap, cp, rfl, -⟩ := h.programs
  obtain ⟨al, cl, rfl, -⟩ := h.lps
  obtain ⟨ai, ci, rfl, -⟩ := h.init
  obtain ⟨ad', cd', rfl, -⟩ := h'.delays
  obtain ⟨ap', cp', rfl, -⟩ := h'.programs
  obtain ⟨al', cl', rfl, -⟩ := h'.lps
  obtain ⟨ai', ci', rfl, -⟩ := h'.init
  clear h h'
  have hs := Lib.hid (sameB_symm n m)
  have hr := Lib.hid (sameB_refl m)
  cases hl : lightB 20 40 60 60 200 100 m
  all_goals
    have HL := Lib.hid hl
    clear hl
    cases hl' : lightB 20 40 60 60 200 100 n
  all_goals
    have HL' := Lib.hid hl'
    clear hl'
    cases hb : sameB m n
  all_goals
    have HB := Lib.hid hb
    have HB' := Lib.hid (hs.out.trans hb)
    clear hb
    go_enter Try.func5, Try.ntmps5
    go_wp2_with fail
    have hW := Gr.refl ((w.alloc (.cells #[.int .i64 m.seed, .float .f64 m.fin, .slice ad m.delays.length cd, .slice ap m.programs.length cp, .slice al m.lps.length cl, .slice ai m.init.length ci] 28)).alloc
      (.cells #[.int .i64 n.seed, .float .f64 n.fin, .slice ad' n.delays.length cd', .slice ap' n.programs.length cp', .slice al' n.lps.length cl', .slice ai' n.init.length ci'] 28))
    obtain ⟨K, q0, q1, q2, q3, q4, q5⟩ := After.box6 (((Gr.refl _).alloc _).trans hW)
    obtain ⟨K', r0, r1, r2, r3, r4, r5⟩ := After.box6 hW
    simp only [World.size_alloc] at r0 r1 r2 r3 r4 r5
    have HK := Lib.hid K
    clear K K'
    refine wp_region_grow _ hW mixed (by kernel_rfl) ?_
    repeat (go_big_quiet_step (first
      | (go_at_call 29; exact After.calls (awake5_any _))
      | (go_at_call 30; with_reducible exact After.calls (Calls.to (light5_any m _ _ _ _ _ (Q.out.gr (HK.out _))) (boolv HL.out)))
      | (go_at_call 30; with_reducible exact After.calls (Calls.to (light5_any n _ _ _ _ _ (Q'.out.gr (HK.out _))) (boolv HL'.out)))
      | (go_at_call 36; with_reducible exact After.calls (Calls.to (RSame_any m n _ _ _ _ _ _ _ _ _ (Q.out.gr (HK.out _)) (Q'.out.gr (HK.out _))) (boolv HB.out)))
      | (go_at_call 35; with_reducible exact After.calls (Calls.to (Same_any m n _ _ _ _ _ _ _ _ _ (Q.out.gr (HK.out _)) (Q'.out.gr (HK.out _))) (boolv HB.out)))
      | (go_at_call 35; with_reducible exact After.calls (Calls.to (Same_any n m _ _ _ _ _ _ _ _ _ (Q'.out.gr (HK.out _)) (Q.out.gr (HK.out _))) (boolv HB'.out)))
      | (go_at_call 35; with_reducible exact After.calls (Calls.to (Same_any m m _ _ _ _ _ _ _ _ _ (Q.out.gr (HK.out _)) (Q.out.gr (HK.out _))) (boolv hr.out)))))
    refine wpQuiet_nil ?_
    intro _ hw'
    obtain ⟨x, rfl⟩ := hw'
    go_wp2
    go_ret
    exact ⟨by simp, HK.out x⟩
end Go.Proofs.Ytkoopobfelcgpaa
end -- A15

section -- Own
/- Slices that a call makes itself, element by element: append's law over lists. -/
namespace Go.Proofs.Ytkoopobfelcgpaa
open Go.RowKit

/-- An element is told by the cells that it lies in. -/
def FlatAt {α : Type} (cells : α → List Value) : World → Nat → Nat → α → Prop := fun w b o x => ∀ (j : Nat) u, (cells x)[j]? = some u → w.cell? ⟨b, o + j, none⟩ = some u
theorem FlatAt.gr {α : Type} (cells : α → List Value) : Stays (FlatAt cells) := fun _ _ _ _ _ g h j u hu => g.cell (h j u hu)

theorem flat_get {α : Type} {cells : α → List Value} {sz : Nat} (hlen : ∀ x, (cells x).length = sz) : ∀ (l : List α) (i j : Nat), j < sz → (l.flatMap cells)[i * sz + j]? = (l[i]?).bind fun x => (cells x)[j]?
  | [], i, j, _ => by simp
  | x :: l, 0, j, hj => by
    rw [List.flatMap_cons, List.getElem?_append_left (by rw [hlen]; omega)]
    simp
  | x :: l, i + 1, j, hj => by
    have e : (i + 1) * sz + j = sz + (i * sz + j) := by rw [Nat.add_mul]; omega
    rw [List.flatMap_cons, e, List.getElem?_append_right (by rw [hlen]; omega), hlen, Nat.add_sub_cancel_left, flat_get hlen l i j hj]
    simp
theorem flat_len {α : Type} {cells : α → List Value} {sz : Nat} (hlen : ∀ x, (cells x).length = sz) : ∀ l : List α, (l.flatMap cells).length = l.length * sz
  | [] => by simp
  | x :: l => by rw [List.flatMap_cons, List.length_append, hlen, flat_len hlen l, List.length_cons, Nat.add_mul]; omega

/-- v is the call's own slice (its block from base on, of element type e, sz cells an element): it reads as l. -/
def Own {α : Type} (base e sz : Nat) (cells : α → List Value) (w : World) (v : Value) (l : List α) : Prop := w.ownsRow base e sz v l.length (l.flatMap cells)

theorem Own.nil {α : Type} {base e sz : Nat} {cells : α → List Value} {w : World} : Own base e sz cells w (.slice none 0 0) [] := World.ownsRow_nil w base e sz

theorem Own.sl {α : Type} {base e sz : Nat} {cells : α → List Value} {w : World} {v : Value} {l : List α} (hlen : ∀ x, (cells x).length = sz) (h : Own base e sz cells w v l) : Sl sz (FlatAt cells) w v l := by
  obtain ⟨hx, ⟨rfl, hn⟩ | ⟨g, cap, cur, rfl, hb, hg, hnc, hcm, hcs, ht⟩⟩ := h
  · have : l = [] := List.eq_nil_of_length_eq_zero hn
    subst this
    exact ⟨none, 0, rfl, Nat.le_refl _, Nat.zero_le _, fun _ => rfl, fun i x h => by simp at h⟩
  · refine ⟨some ⟨g, 0, none⟩, cap, rfl, hnc, hcm, (fun h => by cases h), fun i x hxi => ⟨g, 0, rfl, fun j u hu => ?_⟩⟩
    have hil : i < l.length := by
      rcases Nat.lt_or_ge i l.length with g | g
      · exact g
      · rw [List.getElem?_eq_none g] at hxi; cases hxi
    have hj : j < sz := by
      rw [← hlen x]
      rcases Nat.lt_or_ge j (cells x).length with g | g
      · exact g
      · rw [List.getElem?_eq_none g] at hu; cases hu
    have h1 := flat_get hlen l i j hj
    rw [hxi] at h1
    simp only [Option.bind_some, hu] at h1
    have hlt : i * sz + j < l.length * sz := by
      have : i * sz + sz ≤ l.length * sz := by rw [← Nat.succ_mul]; exact Nat.mul_le_mul_right _ hil
      omega
    rw [← ht, List.getElem?_take_of_lt hlt, Array.getElem?_toList] at h1
    simp only [World.cell?, hg]
    have e1 : 0 + i * sz + j = i * sz + j := by omega
    simp [h1]

/-- What a world keeps of an own slice when it changes elsewhere. -/
theorem Own.kept {α : Type} {base e sz : Nat} {cells : α → List Value} {w w' : World} {v : Value} {l : List α} {row : Option Nat} (h : Own base e sz cells w v l) (hg : w.grownBy w' row) (hne : v.ownBlock = none ∨ v.ownBlock ≠ row) : Own base e sz cells w' v l :=
  World.ownsRow.kept h hg hne

theorem info_at {t : Nat} {z : Value} {n b : Nat} (h : (Try.prog.info? t).map (fun i => (i.zero, i.size, i.bytes)) = some (some z, n, b)) : ∃ i, Try.prog.info? t = some i ∧ i.zero = some z ∧ i.size = n ∧ i.bytes = b := by
  cases hi : Try.prog.info? t with
  | none => rw [hi] at h; cases h
  | some i =>
    rw [hi] at h
    simp only [Option.map_some, Option.some.injEq, Prod.mk.injEq] at h
    exact ⟨i, rfl, h.1, h.2.1, h.2.2⟩

theorem add_plain (b o j : Nat) : (⟨b, o, none⟩ : Addr).add j = ⟨b, o + j, none⟩ := by
  unfold Addr.add
  split
  · rename_i h; subst h; rfl
  · rfl

set_option maxRecDepth 100000 in
/-- append(v, u...): v the call's own, u any slice: the lists one behind the other. -/
theorem run_append_list {α : Type} {cells : α → List Value} {base t ty e sz bytes : Nat} {z : Value} (ht : Try.prog.underlying t = some (.slice e)) (hi : (Try.prog.info? e).map (fun i => (i.zero, i.size, i.bytes)) = some (some z, sz, bytes))
    (hzs : z.cells.size = sz) (hsz : 0 < sz) (hlen : ∀ x, (cells x).length = sz) (h1 : ∀ x, ∀ u ∈ cells x, u.oneCell' = true)
    (w : World) (v u : Value) (l r : List α) (ho : Own base e sz cells w v l) (hs : Sl sz (FlatAt cells) w u r) (h63 : l.length + r.length ≤ maxLen) (hbytes : (l.length + r.length) * bytes ≤ 140737488355328) (hbase : base ≤ w.heap.size) :
    ∃ v' w', (Builtin.append_ #[t, t] ty #[v, u]).run Try.prog w = .ok v' w' ∧ Own base e sz cells w' v' (l ++ r) ∧ w.grownBy w' v.ownBlock ∧ (v'.ownBlock = v.ownBlock ∨ v'.ownBlock = some w.heap.size) := by
  obtain ⟨i, hi1, hi2, hi3, hi4⟩ := info_at hi
  obtain ⟨a, c, rfl, hrc, hcm, hnone, hel⟩ := hs
  unfold Own
  rw [List.length_append, List.flatMap_append]
  cases a with
  | none =>
    have hc : c = 0 := hnone rfl
    have hr : r = [] := List.eq_nil_of_length_eq_zero (by omega)
    subst hr
    subst hc
    have := run_append_owned_none (P := Try.prog) (w := w) base t ty e i sz ht hi1 v l.length (l.flatMap cells) ho
    exact ⟨v, w, this, by unfold Own at ho; simpa using ho, ⟨rfl, rfl, rfl, Nat.le_refl _, fun _ _ _ => rfl⟩, .inl rfl⟩
  | some ad =>
    have hnews : ∀ j x, (r.flatMap cells)[j]? = some x → w.cell? (ad.add j) = some x := by
      intro j x hj
      have hjl : j < r.length * sz := by
        rw [← flat_len hlen r]
        rcases Nat.lt_or_ge j (r.flatMap cells).length with g | g
        · exact g
        · rw [List.getElem?_eq_none g] at hj; cases hj
      have hdm : j / sz * sz + j % sz = j := by rw [Nat.mul_comm]; exact Nat.div_add_mod j sz
      have hq : j / sz < r.length := Nat.div_lt_of_lt_mul (by rw [Nat.mul_comm]; exact hjl)
      have h2 := flat_get hlen r (j / sz) (j % sz) (Nat.mod_lt _ hsz)
      rw [hdm, hj, List.getElem?_eq_getElem hq] at h2
      obtain ⟨b, o, hab, hR⟩ := hel (j / sz) r[j / sz] (List.getElem?_eq_getElem hq)
      have h3 := hR (j % sz) x (by simpa using h2.symm)
      injection hab with hab
      subst hab
      have e1 := add_plain b o j
      rw [e1, ← h3]
      congr 2
      omega
    have h1' : ∀ x ∈ r.flatMap cells, x.oneCell' = true := by
      intro x hx
      obtain ⟨y, _, hy⟩ := List.mem_flatMap.1 hx
      exact h1 y x hy
    obtain ⟨v', w', hrun, h2, h3, _, h5⟩ := run_append_own_at (P := Try.prog) w base t ty e i z sz bytes ht hi1 hi2 hi3 hi4 hzs hsz v l.length (l.flatMap cells) ho ad r.length c (r.flatMap cells) (flat_len hlen r) hnews h1' h63 hbytes hbase
    exact ⟨v', w', hrun, h2, h3, h5⟩

section
variable {α : Type} {cells : α → List Value} {t e sz bytes : Nat} {z : Value} {w : World}

/-- The law at the operation. -/
theorem wp_append_list {o : Oper} {a : Act} {K : Act → World → Prop} {Q : Exit → Act → World → Prop} (s x : Operand) (t : TypeId) (ho : o.op = .call { callee := .builtin .append, args := #[s, x], argTypes := #[t, t] })
    (base : Nat) (ht : Try.prog.underlying t = some (.slice e)) (hi : (Try.prog.info? e).map (fun i => (i.zero, i.size, i.bytes)) = some (some z, sz, bytes))
    (hzs : z.cells.size = sz) (hsz : 0 < sz) (hlen : ∀ x, (cells x).length = sz) (h1 : ∀ x, ∀ u ∈ cells x, u.oneCell' = true)
    (v u : Value) (hs : a.eval s = v) (hx : a.eval x = u) (l r : List α) (hown : Own base e sz cells w v l) (hsl : Sl sz (FlatAt cells) w u r) (h63 : l.length + r.length ≤ maxLen) (hbytes : (l.length + r.length) * bytes ≤ 140737488355328) (hbase : base ≤ w.heap.size)
    (h : ∀ v' w', Own base e sz cells w' v' (l ++ r) → w.grownBy w' v.ownBlock → (v'.ownBlock = v.ownBlock ∨ v'.ownBlock = some w.heap.size) → K (a.put o.dst v') w') : o.wp Try.prog a w K Q := by
  obtain ⟨v', w', hr, h2, h3, h4⟩ := run_append_list (ty := o.type) ht hi hzs hsz hlen h1 w v u l r hown hsl h63 hbytes hbase
  unfold Oper.wp execOp
  simp only [ho, resolve, invoke, builtin, Sem.run_bind, Sem.run_pure, Result.andThen_ok, List.map_toArray, List.map_cons, List.map_nil, hs, hx, hr]
  exact h v' w' h2 h3 h4

/-- In a region that keeps the text's order. -/
theorem wpList_append_list {ops : Array Oper} {rest : List Oper} {o : Oper} {a : Act} {Q : Exit → Act → World → Prop} (hgd : o.guard = none) (s x : Operand) (t : TypeId) (ho : o.op = .call { callee := .builtin .append, args := #[s, x], argTypes := #[t, t] })
    (base : Nat) (ht : Try.prog.underlying t = some (.slice e)) (hi : (Try.prog.info? e).map (fun i => (i.zero, i.size, i.bytes)) = some (some z, sz, bytes))
    (hzs : z.cells.size = sz) (hsz : 0 < sz) (hlen : ∀ x, (cells x).length = sz) (h1 : ∀ x, ∀ u ∈ cells x, u.oneCell' = true)
    (v u : Value) (hs : a.eval s = v) (hx : a.eval x = u) (l r : List α) (hown : Own base e sz cells w v l) (hsl : Sl sz (FlatAt cells) w u r) (h63 : l.length + r.length ≤ maxLen) (hbytes : (l.length + r.length) * bytes ≤ 140737488355328) (hbase : base ≤ w.heap.size)
    (h : ∀ v' w', Own base e sz cells w' v' (l ++ r) → w.grownBy w' v.ownBlock → (v'.ownBlock = v.ownBlock ∨ v'.ownBlock = some w.heap.size) → wpList Try.prog ops Q rest (a.put o.dst v') w') : wpList Try.prog ops Q (o :: rest) a w :=
  wpList_plain hgd fun _ hK => wp_append_list s x t ho base ht hi hzs hsz hlen h1 v u hs hx l r hown hsl h63 hbytes hbase fun v' w' h2 h3 h4 => hK _ _ (h v' w' h2 h3 h4)

/-- At a step of a region that draws its order. -/
theorem step_append_list {ops : Array Oper} {o : Oper} {a : Act} {K : Act → World → Prop} {Q : Exit → Act → World → Prop} {E : Prop} (hgd : o.guard = none) (s x : Operand) (t : TypeId) (ho : o.op = .call { callee := .builtin .append, args := #[s, x], argTypes := #[t, t] })
    (base : Nat) (ht : Try.prog.underlying t = some (.slice e)) (hi : (Try.prog.info? e).map (fun i => (i.zero, i.size, i.bytes)) = some (some z, sz, bytes))
    (hzs : z.cells.size = sz) (hsz : 0 < sz) (hlen : ∀ x, (cells x).length = sz) (h1 : ∀ x, ∀ u ∈ cells x, u.oneCell' = true)
    (v u : Value) (hs : a.eval s = v) (hx : a.eval x = u) (l r : List α) (hown : Own base e sz cells w v l) (hsl : Sl sz (FlatAt cells) w u r) (h63 : l.length + r.length ≤ maxLen) (hbytes : (l.length + r.length) * bytes ≤ 140737488355328) (hbase : base ≤ w.heap.size)
    (h : ∀ v' w', Own base e sz cells w' v' (l ++ r) → w.grownBy w' v.ownBlock → (v'.ownBlock = v.ownBlock ∨ v'.ownBlock = some w.heap.size) → K (a.put o.dst v') w') :
    if Region.wanted o (yielded ops a.tmps) = true then Oper.wp Try.prog o a w K Q else E := by
  have hw : Region.wanted o (yielded ops a.tmps) = true := by simp [Region.wanted, hgd]
  rw [if_pos hw]
  exact wp_append_list s x t ho base ht hi hzs hsz hlen h1 v u hs hx l r hown hsl h63 hbytes hbase h
end

/-- A struct of six cells that the call writes: its block as a whole. -/
def Out (T : TypeId) (w : World) (O : Nat) (cs : List Value) : Prop := w.heap[O]? = some (.cells cs.toArray T (0, 0))
theorem Out.lt {T : TypeId} {w : World} {O : Nat} {cs : List Value} (h : Out T w O cs) : O < w.heap.size := by
  rcases Nat.lt_or_ge O w.heap.size with g | g
  · exact g
  · unfold Out at h; rw [Array.getElem?_eq_none g] at h; cases h
theorem Out.cell {T : TypeId} {w : World} {O i : Nat} {cs : List Value} {v : Value} (h : Out T w O cs) (hv : cs[i]? = some v) : w.cell? ⟨O, i, none⟩ = some v := by
  unfold Out at h
  simp [World.cell?, h, hv]
theorem Out.free {T : TypeId} {w : World} {O : Nat} {cs : List Value} (h : Out T w O cs) (i : Nat) : w.frozen? ⟨O, i, none⟩ = false := by
  unfold Out at h
  simp [World.frozen?, h]
theorem Out.set {T : TypeId} {w : World} {O : Nat} {cs : List Value} (h : Out T w O cs) (i : Nat) (v : Value) : Out T (w.setCell ⟨O, i, none⟩ v) O (cs.set i v) := by
  unfold Out at *
  simp only [World.setCell]
  rw [Array.getElem?_modify]
  simp [h]
theorem Out.new {w : World} {T : TypeId} {cs : List Value} : Out T (w.alloc (.cells cs.toArray T)) w.heap.size cs := by
  unfold Out
  show (w.heap.push _)[w.heap.size]? = _
  simp
theorem Out.alloc {T : TypeId} {w : World} {O : Nat} {cs : List Value} (h : Out T w O cs) (o : Obj) : Out T (w.alloc o) O cs := by
  unfold Out at *
  rw [Below.heap_alloc _ _ _ (Out.lt h)]; exact h
theorem Out.drew {T : TypeId} {w : World} {O : Nat} {cs : List Value} (h : Out T w O cs) : Out T w.drew O cs := h
theorem Out.gr {T : TypeId} {w w' : World} {O : Nat} {cs : List Value} (h : Out T w O cs) (g : Gr w w') : Out T w' O cs := by
  unfold Out at *
  rw [g.block O (Out.lt h)]; exact h

theorem Own.block {α : Type} {base e sz : Nat} {cells : α → List Value} {w : World} {v : Value} {l : List α} (h : Own base e sz cells w v l) : v.ownBlock = none ∨ ∃ g cur, v.ownBlock = some g ∧ base ≤ g ∧ w.heap[g]? = some (.cells cur e (0, 0)) := by
  obtain ⟨-, ⟨rfl, -⟩ | ⟨g, cap, cur, rfl, hb, hg, -⟩⟩ := h
  · exact .inl rfl
  · exact .inr ⟨g, cur, rfl, hb, hg⟩
theorem Own.shape {α : Type} {base e sz : Nat} {cells : α → List Value} {w : World} {v : Value} {l : List α} (h : Own base e sz cells w v l) : ∃ a cap, v = .slice a l.length cap := by
  obtain ⟨-, ⟨rfl, hn⟩ | ⟨g, cap, cur, rfl, -⟩⟩ := h
  · exact ⟨none, 0, by rw [hn]⟩
  · exact ⟨_, _, rfl⟩
theorem Own.gr {α : Type} {base e sz : Nat} {cells : α → List Value} {w w' : World} {v : Value} {l : List α} (h : Own base e sz cells w v l) (g : Gr w w') : Own base e sz cells w' v l :=
  World.ownsRow.kept (row := none) h ⟨g.os, g.tape, g.output, g.size, fun k hk _ => g.block k hk⟩ (by cases v.ownBlock <;> simp)
theorem Own.far {α : Type} {base e sz : Nat} {cells : α → List Value} {w : World} {v : Value} {l : List α} (h : Own base e sz cells w v l) {O : Nat} {T : TypeId} {c : Array Value} {f : Nat × Nat} (hO : w.heap[O]? = some (.cells c T f)) (hne : e ≠ T) : v.ownBlock ≠ some O := by
  intro hv
  rcases h.block with h0 | ⟨g, cur, h1, -, h2⟩
  · rw [h0] at hv; cases hv
  · rw [h1] at hv
    injection hv with hv
    subst hv
    rw [h2] at hO
    injection hO with hO
    injection hO with _ he
    exact hne he
/-- A store into another block of another element type. -/
theorem Own.set {α : Type} {base e sz : Nat} {cells : α → List Value} {w : World} {v : Value} {l : List α} (h : Own base e sz cells w v l) {O i : Nat} {T : TypeId} {c : Array Value} {f : Nat × Nat} (hO : w.heap[O]? = some (.cells c T f)) (hne : e ≠ T) (u : Value) :
    Own base e sz cells (w.setCell ⟨O, i, none⟩ u) v l := by
  have hf := h.far hO hne
  refine World.ownsRow.kept (row := some O) h ⟨rfl, rfl, rfl, by simp [World.setCell], fun k _ hk => Below.heap_setCell w _ u k (fun e => hk (by rw [e]))⟩ ?_
  right; exact hf
/-- Another slice of another element type grows. -/
theorem Own.grown {α β : Type} {base e sz base' e' sz' : Nat} {cells : α → List Value} {cells' : β → List Value} {w w' : World} {v v' : Value} {l : List α} {l' : List β} (h : Own base e sz cells w v l) (h' : Own base' e' sz' cells' w v' l') (hne : e ≠ e')
    (hg : w.grownBy w' v'.ownBlock) : Own base e sz cells w' v l := by
  refine World.ownsRow.kept h hg ?_
  rcases h'.block with h0 | ⟨g, cur, h1, -, h2⟩
  · rw [h0]; cases v.ownBlock <;> simp
  · rw [h1]; right; exact h.far h2 hne
theorem Out.grown {α : Type} {base e sz : Nat} {cells : α → List Value} {T : TypeId} {w w' : World} {O : Nat} {cs : List Value} {v : Value} {l : List α} (h : Out T w O cs) (h' : Own base e sz cells w v l) (hne : e ≠ T) (hg : w.grownBy w' v.ownBlock) : Out T w' O cs := by
  have hf := h'.far h hne
  have hl := Out.lt h
  unfold Out at *
  rw [hg.block O hl (fun e => hf e.symm)]
  exact h
theorem Gr.trans' {a b c : World} (h : Gr a b) (k : Below a.heap.size b c) : Gr a c := Below.trans h k
theorem Gr.grown {α : Type} {base e sz : Nat} {cells : α → List Value} {w0 w w' : World} {v : Value} {l : List α} (h : Gr w0 w) (h' : Own base e sz cells w v l) (hb : w0.heap.size ≤ base) (hg : w.grownBy w' v.ownBlock) : Gr w0 w' := by
  refine Gr.trans' h ⟨hg.os, hg.tape, hg.output, hg.size, fun k hk => hg.block k (Nat.lt_of_lt_of_le hk h.size) ?_⟩
  intro e
  rcases h'.block with h0 | ⟨g, cur, h1, h2, -⟩
  · rw [h0] at e; cases e
  · rw [h1] at e; injection e with e; omega
theorem Out.set_other {T : TypeId} {w : World} {O O' i : Nat} {cs : List Value} {v : Value} (h : Out T w O cs) (hne : O ≠ O') : Out T (w.setCell ⟨O', i, none⟩ v) O cs := by
  unfold Out at *
  rw [Below.heap_setCell w _ v O hne]; exact h
theorem Out.is {T : TypeId} {w : World} {O : Nat} {cs : List Value} (h : Out T w O cs) : w.heap[O]? = some (.cells cs.toArray T (0, 0)) := h
end Go.Proofs.Ytkoopobfelcgpaa
end -- Own
