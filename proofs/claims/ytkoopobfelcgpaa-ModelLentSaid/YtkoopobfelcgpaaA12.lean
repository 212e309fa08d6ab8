/- layer 5: the reference's Same -/
import Derived.Test.YtkoopobfelcgpaaA11
namespace Go.Proofs.Ytkoopobfelcgpaa
open Go.RowKit

set_option maxHeartbeats 2000000 in
theorem Ints_any (l r : List Int) (v u : Value) (w : World) (h : Sl 1 IntAt w v l) (h' : Sl 1 IntAt w u r) :
    Calls Try.prog 49 #[v, u] w fun e w' => e = .returned (.bool (eqL intEq l r)) ∧ ∃ n, w' = w.drewN n := by
  obtain ⟨a, cap, rfl, hlc, hcm, -, hel⟩ := h
  obtain ⟨a', cap', rfl, hlc', hcm', -, hel'⟩ := h'
  unfold maxLen at hcm hcm'
  have H := Lib.hid hel; clear hel
  have H' := Lib.hid hel'; clear hel'
  by_cases hn : l.length = r.length
  case neg =>
    have hn1 : ((l.length : Int) != r.length) = true := by rw [bne_iff_ne]; omega
    have hn2 := Lib.hid (eqL_len intEq l r hn)
    clear hn
    go_enter Try.func49, Try.ntmps49
    go_wp2
    go_ret
    exact ⟨ret_bool hn2.out.symm, 0, rfl⟩
  have hn1 : ((l.length : Int) != r.length) = false := by rw [bne_eq_false_iff_eq]; omega
  have HN := Lib.hid hn
  have hle : r.length ≤ l.length := by omega
  clear hn
  go_enter Try.func49, Try.ntmps49
  go_wp2
  clear hn1
  go_loopg [5] l.length (fun g i wr => ∃ k : Nat, g + k = l.length ∧ i = .int .i64 k ∧ ((l.zip r).take k).all (fun q => intEq q.1 q.2) = true ∧ ∃ n, wr = w.drewN n)
  case atStart => exact ⟨0, by omega, rfl, by simp, 0, rfl⟩
  case round =>
    obtain ⟨k, hk, rfl, hall, nd, rfl⟩ := hrel
    have HA := Lib.hid hall; clear hall
    by_cases hlt : k < l.length
    · have hlt' : k < r.length := by have := HN.out; omega
      obtain ⟨b, o, rfl, hR⟩ := H.out k l[k] (by simp [hlt])
      obtain ⟨b', o', rfl, hR'⟩ := H'.out k r[k] (by simp [hlt'])
      have p0 := hR
      have p0' := hR'
      rw [Nat.mul_one] at p0 p0'
      unfold IntAt at hR hR' p0 p0'
      clear hR hR'
      have hk0 : (0 : Int) ≤ (k : Int) := by omega
      have hk1 : (k : Int) < (l.length : Int) := by omega
      have hk2 : (k : Int) < (r.length : Int) := by omega
      go_wp2
      go_quiet (fail)
      go_wp2
      all_goals (try clear hneq)
      · have hb : intEq l[k] r[k] = false := by grind [intEq]
        go_ret
        exact ⟨ret_bool (eqL_at _ _ _ k l[k] r[k] (by simp [hlt]) (by simp [hlt']) hb).symm, nd + nq, by first | rfl | exact World.drewN_drewN _ _ _⟩
      · have hb : intEq l[k] r[k] = true := by grind [intEq]
        go_roundg (gk - 1)
        case measure => omega
        case rel => exact ⟨k + 1, by omega, by go_num, eqL_step _ _ _ k l[k] r[k] (by simp [hlt]) (by simp [hlt']) HA.out hb, nd + nq, by first | rfl | exact World.drewN_drewN _ _ _⟩
    · go_wp2
      go_ret
      exact ⟨ret_bool (eqL_end _ _ _ k HN.out (by omega) HA.out).symm, _, rfl⟩

theorem Ints_quiet (l r : List Int) (v u : Value) (w : World) (n : Nat) (h : Sl 1 IntAt w v l) (h' : Sl 1 IntAt w u r) :
    Calls Try.prog 49 #[v, u] (w.drewN n) fun e w'' => e = .returned (.bool (eqL intEq l r)) ∧ ∃ m, w'' = w.drewN m :=
  Calls.quiet_of (Ints_any l r v u _ (h.gr IntAt.gr ((Gr.refl _).drewN _)) (h'.gr IntAt.gr ((Gr.refl _).drewN _)))
theorem sameB_bad {a b : PModel} (h : (decide (a.seed = b.seed) && fsame a.fin b.fin) = false ∨ eqL fsame a.delays b.delays = false ∨ eqL initSame a.init b.init = false ∨ eqL (eqL insEq) a.programs b.programs = false ∨ eqL lpSame a.lps b.lps = false) : false = sameB a b := by
  grind [sameB]
theorem len_bad {a b : PModel} (h : ¬ (a.delays.length = b.delays.length ∧ a.programs.length = b.programs.length ∧ a.lps.length = b.lps.length ∧ a.init.length = b.init.length)) : false = sameB a b := by
  apply sameB_bad
  by_cases h1 : a.delays.length = b.delays.length
  · by_cases h2 : a.programs.length = b.programs.length
    · by_cases h3 : a.lps.length = b.lps.length
      · exact .inr (.inr (.inl (eqL_len _ _ _ (by omega))))
      · exact .inr (.inr (.inr (.inr (eqL_len _ _ _ h3))))
    · exact .inr (.inr (.inr (.inl (eqL_len _ _ _ h2))))
  · exact .inr (.inl (eqL_len _ _ _ h1))

set_option maxHeartbeats 16000000 in
set_option maxRecDepth 100000 in
theorem RSame_any (m n : PModel) (vd vp vl vi ud up ul ui : Value) (w : World) (h : ModelAt w vd vp vl vi m) (h' : ModelAt w ud up ul ui n) :
    Calls Try.prog 36 #[.agg #[.int .i64 m.seed, .float .f64 m.fin, vd, vp, vl, vi], .agg #[.int .i64 n.seed, .float .f64 n.fin, ud, up, ul, ui]] w
      fun e w' => e = .returned (.bool (sameB m n)) ∧ Gr w w' := by
  obtain ⟨ad, cd, rfl, hdc, hdm, -, hd⟩ := h.delays
  obtain ⟨ap, cp, rfl, hpc, hpm, -, hp⟩ := h.programs
  obtain ⟨al, cl, rfl, hlc, hlm, -, hl⟩ := h.lps
  obtain ⟨ai, ci, rfl, hic, him, -, hi⟩ := h.init
  obtain ⟨ad', cd', rfl, hdc', hdm', -, hd'⟩ := h'.delays
  obtain ⟨ap', cp', rfl, hpc', hpm', -, hp'⟩ := h'.programs
  obtain ⟨al', cl', rfl, hlc', hlm', -, hl'⟩ := h'.lps
  obtain ⟨ai', ci', rfl, hic', him', -, hi'⟩ := h'.init
  clear h h'
  unfold maxLen at hpm hlm hdm him hpm' hlm' hdm' him'
  have HD := Lib.hid hd; clear hd
  have HP := Lib.hid hp; clear hp
  have HL := Lib.hid hl; clear hl
  have HI := Lib.hid hi; clear hi
  have HD' := Lib.hid hd'; clear hd'
  have HP' := Lib.hid hp'; clear hp'
  have HL' := Lib.hid hl'; clear hl'
  have HI' := Lib.hid hi'; clear hi'
  by_cases hcn : (m.seed = n.seed ∧ fsame m.fin n.fin = true) ∧ (m.delays.length = n.delays.length ∧ m.programs.length = n.programs.length ∧ m.lps.length = n.lps.length ∧ m.init.length = n.init.length)
  case neg =>
    have HCN := Lib.hid hcn
    clear hcn
    go_enter Try.func36, Try.ntmps36
    go_wp2_with (go_at_call 94; refine (Float_any _ _ _).mono ?_; rintro e w' ⟨rfl, rfl⟩)
    all_goals (first
      | (go_ret; exact ⟨ret_bool (by
          have hh := HCN.out
          by_cases g1 : m.seed = n.seed ∧ fsame m.fin n.fin = true
          · exact len_bad (fun g2 => hh ⟨g1, g2⟩)
          · exact sameB_bad (.inl (by grind))), ((Gr.refl _).alloc _).alloc _⟩)
      | (exfalso; have := HCN.out; simp_all; done)
      | (exfalso; have := HCN.out; grind))
  obtain ⟨⟨e1, e2⟩, e3, e4, e5, e6⟩ := hcn
  have c1 : (m.seed != n.seed) = false := by rw [bne_eq_false_iff_eq]; exact e1
  have c3 : ((m.delays.length : Int) != n.delays.length) = false := by rw [bne_eq_false_iff_eq]; omega
  have c4 : ((m.programs.length : Int) != n.programs.length) = false := by rw [bne_eq_false_iff_eq]; omega
  have c5 : ((m.lps.length : Int) != n.lps.length) = false := by rw [bne_eq_false_iff_eq]; omega
  have c6 : ((m.init.length : Int) != n.init.length) = false := by rw [bne_eq_false_iff_eq]; omega
  have E := Lib.hid (show (m.seed = n.seed ∧ fsame m.fin n.fin = true) ∧ (m.delays.length = n.delays.length ∧ m.programs.length = n.programs.length ∧ m.lps.length = n.lps.length ∧ m.init.length = n.init.length) from ⟨⟨e1, e2⟩, e3, e4, e5, e6⟩)
  clear e1 e3 e4 e5 e6
  go_enter Try.func36, Try.ntmps36
  go_wp2_with (go_at_call 94; refine (Float_any _ _ _).mono ?_; rintro e w' ⟨rfl, rfl⟩)
  clear c1 c3 c4 c5 c6 e2
  have hB := Gr.refl ((w.alloc (.cells #[.int .i64 m.seed, .float .f64 m.fin, .slice ad m.delays.length cd, .slice ap m.programs.length cp, .slice al m.lps.length cl, .slice ai m.init.length ci] 28)).alloc
    (.cells #[.int .i64 n.seed, .float .f64 n.fin, .slice ad' n.delays.length cd', .slice ap' n.programs.length cp', .slice al' n.lps.length cl', .slice ai' n.init.length ci'] 28))
  generalize hW : (w.alloc (.cells #[.int .i64 m.seed, .float .f64 m.fin, .slice ad m.delays.length cd, .slice ap m.programs.length cp, .slice al m.lps.length cl, .slice ai m.init.length ci] 28)).alloc
    (.cells #[.int .i64 n.seed, .float .f64 n.fin, .slice ad' n.delays.length cd', .slice ap' n.programs.length cp', .slice al' n.lps.length cl', .slice ai' n.init.length ci'] 28) = W
  have HW := Lib.hid (hW ▸ hB : Gr ((w.alloc (.cells #[.int .i64 m.seed, .float .f64 m.fin, .slice ad m.delays.length cd, .slice ap m.programs.length cp, .slice al m.lps.length cl, .slice ai m.init.length ci] 28)).alloc
    (.cells #[.int .i64 n.seed, .float .f64 n.fin, .slice ad' n.delays.length cd', .slice ap' n.programs.length cp', .slice al' n.lps.length cl', .slice ai' n.init.length ci'] 28)) W)
  clear hW hB
  go_loopg [5] m.delays.length (fun g i wr => ∃ (k : Nat), g + k = m.delays.length ∧ i = .int .i64 k ∧ Gr W wr ∧ ((m.delays.zip n.delays).take k).all (fun q => fsame q.1 q.2) = true)
  case atStart => exact ⟨0, by omega, rfl, Gr.refl _, by simp⟩
  case round =>
    obtain ⟨k, hk, rfl, hgr, hB⟩ := hrel
    have HB := Lib.hid hB; clear hB
    obtain ⟨k1, s1, ⟨p0, p1, p2, p3, p4, p5⟩, ⟨q0, q1, q2, q3, q4, q5⟩⟩ := box66 (HW.out.trans hgr)
    by_cases hlt : k < m.delays.length
    · have hlt' : k < n.delays.length := by have := E.out; omega
      obtain ⟨b, o, rfl, hR⟩ := HD.out k m.delays[k] (by simp [hlt])
      obtain ⟨b', o', rfl, hR'⟩ := HD'.out k n.delays[k] (by simp [hlt'])
      have x0 := k1.cell hR
      have x0' := k1.cell hR'
      rw [Nat.mul_one] at x0 x0'
      clear hR hR' p0 p1 p3 p4 p5 q0 q1 q3 q4 q5
      have z1 : (0 : Int) ≤ (k : Int) := by omega
      have z2 : (k : Int) < (m.delays.length : Int) := by omega
      have z3 : (k : Int) < (n.delays.length : Int) := by omega
      go_wp2
      go_quiet ((go_at_call 94; exact Calls.quiet_of_same ((Float_any _ _ _).mono fun _ _ ⟨h1, h2⟩ => ⟨h1, h2.symm⟩)))
      clear p2 q2 x0 x0' z1 z2 z3
      go_wp2
      · have hb : fsame m.delays[k] n.delays[k] = false := by grind
        go_ret
        exact ⟨ret_bool (sameB_bad (.inr (.inl (eqL_at _ _ _ k m.delays[k] n.delays[k] (by simp [hlt]) (by simp [hlt']) hb)))), k1.drewN _⟩
      · have hb : fsame m.delays[k] n.delays[k] = true := by grind
        go_roundg (m.delays.length - (k + 1))
        case measure => omega
        case rel => exact ⟨k + 1, by omega, by go_num, hgr.drewN _, eqL_step _ _ _ k m.delays[k] n.delays[k] (by simp [hlt]) (by simp [hlt']) HB.out hb⟩
    · have HB1 := Lib.hid (eqL_end _ _ _ k E.out.2.1 (by omega) HB.out)
      have HG1 := Lib.hid hgr
      clear HB
      go_wp2
      clear hgr k1 s1 p0 p1 p2 p3 p4 p5 q0 q1 q2 q3 q4 q5
      go_loopg [6] m.programs.length (fun g i wr2 => ∃ (k : Nat), g + k = m.programs.length ∧ i = .int .i64 k ∧ Gr W wr2 ∧ ((m.programs.zip n.programs).take k).all (fun q => eqL insEq q.1 q.2) = true)
      case atStart => exact ⟨0, by omega, rfl, HG1.out, by simp⟩
      case round =>
        clear hlt hk HG1
        obtain ⟨k, hk, rfl, hgr, hB⟩ := hrel
        have HB := Lib.hid hB; clear hB
        obtain ⟨k1, s1, ⟨p0, p1, p2, p3, p4, p5⟩, ⟨q0, q1, q2, q3, q4, q5⟩⟩ := box66 (HW.out.trans hgr)
        by_cases hlt : k < m.programs.length
        · have hlt' : k < n.programs.length := by have := E.out; omega
          obtain ⟨b, o, rfl, v, hv0, hv⟩ := HP.out k m.programs[k] (by simp [hlt])
          obtain ⟨b', o', rfl, u, hu0, hu⟩ := HP'.out k n.programs[k] (by simp [hlt'])
          have x0 := k1.cell hv0
          have x0' := k1.cell hu0
          rw [Nat.mul_one] at x0 x0'
          obtain ⟨av, cv, rfl, hvc, hvm, -, hve⟩ := hv
          obtain ⟨au, cu, rfl, huc, hum, -, hue⟩ := hu
          unfold maxLen at hvm hum
          have HV := Lib.hid hve
          have HU := Lib.hid hue
          clear hve hue hv0 hu0 p0 p1 p2 p4 p5 q0 q1 q2 q4 q5
          have z1 : (0 : Int) ≤ (k : Int) := by omega
          have z2 : (k : Int) < (m.programs.length : Int) := by omega
          have z3 : (k : Int) < (n.programs.length : Int) := by omega
          by_cases hle : m.programs[k].length = n.programs[k].length
          case neg =>
            have hb := Lib.hid (eqL_len insEq _ _ hle)
            have d1 : ((m.programs[k].length : Int) != n.programs[k].length) = true := by rw [bne_iff_ne]; omega
            clear hle
            go_wp2
            go_quiet (fail)
            go_wp2
            go_ret
            exact ⟨ret_bool (sameB_bad (.inr (.inr (.inr (.inl (eqL_at _ _ _ k m.programs[k] n.programs[k] (by simp [hlt]) (by simp [hlt']) hb.out)))))), k1.drewN _⟩
          have d1 : ((m.programs[k].length : Int) != n.programs[k].length) = false := by rw [bne_eq_false_iff_eq]; omega
          have HE := Lib.hid hle
          have hle2 : n.programs[k].length ≤ m.programs[k].length := by omega
          clear hle
          go_wp2
          go_quiet (fail)
          clear d1
          go_wp2
          have hgr2 := hgr.drewN nq
          have X0 := Lib.hid x0
          have X0' := Lib.hid x0'
          clear p3 q3 x0 x0' k1 s1
          have hh := Gr.refl (wr.drewN nq)
          generalize hWI : wr.drewN nq = WI
          rw [hWI] at hh hgr2
          have hX0 : WI.cell? ⟨b, o + k, none⟩ = some (.slice av m.programs[k].length cv) := by rw [← hWI]; exact X0.out
          have hX0' : WI.cell? ⟨b', o' + k, none⟩ = some (.slice au n.programs[k].length cu) := by rw [← hWI]; exact X0'.out
          clear X0 X0' hWI hgr
          have X0 := Lib.hid hX0
          have X0' := Lib.hid hX0'
          clear hX0 hX0'
          have hstart := Lib.hid (Gr.refl WI)
          go_loopg [7] m.programs[k].length (fun g i wr3 => ∃ (j : Nat), g + j = m.programs[k].length ∧ i = .int .i64 j ∧ Gr WI wr3 ∧ ((m.programs[k].zip n.programs[k]).take j).all (fun q => insEq q.1 q.2) = true)
          case atStart => exact ⟨0, by omega, rfl, hstart.out, by simp⟩
          case round =>
            clear hh
            obtain ⟨j, hj, rfl, hgi, hBi⟩ := hrel
            have HBI := Lib.hid hBi; clear hBi
            have hgr := hgr2.trans hgi
            obtain ⟨k1, s1, ⟨p0, p1, p2, p3, p4, p5⟩, ⟨q0, q1, q2, q3, q4, q5⟩⟩ := box66 (HW.out.trans hgr)
            have x0 := hgi.cell X0.out
            have x0' := hgi.cell X0'.out
            clear p0 p1 p2 p4 p5 q0 q1 q2 q4 q5
            by_cases hjt : j < m.programs[k].length
            · have hjt' : j < n.programs[k].length := by have := HE.out; omega
              obtain ⟨bb, oo, rfl, hR⟩ := HV.out j m.programs[k][j] (by simp [hjt])
              obtain ⟨bb', oo', rfl, hR'⟩ := HU.out j n.programs[k][j] (by simp [hjt'])
              obtain ⟨y0, y1, y2, y3⟩ := InsAt.gr _ _ _ _ _ k1 hR
              obtain ⟨y0', y1', y2', y3'⟩ := InsAt.gr _ _ _ _ _ k1 hR'
              clear hR hR'
              have zz1 : (0 : Int) ≤ (j : Int) := by omega
              have zz2 : (j : Int) < (m.programs[k].length : Int) := by omega
              have zz3 : (j : Int) < (n.programs[k].length : Int) := by omega
              have hneq := run_neq_ins
              go_wp2
              go_quiet (fail)
              clear hneq y0 y1 y2 y3 y0' y1' y2' y3' x0 x0' p3 q3
              go_wp2
              · have hb : insEq m.programs[k][j] n.programs[k][j] = false := by grind
                go_ret
                exact ⟨ret_bool (sameB_bad (.inr (.inr (.inr (.inl (eqL_at _ _ _ k m.programs[k] n.programs[k] (by simp [hlt]) (by simp [hlt']) (eqL_at _ _ _ j m.programs[k][j] n.programs[k][j] (by simp [hjt]) (by simp [hjt']) hb))))))), k1.drewN _⟩
              · have hb : insEq m.programs[k][j] n.programs[k][j] = true := by grind
                go_roundg (m.programs[k].length - (j + 1))
                case measure => omega
                case rel => exact ⟨j + 1, by omega, by go_num, hgi.drewN _, eqL_step _ _ _ j m.programs[k][j] n.programs[k][j] (by simp [hjt]) (by simp [hjt']) HBI.out hb⟩
            · have HBJ := Lib.hid (eqL_end _ _ _ j HE.out (by omega) HBI.out)
              go_wp2
              go_roundg (m.programs.length - (k + 1))
              case measure => omega
              case rel => exact ⟨k + 1, by omega, by go_num, hgr, eqL_step _ _ _ k m.programs[k] n.programs[k] (by simp [hlt]) (by simp [hlt']) HB.out HBJ.out⟩
        · have HB2 := Lib.hid (eqL_end _ _ _ k E.out.2.2.1 (by omega) HB.out)
          have HG1 := Lib.hid hgr
          clear HB
          go_wp2
          clear hgr k1 s1 p0 p1 p2 p3 p4 p5 q0 q1 q2 q3 q4 q5
          go_loopg [8] m.lps.length (fun g i wr4 => ∃ (k : Nat), g + k = m.lps.length ∧ i = .int .i64 k ∧ Gr W wr4 ∧ ((m.lps.zip n.lps).take k).all (fun q => lpSame q.1 q.2) = true)
          case atStart => exact ⟨0, by omega, rfl, HG1.out, by simp⟩
          case round =>
            clear hlt hk HG1
            obtain ⟨k, hk, rfl, hgr, hB⟩ := hrel
            have HB := Lib.hid hB; clear hB
            obtain ⟨k1, s1, ⟨p0, p1, p2, p3, p4, p5⟩, ⟨q0, q1, q2, q3, q4, q5⟩⟩ := box66 (HW.out.trans hgr)
            by_cases hlt : k < m.lps.length
            · have hlt' : k < n.lps.length := by have := E.out; omega
              obtain ⟨b, o, rfl, hv1, v, hv0, hv⟩ := HL.out k m.lps[k] (by simp [hlt])
              obtain ⟨b', o', rfl, hu1, u, hu0, hu⟩ := HL'.out k n.lps[k] (by simp [hlt'])
              have x0 := k1.cell hv0
              have x0' := k1.cell hu0
              have x1 := k1.cell hv1
              have x1' := k1.cell hu1
              have HV := Lib.hid (hv.gr IntAt.gr k1)
              have HU := Lib.hid (hu.gr IntAt.gr k1)
              clear hv hu hv0 hu0 hv1 hu1 p0 p1 p2 p3 p5 q0 q1 q2 q3 q5
              have z1 : (0 : Int) ≤ (k : Int) := by omega
              have z2 : (k : Int) < (m.lps.length : Int) := by omega
              have z3 : (k : Int) < (n.lps.length : Int) := by omega
              by_cases hle : m.lps[k].prog = n.lps[k].prog
              case neg =>
                have hb : lpSame m.lps[k] n.lps[k] = false := by simp [lpSame, hle]
                have HBB := Lib.hid hb
                have d1 : (m.lps[k].prog != n.lps[k].prog) = true := by rw [bne_iff_ne]; exact hle
                clear hle hb
                go_wp2
                go_quiet (fail)
                go_wp2
                go_ret
                exact ⟨ret_bool (sameB_bad (.inr (.inr (.inr (.inr (eqL_at _ _ _ k m.lps[k] n.lps[k] (by simp [hlt]) (by simp [hlt']) HBB.out)))))), k1.drewN _⟩
              have d1 : (m.lps[k].prog != n.lps[k].prog) = false := by rw [bne_eq_false_iff_eq]; exact hle
              have HE := Lib.hid hle
              clear hle
              go_wp2
              go_quiet ((go_at_call 49; exact Ints_quiet m.lps[k].words n.lps[k].words _ _ _ _ HV.out HU.out))
              clear d1 x0 x0' x1 x1' p4 q4 z1 z2 z3
              go_wp2
              · have hb : lpSame m.lps[k] n.lps[k] = false := by have := HE.out; grind [lpSame]
                go_ret
                exact ⟨ret_bool (sameB_bad (.inr (.inr (.inr (.inr (eqL_at _ _ _ k m.lps[k] n.lps[k] (by simp [hlt]) (by simp [hlt']) hb)))))), k1.drewN _⟩
              · have hb : lpSame m.lps[k] n.lps[k] = true := by have := HE.out; grind [lpSame]
                go_roundg (m.lps.length - (k + 1))
                case measure => omega
                case rel => exact ⟨k + 1, by omega, by go_num, hgr.drewN _, eqL_step _ _ _ k m.lps[k] n.lps[k] (by simp [hlt]) (by simp [hlt']) HB.out hb⟩
            · have HB3 := Lib.hid (eqL_end _ _ _ k E.out.2.2.2.1 (by omega) HB.out)
              have HG1 := Lib.hid hgr
              clear HB
              go_wp2
              clear hgr k1 s1 p0 p1 p2 p3 p4 p5 q0 q1 q2 q3 q4 q5
              go_loopg [9] m.init.length (fun g i wr5 => ∃ (k : Nat), g + k = m.init.length ∧ i = .int .i64 k ∧ Gr W wr5 ∧ ((m.init.zip n.init).take k).all (fun q => initSame q.1 q.2) = true)
              case atStart => exact ⟨0, by omega, rfl, HG1.out, by simp⟩
              case round =>
                clear hlt hk HG1
                obtain ⟨k, hk, rfl, hgr, hB⟩ := hrel
                have HB := Lib.hid hB; clear hB
                obtain ⟨k1, s1, ⟨p0, p1, p2, p3, p4, p5⟩, ⟨q0, q1, q2, q3, q4, q5⟩⟩ := box66 (HW.out.trans hgr)
                by_cases hlt : k < m.init.length
                · have hlt' : k < n.init.length := by have := E.out; omega
                  obtain ⟨b, o, rfl, hR⟩ := HI.out k m.init[k] (by simp [hlt])
                  obtain ⟨b', o', rfl, hR'⟩ := HI'.out k n.init[k] (by simp [hlt'])
                  obtain ⟨y0, y1, y2⟩ := InitAt.gr _ _ _ _ _ k1 hR
                  obtain ⟨y0', y1', y2'⟩ := InitAt.gr _ _ _ _ _ k1 hR'
                  clear hR hR' p0 p1 p2 p3 p4 q0 q1 q2 q3 q4
                  have z1 : (0 : Int) ≤ (k : Int) := by omega
                  have z2 : (k : Int) < (m.init.length : Int) := by omega
                  have z3 : (k : Int) < (n.init.length : Int) := by omega
                  by_cases hf : fsame m.init[k].t n.init[k].t = true
                  case neg =>
                    have hf' : fsame m.init[k].t n.init[k].t = false := by simpa using hf
                    clear hf
                    have hb := Lib.hid (show initSame m.init[k] n.init[k] = false by simp [initSame, hf'])
                    go_wp2
                    go_quiet ((go_at_call 94; exact Calls.quiet_of_same ((Float_any _ _ _).mono fun _ _ ⟨h1, h2⟩ => ⟨by rw [h1, hf'], h2.symm⟩)))
                    go_wp2
                    go_ret
                    exact ⟨ret_bool (sameB_bad (.inr (.inr (.inl (eqL_at _ _ _ k m.init[k] n.init[k] (by simp [hlt]) (by simp [hlt']) hb.out))))), k1.drewN _⟩
                  have HF := Lib.hid hf
                  clear hf
                  by_cases hd : m.init[k].dst = n.init[k].dst
                  case neg =>
                    have hb := Lib.hid (show initSame m.init[k] n.init[k] = false by simp [initSame, hd])
                    have d1 : (m.init[k].dst != n.init[k].dst) = true := by rw [bne_iff_ne]; exact hd
                    clear hd
                    go_wp2
                    go_quiet ((go_at_call 94; exact Calls.quiet_of_same ((Float_any _ _ _).mono fun _ _ ⟨h1, h2⟩ => ⟨by rw [h1, HF.out], h2.symm⟩)))
                    go_wp2
                    go_ret
                    exact ⟨ret_bool (sameB_bad (.inr (.inr (.inl (eqL_at _ _ _ k m.init[k] n.init[k] (by simp [hlt]) (by simp [hlt']) hb.out))))), k1.drewN _⟩
                  have d1 : (m.init[k].dst != n.init[k].dst) = false := by rw [bne_eq_false_iff_eq]; exact hd
                  have HDD := Lib.hid hd
                  clear hd
                  go_wp2
                  go_quiet ((go_at_call 94; exact Calls.quiet_of_same ((Float_any _ _ _).mono fun _ _ ⟨h1, h2⟩ => ⟨by rw [h1, HF.out], h2.symm⟩)))
                  clear d1 y0 y1 y2 y0' y1' y2' p5 q5 z1 z2 z3
                  go_wp2
                  · have hb : initSame m.init[k] n.init[k] = false := by grind [initSame]
                    go_ret
                    exact ⟨ret_bool (sameB_bad (.inr (.inr (.inl (eqL_at _ _ _ k m.init[k] n.init[k] (by simp [hlt]) (by simp [hlt']) hb))))), k1.drewN _⟩
                  · have hb : initSame m.init[k] n.init[k] = true := by have := HF.out; have := HDD.out; grind [initSame]
                    go_roundg (m.init.length - (k + 1))
                    case measure => omega
                    case rel => exact ⟨k + 1, by omega, by go_num, hgr.drewN _, eqL_step _ _ _ k m.init[k] n.init[k] (by simp [hlt]) (by simp [hlt']) HB.out hb⟩
                · have HB4 := Lib.hid (eqL_end _ _ _ k E.out.2.2.2.2 (by omega) HB.out)
                  go_wp2
                  go_ret
                  exact ⟨ret_bool (by rw [sameB, E.out.1.2, HB1.out, HB2.out, HB3.out, HB4.out, decide_eq_true E.out.1.1]; rfl), k1⟩
end Go.Proofs.Ytkoopobfelcgpaa
