/- layer 5: models as they lie in memory; counts -/
import Derived.Test.YtkoopobfelcgpaaA4
namespace Go.Proofs.Ytkoopobfelcgpaa
open Go.RowKit

structure PLP where
  prog : Int
  words : List Int
deriving DecidableEq
structure PInit where
  t : Nat
  dst : Int
  pay : Int
deriving DecidableEq
structure PModel where
  seed : Int
  fin : Nat
  delays : List Nat
  programs : List (List PIns)
  lps : List PLP
  init : List PInit

def SlAt {α : Type} (sz : Nat) (R : World → Nat → Nat → α → Prop) (w : World) (b o : Nat) (l : List α) : Prop := ∃ v, w.cell? ⟨b, o, none⟩ = some v ∧ Sl sz R w v l
theorem SlAt.gr {α : Type} {sz : Nat} {R : World → Nat → Nat → α → Prop} (hs : Stays R) : Stays (SlAt sz R) := fun _ _ _ _ _ g ⟨v, h1, h2⟩ => ⟨v, g.cell h1, h2.gr hs g⟩
def LPAt (w : World) (b o : Nat) (x : PLP) : Prop := w.cell? ⟨b, o, none⟩ = some (.int .i64 x.prog) ∧ SlAt 1 IntAt w b (o + 1) x.words
theorem LPAt.gr : Stays LPAt := fun _ _ _ _ _ g h => ⟨g.cell h.1, SlAt.gr IntAt.gr _ _ _ _ _ g h.2⟩
def InitAt (w : World) (b o : Nat) (x : PInit) : Prop := w.cell? ⟨b, o, none⟩ = some (.float .f64 x.t) ∧ w.cell? ⟨b, o + 1, none⟩ = some (.int .i64 x.dst) ∧ w.cell? ⟨b, o + 2, none⟩ = some (.int .i64 x.pay)
theorem InitAt.gr : Stays InitAt := fun _ _ _ _ _ g h => ⟨g.cell h.1, g.cell h.2.1, g.cell h.2.2⟩

/-- The four lists of a model. -/
structure ModelAt (w : World) (vd vp vl vi : Value) (m : PModel) : Prop where
  delays : Sl 1 FloatAt w vd m.delays
  programs : Sl 1 (SlAt 4 InsAt) w vp m.programs
  lps : Sl 2 LPAt w vl m.lps
  init : Sl 3 InitAt w vi m.init
theorem ModelAt.gr {w w' : World} {vd vp vl vi : Value} {m : PModel} (g : Gr w w') (h : ModelAt w vd vp vl vi m) : ModelAt w' vd vp vl vi m :=
  ⟨h.delays.gr FloatAt.gr g, h.programs.gr (SlAt.gr InsAt.gr) g, h.lps.gr LPAt.gr g, h.init.gr InitAt.gr g⟩

def countsB (m : PModel) : Bool := (decide (1 ≤ m.lps.length) && decide (m.lps.length ≤ 6)) && ((decide (1 ≤ m.programs.length) && decide (m.programs.length ≤ 4)) && ((decide (1 ≤ m.delays.length) && decide (m.delays.length ≤ 8)) && decide (m.init.length ≤ 16)))

theorem withinB_nat (n a b : Nat) : withinB (n : Int) (a : Int) (b : Int) = (decide (a ≤ n) && decide (n ≤ b)) := by simp [withinB]

theorem counts_any (m : PModel) (vd vp vl vi : Value) (w : World) (h : ModelAt w vd vp vl vi m) :
    Calls Try.prog 79 #[.agg #[.int .i64 m.seed, .float .f64 m.fin, vd, vp, vl, vi]] w fun e w' => e = .returned (.bool (countsB m)) ∧ Gr w w' := by
  obtain ⟨ad, cd, rfl, -⟩ := h.delays
  obtain ⟨ap, cp, rfl, -⟩ := h.programs
  obtain ⟨al, cl, rfl, -⟩ := h.lps
  obtain ⟨ai, ci, rfl, -⟩ := h.init
  clear h
  go_enter Try.func79, Try.ntmps79
  go_wp2_with (go_at_call 82; refine (within_any _ _ _ _).mono ?_; rintro e w' ⟨rfl, rfl⟩)
  all_goals (go_ret; exact ⟨ret_bool (by grind [withinB, countsB]), (Gr.refl _).alloc _⟩)

def lightB (a b c d e f : Nat) (m : PModel) : Bool := decide (m.programs.length ≤ a) && decide (m.lps.length ≤ b) && decide (m.delays.length ≤ c) && decide (m.init.length ≤ d) &&
  m.programs.all (fun p => decide (p.length ≤ e)) && m.lps.all (fun x => decide (x.words.length ≤ f))

set_option maxHeartbeats 1000000 in
theorem light5_any (m : PModel) (vd vp vl vi : Value) (w : World) (h : ModelAt w vd vp vl vi m) :
    Calls Try.prog 30 #[.agg #[.int .i64 m.seed, .float .f64 m.fin, vd, vp, vl, vi]] w fun e w' => e = .returned (.bool (lightB 20 40 60 60 200 100 m)) ∧ Gr w w' := by
  obtain ⟨ad, cd, rfl, -⟩ := h.delays
  obtain ⟨ap, cp, rfl, hpc, hpm, -, hp⟩ := h.programs
  obtain ⟨al, cl, rfl, hlc, hlm, -, hl⟩ := h.lps
  obtain ⟨ai, ci, rfl, -⟩ := h.init
  clear h
  unfold maxLen at hpm hlm
  have HP := Lib.hid hp; clear hp
  have HL := Lib.hid hl; clear hl
  go_enter Try.func30, Try.ntmps30
  go_wp2
  all_goals (try (go_ret; exact ⟨ret_bool (by grind [lightB]), (Gr.refl _).alloc _⟩))
  have C0 := Lib.hid (show (m.programs.length ≤ 20 ∧ m.lps.length ≤ 40) ∧ m.delays.length ≤ 60 ∧ m.init.length ≤ 60 by omega)
  go_loopg [3] m.programs.length (fun g i wr => ∃ k : Nat, g + k = m.programs.length ∧ i = .int .i64 k ∧ (m.programs.take k).all (fun p => decide (p.length ≤ 200)) = true ∧
    Gr (w.alloc (.cells #[.int .i64 m.seed, .float .f64 m.fin, .slice ad m.delays.length cd, .slice ap m.programs.length cp, .slice al m.lps.length cl, .slice ai m.init.length ci] 28)) wr)
  case atStart => exact ⟨0, by omega, rfl, by simp, Gr.refl _⟩
  case round =>
    obtain ⟨k, hk, rfl, hall, hg⟩ := hrel
    have HA := Lib.hid hall; clear hall
    have hcp : wr.cell? ⟨w.heap.size, 3, none⟩ = some (.slice ap m.programs.length cp) := hg.cell (by simp)
    have hcl : wr.cell? ⟨w.heap.size, 4, none⟩ = some (.slice al m.lps.length cl) := hg.cell (by simp)
    have hg0 : Gr w wr := Gr.trans ((Gr.refl w).alloc _) hg
    by_cases hlt : k < m.programs.length
    · obtain ⟨b, o, rfl, v, hv, a', c', rfl, -⟩ := HP.out k m.programs[k] (by simp [hlt])
      rw [Nat.mul_one] at hv
      have hv' := hg0.cell hv
      clear hv
      go_wp2
      · have hb : decide (m.programs[k].length ≤ 200) = false := by grind
        go_ret
        exact ⟨ret_bool (by have := all_false (fun p : List PIns => decide (p.length ≤ 200)) m.programs k m.programs[k] (by simp [hlt]) hb; simp [lightB, this]), hg0⟩
      · have hb : decide (m.programs[k].length ≤ 200) = true := by grind
        go_roundg (gk - 1)
        case measure => omega
        case rel => exact ⟨k + 1, by omega, by go_num, all_take_succ _ m.programs k m.programs[k] (by simp [hlt]) HA.out hb, hg⟩
    · have hw := all_whole _ m.programs k (by omega) HA.out
      have HW := Lib.hid hw; clear hw
      go_wp2
      go_loopg [4] m.lps.length (fun g i wr => ∃ k : Nat, g + k = m.lps.length ∧ i = .int .i64 k ∧ (m.lps.take k).all (fun x => decide (x.words.length ≤ 100)) = true ∧
        Gr (w.alloc (.cells #[.int .i64 m.seed, .float .f64 m.fin, .slice ad m.delays.length cd, .slice ap m.programs.length cp, .slice al m.lps.length cl, .slice ai m.init.length ci] 28)) wr)
      case atStart => exact ⟨0, by omega, rfl, by simp, hg⟩
      case round =>
        clear hg hg0 hcp hcl
        obtain ⟨j, hj, rfl, hall, hg⟩ := hrel
        have HB := Lib.hid hall; clear hall
        have hcl : wr.cell? ⟨w.heap.size, 4, none⟩ = some (.slice al m.lps.length cl) := hg.cell (by simp)
        have hg0 : Gr w wr := Gr.trans ((Gr.refl w).alloc _) hg
        by_cases hlt : j < m.lps.length
        · obtain ⟨b, o, rfl, hpr, v, hv, a', c', rfl, -⟩ := HL.out j m.lps[j] (by simp [hlt])
          have hv' := hg0.cell hv
          clear hv hpr
          go_wp2
          · have hb : decide (m.lps[j].words.length ≤ 100) = false := by grind
            go_ret
            exact ⟨ret_bool (by have := all_false (fun x : PLP => decide (x.words.length ≤ 100)) m.lps j m.lps[j] (by simp [hlt]) hb; simp [lightB, this]), hg0⟩
          · have hb : decide (m.lps[j].words.length ≤ 100) = true := by grind
            go_roundg (gk - 1)
            case measure => omega
            case rel => exact ⟨j + 1, by omega, by go_num, all_take_succ _ m.lps j m.lps[j] (by simp [hlt]) HB.out hb, hg⟩
        · have hw := all_whole _ m.lps j (by omega) HB.out
          have HW2 := Lib.hid hw; clear hw
          go_wp2
          go_ret
          exact ⟨ret_bool (by rw [lightB, HW.out, HW2.out]; have := C0.out; simp; omega), hg0⟩
end Go.Proofs.Ytkoopobfelcgpaa
