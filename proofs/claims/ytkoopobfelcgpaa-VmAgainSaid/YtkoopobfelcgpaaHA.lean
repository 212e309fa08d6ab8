/- layer 7: all steps -/
import Derived.Test.YtkoopobfelcgpaaH8
import Derived.Test.YtkoopobfelcgpaaH9
set_option linter.unusedSimpArgs false
set_option linter.unusedVariables false
namespace Go.Proofs.Ytkoopobfelcgpaa
open Go.RowKit

section
variable {F : Option Nat} {b : Nat} {w : World} {B : Nat} {vp : Value} {lps z : Int} {r : VR} {D : Nat} {vw vs : Value} {w0 : World} {p : List PIns}
theorem stepGo_any (h : RunAt F w0.heap.size w B vp lps z r D vw vs) (hw0 : Gr w0 w) (hp : Sl 4 InsAt w0 vp p) (hm : r.may p) (hok : okIns p) (hwf : r.wf) (h0 : (stepV p lps z r).1 = 0) (hc : (stepV p lps z r).2.1 = true) :
    Calls Try.prog 163 #[.pointer (some ⟨B, 0, none⟩)] w fun e w' => e = .returned (.bool true) ∧ Gr w0 w' ∧ ∃ vs', RunAt F w0.heap.size w' B vp lps z (stepV p lps z r).2.2 D vw vs' :=
  (step_any7 h hw0 hp hm hok hwf).mono fun e w' ⟨h1, h2, h3⟩ => ⟨by rw [h1, if_pos h0, hc], h2, h3⟩
theorem stepStop_any (h : RunAt F w0.heap.size w B vp lps z r D vw vs) (hw0 : Gr w0 w) (hp : Sl 4 InsAt w0 vp p) (hm : r.may p) (hok : okIns p) (hwf : r.wf) (h0 : (stepV p lps z r).1 = 0) (hc : (stepV p lps z r).2.1 = false) :
    Calls Try.prog 163 #[.pointer (some ⟨B, 0, none⟩)] w fun e w' => e = .returned (.bool false) ∧ Gr w0 w' ∧ ∃ vs', RunAt F w0.heap.size w' B vp lps z (stepV p lps z r).2.2 D vw vs' :=
  (step_any7 h hw0 hp hm hok hwf).mono fun e w' ⟨h1, h2, h3⟩ => ⟨by rw [h1, if_pos h0, hc], h2, h3⟩
theorem stepFault_any (h : RunAt F w0.heap.size w B vp lps z r D vw vs) (hw0 : Gr w0 w) (hp : Sl 4 InsAt w0 vp p) (hm : r.may p) (hok : okIns p) (hwf : r.wf) (h0 : ¬ (stepV p lps z r).1 = 0) :
    Calls Try.prog 163 #[.pointer (some ⟨B, 0, none⟩)] w fun e w' => e = faultP (stepV p lps z r).1 ∧ Gr w0 w' ∧ ∃ vs', RunAt F w0.heap.size w' B vp lps z (stepV p lps z r).2.2 D vw vs' :=
  (step_any7 h hw0 hp hm hok hwf).mono fun e w' ⟨h1, h2, h3⟩ => ⟨by rw [h1, if_neg h0], h2, h3⟩
theorem RunAt.withF (h : RunAt none b w B vp lps z r D vw vs) {k : Nat} {c : Array Value} (hk : w.heap[k]? = some (.cells c 3 (0, 0))) (hc : 0 < c.size) (hne : vw.ownBlock ≠ some k) : RunAt (some k) b w B vp lps z r D vw vs :=
  ⟨h.g8, h.bB, h.bD, h.out, h.dice, h.words, h.sent, fun j hj => by injection hj with hj; subst hj; exact ⟨c, hk, hc⟩, fun j hj => by injection hj with hj; subst hj; exact hne⟩
theorem RunAt.dropF (h : RunAt F b w B vp lps z r D vw vs) : RunAt none b w B vp lps z r D vw vs :=
  ⟨h.g8, h.bB, h.bD, h.out, h.dice, h.words, h.sent, IntBlk.none, fun k hk => by cases hk⟩
/-- the protected block is written -/
theorem RunAt.setF {k : Nat} (h : RunAt (some k) b w B vp lps z r D vw vs) (u : Value) : RunAt none b (w.setCell ⟨k, 0, none⟩ u) B vp lps z r D vw vs := by
  obtain ⟨c, hc, h0⟩ := h.intF k rfl
  have n1 : B ≠ k := by
    intro e; subst e
    have a1 := h.out.is
    rw [hc] at a1
    injection a1 with a1; injection a1 with _ a1; exact absurd a1 (by decide)
  have n2 : D ≠ k := by
    intro e; subst e
    have a1 := h.dice.is
    rw [hc] at a1
    injection a1 with a1; injection a1 with _ a1; exact absurd a1 (by decide)
  refine ⟨h.g8, h.bB, h.bD, h.out.set_other n1, h.dice.set_other n2, ?_, h.sent.set hc (by decide) _, IntBlk.none, fun k hk => by cases hk⟩
  exact World.ownsRow.kept (row := some k) h.words ⟨rfl, rfl, rfl, by simp [World.setCell], fun j _ hj => Below.heap_setCell w _ u j (fun e => hj (by rw [e]))⟩ (.inr (h.neF k rfl))
theorem runV_go {k : Nat} {r : VR} {R : Int × VR} (h : runV p lps z (k + 1) r = R) (h0 : (stepV p lps z r).1 = 0) (hc : (stepV p lps z r).2.1 = true) : runV p lps z k (stepV p lps z r).2.2 = R := by
  rw [← h]; show _ = if _ then _ else _
  rw [if_pos h0, if_pos hc]
theorem runV_stop {k : Nat} {r : VR} {R : Int × VR} (h : runV p lps z (k + 1) r = R) (h0 : (stepV p lps z r).1 = 0) (hc : (stepV p lps z r).2.1 = false) : R = (0, (stepV p lps z r).2.2) := by
  rw [← h]; show (if _ then _ else _) = _
  rw [if_pos h0, if_neg (by rw [hc]; decide)]
theorem runV_bad {k : Nat} {r : VR} {R : Int × VR} (h : runV p lps z (k + 1) r = R) (h0 : ¬ (stepV p lps z r).1 = 0) : R = ((stepV p lps z r).1, (stepV p lps z r).2.2) := by
  rw [← h]; show (if _ then _ else _) = _
  rw [if_neg h0]
set_option maxHeartbeats 2000000 in
set_option maxRecDepth 100000 in
theorem all_any (h : RunAt none w0.heap.size w B vp lps z r D vw vs) (hw0 : Gr w0 w) (hp : Sl 4 InsAt w0 vp p) (hm : r.may p) (hok : okIns p) (hi : insI p) (hwf : r.wf) :
    Calls Try.prog 130 #[.pointer (some ⟨B, 0, none⟩)] w fun e w' => e = .returned (.int .i64 (runV p lps z 122 r).1) ∧ Gr w0 w' ∧ ∃ vs', RunAt none w0.heap.size w' B vp lps z (runV p lps z 122 r).2 D vw vs' := by
  have hmf : ∀ (fn : Fn) (first cap : Array Value) (w : World), (Instr.makeFunc fn first cap).run Try.prog w = .ok (.func fn first cap) w := fun _ _ _ _ => rfl
  have HP := Lib.hid hp
  have HOK := Lib.hid hok
  have HI := Lib.hid hi
  have H := Lib.hid h
  have HW := Lib.hid hw0
  have HM := Lib.hid hm
  have HWF := Lib.hid hwf
  clear h hw0 hp hm hok hi hwf
  obtain ⟨R, hR⟩ : ∃ R, R = runV p lps z 122 r := ⟨_, rfl⟩
  have HR := Lib.hid hR
  rw [← hR]
  clear hR
  go_enter_defers Try.func130, Try.ntmps130
  go_wp2
  have hwb : w0.heap.size ≤ w.heap.size := HW.out.size
  have hlit : (w.alloc (.cells #[.int .i64 0] 3)).heap[w.heap.size]? = some (.cells #[.int .i64 0] 3 (0, 0)) := (Out.new (w := w) (T := 3) (cs := [.int .i64 0])).is
  have hnew : vw.ownBlock ≠ some w.heap.size := fun e => by
    have := (H.out.words.lt _ e).2
    omega
  have HL := Lib.hid ((H.out.gr ((Gr.refl w).alloc (.cells #[.int .i64 0] 3))).withF hlit (by decide) hnew)
  clear hlit
  go_loopg [] (122 - r.n).toNat (fun g wr => ∃ (r' : VR) (vs' : Value) (k : Nat), g = (122 - r'.n).toNat ∧ 122 ≤ k + r'.n ∧ runV p lps z k r' = R ∧ r'.may p ∧ r'.wf ∧ Gr w0 wr ∧ RunAt (some w.heap.size) w0.heap.size wr B vp lps z r' D vw vs')
  case atStart => exact ⟨r, vs, 122, rfl, by have := HM.out.n0; omega, HR.out.symm, HM.out, HWF.out, HW.out.alloc _, HL.out⟩
  case round =>
    obtain ⟨r', vs', k, hk, hk2, hrun, hm', hwf', hg', hr'⟩ := hrel
    have HK := Lib.hid hk
    have HK2 := Lib.hid hk2
    have HRUN := Lib.hid hrun
    have HM' := Lib.hid hm'
    have HWF' := Lib.hid hwf'
    have HG' := Lib.hid hg'
    have HR' := Lib.hid hr'
    clear hk hk2 hrun hm' hwf' hg' hr'
    obtain ⟨k, rfl⟩ : ∃ j, k = j + 1 := ⟨k - 1, by have := HK2.out; have := HM'.out.n1; omega⟩
    have hwB : w0.heap.size ≤ w.heap.size := hwb
    by_cases h0 : (stepV p lps z r').1 = 0
    · cases hc : (stepV p lps z r').2.1
      · have H0 := Lib.hid h0
        have HC := Lib.hid hc
        have HE := Lib.hid (runV_stop HRUN.out h0 hc)
        clear h0 hc
        go_wp2_with (go_at_call 163
                     refine (stepStop_any HR'.out HG'.out HP.out HM'.out HOK.out HWF'.out H0.out HC.out).mono ?_
                     rintro e w1 ⟨rfl, hg1, vs1, hr1⟩
                     obtain ⟨⟨fv, fc⟩, ff⟩ := hr1.intF.cell
                     have HG1 := Lib.hid hg1
                     have HR1 := Lib.hid hr1
                     clear hg1 hr1)
        refine leaves_cons (f := 162) (args := #[.pointer (some ⟨w.heap.size, 0, none⟩)]) (by simp) (by simp [go_sem]) ?_
        refine (catch_idle _ _).mono ?_
        rintro e u' w2 ⟨rfl, rfl, rfl⟩
        have cz := cell_set_same (v := .int .i64 0) fc
        simp [Leaves, settle, results, Try.results130, go_sem, cz]
        exact ⟨by rw [HE.out], HG1.out.setCell (p := ⟨w.heap.size, 0, none⟩) hwB _, _, by rw [HE.out]; exact HR1.out.setF _⟩
      · have H0 := Lib.hid h0
        have HC := Lib.hid hc
        have HE := Lib.hid (runV_go HRUN.out h0 hc)
        have HS := Lib.hid (step_inv HOK.out HI.out HM'.out HWF'.out h0 hc)
        clear h0 hc
        go_wp2_with (go_at_call 163; refine (stepGo_any HR'.out HG'.out HP.out HM'.out HOK.out HWF'.out H0.out HC.out).mono ?_; rintro e w1 ⟨rfl, hg1, vs1, hr1⟩; have HG1 := Lib.hid hg1; have HR1 := Lib.hid hr1; clear hg1 hr1)
        go_roundg (gk - 1)
        case measure => have := HK.out; have := HM'.out.n1; omega
        case rel => exact ⟨_, vs1, k, by have := HK.out; have := HS.out.2.2; have := HM'.out.n1; omega, by have := HS.out.2.2; have := HK2.out; omega, HE.out, HS.out.2.1, HS.out.1, HG1.out, HR1.out⟩
    · have H0 := Lib.hid h0
      have HE := Lib.hid (runV_bad HRUN.out h0)
      clear h0
      go_wp2_with (go_at_call 163
                   refine (stepFault_any HR'.out HG'.out HP.out HM'.out HOK.out HWF'.out H0.out).mono ?_
                   rintro e w1 ⟨rfl, hg1, vs1, hr1⟩
                   obtain ⟨⟨fv, fc⟩, ff⟩ := hr1.intF.cell
                   have HG1 := Lib.hid hg1
                   have HR1 := Lib.hid hr1
                   clear hg1 hr1)
      refine leaves_cons (f := 162) (args := #[.pointer (some ⟨w.heap.size, 0, none⟩)]) (by simp) (by simp [go_sem]) ?_
      refine (catch_panicking ⟨w.heap.size, 0, none⟩ fv (stepV p lps z r').1 [] _ fc ff).mono ?_
      rintro e u' w2 ⟨rfl, rfl, rfl⟩
      have cz := cell_set_same (v := .int .i64 (stepV p lps z r').1) fc
      simp [Leaves, settle, results, Try.results130, go_sem, cz]
      exact ⟨by rw [HE.out], HG1.out.setCell (p := ⟨w.heap.size, 0, none⟩) hwB _, _, by rw [HE.out]; exact HR1.out.setF _⟩
end
end Go.Proofs.Ytkoopobfelcgpaa
