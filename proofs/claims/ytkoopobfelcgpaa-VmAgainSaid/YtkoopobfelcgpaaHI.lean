/- layer 7: the reference's whole run -/
import Derived.Test.YtkoopobfelcgpaaHH
import Derived.Test.YtkoopobfelcgpaaHE
set_option linter.unusedSimpArgs false
set_option linter.unusedVariables false
namespace Go.Proofs.Ytkoopobfelcgpaa
open Go.RowKit
theorem Own.emptyLit (W : World) (b : Nat) (hb : b ≤ W.heap.size) : Own b 3 1 intC (W.alloc (.cells #[] 3)) (.slice (some ⟨W.heap.size, 0, none⟩) 0 0) [] :=
  World.ownsRow_lit (size := 1) W #[] 0 hb (by unfold maxLen; omega) rfl
theorem Out.grownNe {T : TypeId} {w w' : World} {O : Nat} {cs : List Value} {v : Value} (h : Out T w O cs) (hne : v.ownBlock ≠ some O) (hg : w.grownBy w' v.ownBlock) : Out T w' O cs := by
  have hl := h.lt
  unfold Out at *
  rw [hg.block O hl (fun e => hne e.symm)]; exact h
theorem lie_ne {v v' : Value} {k n g : Nat} (hv : v.ownBlock = some k) (h : v'.ownBlock = v.ownBlock ∨ v'.ownBlock = some n) (h1 : k ≠ g) (h2 : n ≠ g) : v'.ownBlock ≠ some g := by
  intro e
  rcases h with h | h
  · rw [h, hv] at e; injection e with e; exact h1 e
  · rw [h] at e; injection e with e; exact h2 e
theorem RRun.lower {b b' : Nat} {w : World} {B : Nat} {r : VR} {f : Int} {gb : Nat} {vw vs : Value} (h : RRun b w B r f gb vw vs) (hb : b' ≤ b) : RRun b' w B r f gb vw vs :=
  ⟨h.g8, Nat.le_trans hb h.bB, Nat.le_trans hb h.bG, h.out, h.G, h.words.lower hb, h.ne, h.sent.lower hb⟩
def regs0 (i : PIn) : List Value := [.int .i64 i.pay, .int .i64 i.me, .int .i64 i.lps, .int .i64 i.words.length, .int .i64 0, .int .i64 0, .int .i64 0, .int .i64 0]
theorem rstart_at {b gb : Nat} {W : World} {v : Value} {i : PIn} (hb : b ≤ W.heap.size) (hgb : b ≤ gb) (G : Out 3 W gb (regs0 i)) (ne : v.ownBlock ≠ some gb) (o : Own b 3 1 intC W v i.words) :
    RRun b (W.alloc (.cells #[.slice (some ⟨gb, 0, none⟩) 8 8, v, .slice none 0 0, .int .i64 i.dice, .int .i64 0, .int .i64 0, .int .i64 0] 68)) W.heap.size i.start 0 gb v (.slice none 0 0) :=
  ⟨rfl, hb, hgb, Out.new, G.alloc _, o.gr ((Gr.refl _).alloc _), ne, Own.nil⟩
set_option maxHeartbeats 4000000 in
set_option maxRecDepth 100000 in
theorem Of_any (p : List PIns) (i : PIn) (vp vw : Value) (w : World) (hp : Sl 4 InsAt w vp p) (hw : Sl 1 IntAt w vw i.words) (hi : insI p) (hwf : i.wf) (hm : mayE p i.words.length = 0)  :
    Calls Try.prog 53 #[vp, inV vw i] w fun e w' => Gr w w' ∧ ∃ B gb vw' vs, e = .returned (.pointer (some ⟨B, 0, none⟩)) ∧ RRun w.heap.size w' B (finV p i).2 (finV p i).1 gb vw' vs := by
  have HWD := Lib.hid hw
  have HP := Lib.hid hp
  have HI := Lib.hid hi
  have HWF := Lib.hid hwf
  have HM := Lib.hid hm
  have h8 := (may_ok hm).2.1
  obtain ⟨R, hR⟩ : ∃ R, R = finV p i := ⟨_, rfl⟩
  have HR := Lib.hid hR
  rw [← hR]
  clear hR hi hwf hm
  obtain ⟨pa, pm, rfl, -⟩ := hp
  obtain ⟨aw, cw, rfl, hwc, hwm, -, -⟩ := hw
  unfold maxLen at hwm
  go_enter Try.func53, Try.ntmps53
  go_wp2
  have HX := Lib.hid (Out.new (w := w) (T := 51) (cs := [.slice aw i.words.length cw, .int .i64 i.pay, .int .i64 i.me, .int .i64 i.lps, .int .i64 i.seed, .int .i64 i.dice]))
  have HG := Lib.hid ((Gr.refl w).alloc (.cells #[.slice aw i.words.length cw, .int .i64 i.pay, .int .i64 i.me, .int .i64 i.lps, .int .i64 i.seed, .int .i64 i.dice] 51))
  have hsz : w.heap.size + 1 = (w.alloc (.cells #[.slice aw i.words.length cw, .int .i64 i.pay, .int .i64 i.me, .int .i64 i.lps, .int .i64 i.seed, .int .i64 i.dice] 51)).heap.size := by simp
  generalize w.alloc (.cells #[.slice aw i.words.length cw, .int .i64 i.pay, .int .i64 i.me, .int .i64 i.lps, .int .i64 i.seed, .int .i64 i.dice] 51) = W at HX HG hsz ⊢
  have x0 := HX.out.cell (i := 0) rfl
  have x1 := HX.out.cell (i := 1) rfl
  have x2 := HX.out.cell (i := 2) rfl
  have x3 := HX.out.cell (i := 3) rfl
  have x5 := HX.out.cell (i := 5) rfl
  have ownC0 := Own.emptyLit W W.heap.size (by omega)
  have ownC := ownC0.gr (Gr.refl _).drew
  have ownB := ownC0.gr (((Gr.refl _).alloc (.cells #[.int .i64 i.pay, .int .i64 i.me, .int .i64 i.lps, .int .i64 i.words.length, .int .i64 0, .int .i64 0, .int .i64 0, .int .i64 0] 3)).drew)
  have ownA0 := Own.emptyLit (W.alloc (.cells #[.int .i64 i.pay, .int .i64 i.me, .int .i64 i.lps, .int .i64 i.words.length, .int .i64 0, .int .i64 0, .int .i64 0, .int .i64 0] 3)) W.heap.size (by simp)
  rw [World.size_alloc] at ownA0
  have ownA := ownA0.gr (Gr.refl _).drew
  go_cut [5] from 8 to 25 (fun t5 W' => ∃ B gb vw', t5 = .pointer (some ⟨B, 0, none⟩) ∧ Gr W W' ∧ RRun W.heap.size W' B i.start 0 gb vw' (.slice none 0 0))
  case first =>
    go_region_held3 (fun W' => (W'.cell? ⟨w.heap.size, 1, none⟩ = some (.int .i64 i.pay) ∧ W'.cell? ⟨w.heap.size, 2, none⟩ = some (.int .i64 i.me) ∧ W'.cell? ⟨w.heap.size, 3, none⟩ = some (.int .i64 i.lps) ∧ W'.cell? ⟨w.heap.size, 0, none⟩ = some (.slice aw i.words.length cw) ∧ W'.cell? ⟨w.heap.size, 5, none⟩ = some (.int .i64 i.dice)))
      (first
        | with_reducible exact ⟨k1, k2, k3, k0, k5⟩
        | exact ⟨x1, x2, x3, x0, x5⟩
        | exact ⟨Gr.cell ((Gr.refl _).alloc _) k1, Gr.cell ((Gr.refl _).alloc _) k2, Gr.cell ((Gr.refl _).alloc _) k3, Gr.cell ((Gr.refl _).alloc _) k0, Gr.cell ((Gr.refl _).alloc _) k5⟩
        | exact ⟨Gr.cell (((Gr.refl _).alloc _).alloc _) k1, Gr.cell (((Gr.refl _).alloc _).alloc _) k2, Gr.cell (((Gr.refl _).alloc _).alloc _) k3, Gr.cell (((Gr.refl _).alloc _).alloc _) k0, Gr.cell (((Gr.refl _).alloc _).alloc _) k5⟩
        | exact ⟨Gr.cell ((Gr.refl _).alloc _) x1, Gr.cell ((Gr.refl _).alloc _) x2, Gr.cell ((Gr.refl _).alloc _) x3, Gr.cell ((Gr.refl _).alloc _) x0, Gr.cell ((Gr.refl _).alloc _) x5⟩
        | exact ⟨Gr.cell (((Gr.refl _).alloc _).alloc _) x1, Gr.cell (((Gr.refl _).alloc _).alloc _) x2, Gr.cell (((Gr.refl _).alloc _).alloc _) x3, Gr.cell (((Gr.refl _).alloc _).alloc _) x0, Gr.cell (((Gr.refl _).alloc _).alloc _) x5⟩)
      (first
    | (refine step_append_list rfl _ _ 39 rfl W.heap.size Try.underlying39 i3w rfl (by omega) (fun _ => rfl) (fun y u hu => by simp [intC] at hu; subst hu; rfl) _ _ rfl rfl [] i.words (show Own W.heap.size 3 1 intC ((W.alloc (.cells #[.int .i64 i.pay, .int .i64 i.me, .int .i64 i.lps, .int .i64 i.words.length, .int .i64 0, .int .i64 0, .int .i64 0, .int .i64 0] 3)).alloc (.cells #[] 3)).drew _ [] from ownA)
          (Sl.gr (FlatAt.gr intC) (((HG.out.alloc (.cells #[.int .i64 i.pay, .int .i64 i.me, .int .i64 i.lps, .int .i64 i.words.length, .int .i64 0, .int .i64 0, .int .i64 0, .int .i64 0] 3)).alloc (.cells #[] 3)).drew) HWD.out.intC) (by simp [maxLen]; omega) (by simp; omega) (by first | (simp; done) | (simp; omega)) ?_
       intro v' w' o' g' lie'
       have hx' := (HX.out.gr ((((Gr.refl W).alloc (.cells #[.int .i64 i.pay, .int .i64 i.me, .int .i64 i.lps, .int .i64 i.words.length, .int .i64 0, .int .i64 0, .int .i64 0, .int .i64 0] 3)).alloc (.cells #[] 3)).drew)).grown ownA (by decide) g'
       have k0 := hx'.cell (i := 0) rfl
       have k1 := hx'.cell (i := 1) rfl
       have k2 := hx'.cell (i := 2) rfl
       have k3 := hx'.cell (i := 3) rfl
       have k5 := hx'.cell (i := 5) rfl
       have hg1 : Gr W w' := Gr.grown ((((Gr.refl W).alloc (.cells #[.int .i64 i.pay, .int .i64 i.me, .int .i64 i.lps, .int .i64 i.words.length, .int .i64 0, .int .i64 0, .int .i64 0, .int .i64 0] 3)).alloc (.cells #[] 3)).drew) ownA (Nat.le_refl _) g'
       have hG1 := (((Out.new (w := W) (T := 3) (cs := regs0 i)).alloc (.cells #[] 3))).drew.grownNe (v := .slice (some ⟨W.heap.size + 1, 0, none⟩) 0 0) (by simp [Value.ownBlock]) g'
       have hne1 : v'.ownBlock ≠ some W.heap.size := lie_ne rfl lie' (by first | omega | (simp; done) | (simp; omega)) (by first | omega | (simp; done) | (simp; omega))
       have HGB := Lib.hid hG1
       have HNE := Lib.hid hne1
       clear hG1 hne1
       simp only [List.nil_append] at o'
       obtain ⟨a', c', rfl⟩ := o'.shape
       have HX1 := Lib.hid hx'
       have HG1 := Lib.hid hg1
       have HO1 := Lib.hid o'
       clear hx' hg1 o' g' lie')
    | (refine step_append_list rfl _ _ 39 rfl W.heap.size Try.underlying39 i3w rfl (by omega) (fun _ => rfl) (fun y u hu => by simp [intC] at hu; subst hu; rfl) _ _ rfl rfl [] i.words (show Own W.heap.size 3 1 intC ((W.alloc (.cells #[] 3)).alloc (.cells #[.int .i64 i.pay, .int .i64 i.me, .int .i64 i.lps, .int .i64 i.words.length, .int .i64 0, .int .i64 0, .int .i64 0, .int .i64 0] 3)).drew _ [] from ownB)
          (Sl.gr (FlatAt.gr intC) (((HG.out.alloc (.cells #[] 3)).alloc (.cells #[.int .i64 i.pay, .int .i64 i.me, .int .i64 i.lps, .int .i64 i.words.length, .int .i64 0, .int .i64 0, .int .i64 0, .int .i64 0] 3)).drew) HWD.out.intC) (by simp [maxLen]; omega) (by simp; omega) (by first | (simp; done) | (simp; omega)) ?_
       intro v' w' o' g' lie'
       have hx' := (HX.out.gr ((((Gr.refl W).alloc (.cells #[] 3)).alloc (.cells #[.int .i64 i.pay, .int .i64 i.me, .int .i64 i.lps, .int .i64 i.words.length, .int .i64 0, .int .i64 0, .int .i64 0, .int .i64 0] 3)).drew)).grown ownB (by decide) g'
       have k0 := hx'.cell (i := 0) rfl
       have k1 := hx'.cell (i := 1) rfl
       have k2 := hx'.cell (i := 2) rfl
       have k3 := hx'.cell (i := 3) rfl
       have k5 := hx'.cell (i := 5) rfl
       have hg1 : Gr W w' := Gr.grown ((((Gr.refl W).alloc (.cells #[] 3)).alloc (.cells #[.int .i64 i.pay, .int .i64 i.me, .int .i64 i.lps, .int .i64 i.words.length, .int .i64 0, .int .i64 0, .int .i64 0, .int .i64 0] 3)).drew) ownB (Nat.le_refl _) g'
       have hG0 := (Out.new (w := W.alloc (.cells #[] 3)) (T := 3) (cs := regs0 i)).drew
       rw [World.size_alloc] at hG0
       have hG1 := hG0.grownNe (v := .slice (some ⟨W.heap.size, 0, none⟩) 0 0) (by simp [Value.ownBlock]) g'
       have hne1 : v'.ownBlock ≠ some (W.heap.size + 1) := lie_ne rfl lie' (by first | omega | (simp; done) | (simp; omega)) (by first | omega | (simp; done) | (simp; omega))
       have HGB := Lib.hid hG1
       have HNE := Lib.hid hne1
       clear hG0 hG1 hne1
       simp only [List.nil_append] at o'
       obtain ⟨a', c', rfl⟩ := o'.shape
       have HX1 := Lib.hid hx'
       have HG1 := Lib.hid hg1
       have HO1 := Lib.hid o'
       clear hx' hg1 o' g' lie')
    | (refine step_append_list rfl _ _ 39 rfl W.heap.size Try.underlying39 i3w rfl (by omega) (fun _ => rfl) (fun y u hu => by simp [intC] at hu; subst hu; rfl) _ _ rfl rfl [] i.words (show Own W.heap.size 3 1 intC (W.alloc (.cells #[] 3)).drew _ [] from ownC)
          (Sl.gr (FlatAt.gr intC) ((HG.out.alloc (.cells #[] 3)).drew) HWD.out.intC) (by simp [maxLen]; omega) (by simp; omega) (by first | (simp; done) | (simp; omega)) ?_
       intro v' w' o' g' lie'
       have hx' := (HX.out.gr (((Gr.refl W).alloc (.cells #[] 3)).drew)).grown ownC (by decide) g'
       have k0 := hx'.cell (i := 0) rfl
       have k1 := hx'.cell (i := 1) rfl
       have k2 := hx'.cell (i := 2) rfl
       have k3 := hx'.cell (i := 3) rfl
       have k5 := hx'.cell (i := 5) rfl
       have hg1 : Gr W w' := Gr.grown (((Gr.refl W).alloc (.cells #[] 3)).drew) ownC (Nat.le_refl _) g'
       simp only [List.nil_append] at o'
       obtain ⟨a', c', rfl⟩ := o'.shape
       have HX1 := Lib.hid hx'
       have HG1 := Lib.hid hg1
       have HO1 := Lib.hid o'
       clear hx' hg1 o' g' lie'))
    all_goals (go_wp2; go_meet)
    all_goals
      first
        | case rel => exact ⟨w'.heap.size, W.heap.size, .slice a' i.words.length c', rfl, HG1.out.alloc _, rstart_at HG1.out.size (by omega) HGB.out HNE.out HO1.out⟩
        | case rel => exact ⟨w'.heap.size, W.heap.size + 1, .slice a' i.words.length c', rfl, HG1.out.alloc _, rstart_at HG1.out.size (by omega) HGB.out HNE.out HO1.out⟩
        | case rel =>
          have hlt := HO1.out.lt
          have hr := rstart_at (W := w'.alloc (.cells #[.int .i64 i.pay, .int .i64 i.me, .int .i64 i.lps, .int .i64 i.words.length, .int .i64 0, .int .i64 0, .int .i64 0, .int .i64 0] 3)) (gb := w'.heap.size) (i := i) (by have := HG1.out.size; simp; omega) HG1.out.size Out.new
            (fun e => by have := (hlt _ e).2; omega) (HO1.out.gr ((Gr.refl _).alloc _))
          rw [World.size_alloc] at hr
          exact ⟨w'.heap.size + 1, w'.heap.size, .slice a' i.words.length c', rfl, (HG1.out.alloc _).alloc _, hr⟩
  case rest =>
    obtain ⟨B, gb, vw', rfl, hgr, hrr⟩ := hcut
    have HG0 := Lib.hid hgr
    have HR0 := Lib.hid hrr
    clear hgr hrr x0 x1 x2 x3 x5 ownA ownA0 ownB ownC ownC0
    go_wp2
    go_loopg [] (122 - i.start.n).toNat (fun g wr => ∃ (r' : VR) (vs' : Value) (k : Nat), g = (122 - r'.n).toNat ∧ 122 ≤ k + r'.n ∧ runV p i.lps (wordU i.seed i.me) k r' = R ∧ r'.may p ∧ r'.wf ∧ Gr W wr ∧ RRun W.heap.size wr B r' 0 gb vw' vs')
    case atStart => exact ⟨i.start, _, 122, rfl, by show (122 : Int) ≤ 122 + 0; omega, HR.out.symm, start_may p i, start_wf HWF.out h8, HG0.out, HR0.out⟩
    case round =>
      obtain ⟨r', vs', k, hk, hk2, hrun, hm', hwf', hg', hr'⟩ := hrel
      have HK := Lib.hid hk
      have HK2 := Lib.hid hk2
      have HRUN := Lib.hid hrun
      have HM' := Lib.hid hm'
      have HWF' := Lib.hid hwf'
      have HG' := Lib.hid hg'
      have HR' := Lib.hid hr'
      have cP := hr'.cP
      have cN := hr'.cN
      have fN := hr'.free 5
      have fP := hr'.free 4
      have fF := hr'.free 6
      have cF := hr'.cF
      have hlB := hr'.lt
      have hbB := hr'.bB
      have hpc0 := hm'.pc0
      have hn0 := hm'.n0
      clear hk hk2 hrun hm' hwf' hg' hr'
      obtain ⟨k, rfl⟩ : ∃ j, k = j + 1 := ⟨k - 1, by have := HK2.out; have := HM'.out.n1; omega⟩
      by_cases he : (p.length : Int) ≤ r'.pc
      · have g0 : decide (r'.pc < (p.length : Int)) = false := decide_eq_false (by omega)
        have HE := Lib.hid (runV_stop HRUN.out (by simp [stepV, he]) (by simp [stepV, he]))
        have HE2 := Lib.hid (show (stepV p i.lps (wordU i.seed i.me) r').2.2 = r' by simp [stepV, he])
        clear he
        go_wp2
        go_ret
        refine ⟨HG.out.trans HG'.out, B, gb, vw', vs', rfl, ?_⟩
        rw [HE.out, HE2.out]
        exact HR'.out.lower HG.out.size
      have he' : r'.pc < (p.length : Int) := by omega
      have g0 : decide (r'.pc < (p.length : Int)) = true := decide_eq_true he'
      by_cases hn : 120 ≤ r'.n
      · have g1 : (r'.n == 120) = true := by have := HM'.out.n1; simp; omega
        have HE := Lib.hid (runV_bad HRUN.out (by simp [stepV, he, hn]))
        have HE2 := Lib.hid (show stepV p i.lps (wordU i.seed i.me) r' = (1, false, r') by simp [stepV, he, hn])
        clear he hn he'
        go_wp2
        go_ret
        refine ⟨HG.out.trans (HG'.out.setCell (p := ⟨B, 6, none⟩) hbB _), B, gb, vw', vs', rfl, ?_⟩
        rw [HE.out, HE2.out]
        exact (HR'.out.setF 1).lower HG.out.size
      have g1 : (r'.n == 120) = false := by simp; omega
      have hn' : r'.n < 120 := by omega
      have hlt : r'.pc.toNat < p.length := by omega
      have hx : p[r'.pc.toNat]? = some (p.getD r'.pc.toNat ins0) := by simp [List.getElem?_eq_getElem hlt]
      have hmem := List.mem_of_getElem? hx
      have hok := (may_ok HM.out).1 _ hmem
      have hstep : stepV p i.lps (wordU i.seed i.me) r' = if (p.getD r'.pc.toNat ins0).op = 0 then (0, false, r'.next)
          else if (actV i.lps (wordU i.seed i.me) (p.getD r'.pc.toNat ins0) r'.next).1 = 0 then (0, true, (actV i.lps (wordU i.seed i.me) (p.getD r'.pc.toNat ins0) r'.next).2)
          else ((actV i.lps (wordU i.seed i.me) (p.getD r'.pc.toNat ins0) r'.next).1, false, r'.next) := by
        unfold stepV; rw [if_neg he, if_neg hn]
      obtain ⟨⟨pc', hpc', hpm', hpe⟩, -⟩ : (∃ c, p.length ≤ c ∧ c ≤ 9223372036854775807 ∧ ∃ b o, pa = some ⟨b, o, none⟩ ∧ InsAt w b (o + r'.pc.toNat * 4) (p.getD r'.pc.toNat ins0)) ∧ True := by
        obtain ⟨a1, c1, e1, h1, h2, h3, h4⟩ := HP.out
        injection e1 with e1 e2 e3
        subst e1
        exact ⟨⟨c1, h1, h2, h4 _ _ hx⟩, trivial⟩
      obtain ⟨q, o, rfl, hins⟩ := hpe
      have hins' : InsAt wr q (o + r'.pc.toNat * 4) (p.getD r'.pc.toNat ins0) := InsAt.gr _ _ _ _ _ (HG.out.trans HG'.out) hins
      have hqW : q < W.heap.size := by
        have := lt_of_cell (HG.out.cell hins.1)
        simpa using this
      generalize hxx : p.getD r'.pc.toNat ins0 = x at hok hstep hins' hx
      obtain ⟨op, xa, xb, xc⟩ := x
      obtain ⟨x0, x1, x2, x3⟩ := hins'
      simp only at x0 x1 x2 x3 hok hstep
      have hqB : q ≠ B := by omega
      have hql : q < wr.heap.size := by have := HG'.out.size; omega
      have HOK := Lib.hid hok
      have HSTEP := Lib.hid hstep
      clear hok hstep hx hins hmem hxx
      by_cases hop : op = 0
      · subst hop
        have HE2 := Lib.hid (show stepV p i.lps (wordU i.seed i.me) r' = (0, false, r'.next) by rw [HSTEP.out]; simp)
        have HE := Lib.hid (runV_stop HRUN.out (by rw [HE2.out]) (by rw [HE2.out]))
        clear he hn
        go_wp2
        go_ret
        refine ⟨HG.out.trans (((HG'.out.setCell (p := ⟨B, 5, none⟩) hbB _).setCell (p := ⟨B, 4, none⟩) hbB _).alloc _), B, rfl, gb, vw', vs', ?_⟩
        rw [HE.out, HE2.out]
        exact (((HR'.out.setN _).setPc _).gr ((Gr.refl _).alloc _)).lower HG.out.size
      have g2 : (op == 0) = false := by simpa using hop
      have hIB : w.heap.size ≠ B := by omega
      have hIl : w.heap.size < wr.heap.size := by have := HG'.out.size; omega
      have HXr := HX.out.gr HG'.out
      have i0 := HXr.cell (i := 0) rfl
      have i1 := HXr.cell (i := 1) rfl
      have i2 := HXr.cell (i := 2) rfl
      have i3 := HXr.cell (i := 3) rfl
      have i4 := HXr.cell (i := 4) rfl
      have i5 := HXr.cell (i := 5) rfl
      have HR5 := Lib.hid (show RRun W.heap.size (((wr.setCell ⟨B, 5, none⟩ (.int .i64 (r'.n + 1))).setCell ⟨B, 4, none⟩ (.int .i64 (r'.pc + 1))).alloc (.cells #[.int .i64 op, .int .i64 xa, .int .i64 xb, .int .i64 xc] 34)) B r'.next 0 gb vw' vs' from ((HR'.out.setN _).setPc _).gr ((Gr.refl _).alloc _))
      have HG5 := Lib.hid (((HG'.out.setCell (p := ⟨B, 5, none⟩) hbB (.int .i64 (r'.n + 1))).setCell (p := ⟨B, 4, none⟩) hbB (.int .i64 (r'.pc + 1))).alloc (.cells #[.int .i64 op, .int .i64 xa, .int .i64 xb, .int .i64 xc] 34))
      clear HXr
      have hwn : r'.next.wf := ⟨HWF'.out.g8, HWF'.out.g, HWF'.out.w⟩
      have HWN := Lib.hid hwn
      have HOP := Lib.hid hop
      clear hwn he hn he' hop
      by_cases h0 : (actV i.lps (wordU i.seed i.me) ⟨op, xa, xb, xc⟩ r'.next).1 = 0
      · have HE2 := Lib.hid (show stepV p i.lps (wordU i.seed i.me) r' = (0, true, (actV i.lps (wordU i.seed i.me) ⟨op, xa, xb, xc⟩ r'.next).2) by rw [HSTEP.out, if_neg HOP.out, if_pos h0])
        have hs := step_inv (may_ok HM.out).1 HI.out HM'.out HWF'.out (by rw [HE2.out]) (by rw [HE2.out])
        have HE := Lib.hid (runV_go HRUN.out (by rw [HE2.out]) (by rw [HE2.out]))
        rw [HE2.out] at hs
        have HS := Lib.hid hs
        have H0 := Lib.hid h0
        clear hs h0
        go_wp2_with (go_at_call 132
                     refine (oneGo_any HR5.out HG5.out _ _ _ i op xa xb xc _ HOK.out HOP.out HWN.out H0.out).mono ?_
                     rintro e w6 ⟨rfl, hg6, vs6, hr6⟩
                     have HG6 := Lib.hid hg6
                     have HR6 := Lib.hid hr6
                     clear x0 x1 x2 x3 i0 i1 i2 i3 i4 i5 cP cN fN fP fF cF hg6 hr6)
        go_roundg (gk - 1)
        case measure => have := HK.out; have := HM'.out.n1; omega
        case rel => exact ⟨_, vs6, k, by have := HK.out; have := HS.out.2.2; have := HM'.out.n1; omega, by have := HS.out.2.2; have := HK2.out; omega, by have := HE.out; rw [HE2.out] at this; exact this, HS.out.2.1, HS.out.1, HG6.out, HR6.out⟩
      · obtain ⟨kf, hkf⟩ : ∃ kf, (actV i.lps (wordU i.seed i.me) ⟨op, xa, xb, xc⟩ r'.next).1 = kf := ⟨_, rfl⟩
        have HKF := Lib.hid hkf
        rw [hkf] at h0
        have g3 : (kf == 0) = false := by simpa using h0
        have g4 : (kf != 0) = true := by simpa using h0
        have HE2 := Lib.hid (show stepV p i.lps (wordU i.seed i.me) r' = (kf, false, r'.next) by rw [HSTEP.out, if_neg HOP.out, if_neg (by rw [hkf]; exact h0), hkf])
        have HE := Lib.hid (runV_bad HRUN.out (by rw [HE2.out]; exact h0))
        have H0 := Lib.hid h0
        clear hkf h0
        go_wp2_with (go_at_call 132
                     refine (oneBad_any HR5.out HG5.out _ _ _ i op xa xb xc _ HOK.out HOP.out HWN.out kf HKF.out H0.out).mono ?_
                     rintro e w6 ⟨rfl, hg6, vs6, hr6⟩
                     have cF6 := hr6.cF
                     have fF6 := hr6.free 6
                     have HG6 := Lib.hid hg6
                     have HR6 := Lib.hid hr6
                     clear x0 x1 x2 x3 i0 i1 i2 i3 i4 i5 cP cN fN fP fF cF hg6 hr6)
        go_ret
        refine ⟨HG.out.trans (HG6.out.setCell (p := ⟨B, 6, none⟩) hbB _), B, gb, vw', vs6, rfl, ?_⟩
        rw [HE.out, HE2.out]
        exact (HR6.out.setF kf).lower HG.out.size
end Go.Proofs.Ytkoopobfelcgpaa
