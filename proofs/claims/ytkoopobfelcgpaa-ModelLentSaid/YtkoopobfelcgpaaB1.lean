/- layer 5: model.Copy -/
import Derived.Test.YtkoopobfelcgpaaOwn
import Derived.Test.YtkoopobfelcgpaaGrow
import Derived.Test.YtkoopobfelcgpaaA13
import Derived.Deep.RegionHeld3
import Derived.Deep.RegionLaw
namespace Go.Proofs.Ytkoopobfelcgpaa
open Go.RowKit

def insCells (x : PIns) : List Value := [.int .i64 x.op, .int .i64 x.a, .int .i64 x.b, .int .i64 x.c]
def floatCells (x : Nat) : List Value := [.float .f64 x]
def intCells (x : Int) : List Value := [.int .i64 x]
def initCells (x : PInit) : List Value := [.float .f64 x.t, .int .i64 x.dst, .int .i64 x.pay]
/-- A slice's value. -/
structure SV where
  a : Option Addr
  n : Nat
  c : Nat
def SV.val (x : SV) : Value := .slice x.a x.n x.c
def valCells (x : SV) : List Value := [.slice x.a x.n x.c]

theorem flat_ins : ∀ w b o x, InsAt w b o x → FlatAt insCells w b o x := by
  intro w b o x h j u hu
  match j with
  | 0 => simp [insCells] at hu; subst hu; exact h.1
  | 1 => simp [insCells] at hu; subst hu; exact h.2.1
  | 2 => simp [insCells] at hu; subst hu; exact h.2.2.1
  | 3 => simp [insCells] at hu; subst hu; exact h.2.2.2
  | j + 4 => simp [insCells] at hu
theorem flat_float : ∀ w b o x, FloatAt w b o x → FlatAt floatCells w b o x := by
  intro w b o x h j u hu
  match j with
  | 0 => simp [floatCells] at hu; subst hu; exact h
  | j + 1 => simp [floatCells] at hu
theorem flat_int : ∀ w b o x, IntAt w b o x → FlatAt intCells w b o x := by
  intro w b o x h j u hu
  match j with
  | 0 => simp [intCells] at hu; subst hu; exact h
  | j + 1 => simp [intCells] at hu
theorem flat_init : ∀ w b o x, InitAt w b o x → FlatAt initCells w b o x := by
  intro w b o x h j u hu
  match j with
  | 0 => simp [initCells] at hu; subst hu; exact h.1
  | 1 => simp [initCells] at hu; subst hu; exact h.2.1
  | 2 => simp [initCells] at hu; subst hu; exact h.2.2
  | j + 3 => simp [initCells] at hu
theorem ins_flat : ∀ w b o x, FlatAt insCells w b o x → InsAt w b o x := fun _ _ _ _ h => ⟨h 0 _ rfl, h 1 _ rfl, h 2 _ rfl, h 3 _ rfl⟩
theorem float_flat : ∀ w b o x, FlatAt floatCells w b o x → FloatAt w b o x := fun _ _ _ _ h => h 0 _ rfl
theorem int_flat : ∀ w b o x, FlatAt intCells w b o x → IntAt w b o x := fun _ _ _ _ h => h 0 _ rfl
theorem init_flat : ∀ w b o x, FlatAt initCells w b o x → InitAt w b o x := fun _ _ _ _ h => ⟨h 0 _ rfl, h 1 _ rfl, h 2 _ rfl⟩
theorem Sl.imp {α : Type} {sz : Nat} {R R' : World → Nat → Nat → α → Prop} (hi : ∀ w b o x, R w b o x → R' w b o x) {w : World} {v : Value} {l : List α} (h : Sl sz R w v l) : Sl sz R' w v l := by
  obtain ⟨a, cap, e, h1, h2, h3, h4⟩ := h
  exact ⟨a, cap, e, h1, h2, h3, fun i x hx => by obtain ⟨b, o, ea, hR⟩ := h4 i x hx; exact ⟨b, o, ea, hi _ _ _ _ hR⟩⟩

theorem i22 : (Try.prog.info? 22).map (fun i => (i.zero, i.size, i.bytes)) = some (some (.float .f64 0), 1, 8) := by kernel_rfl
theorem i3 : (Try.prog.info? 3).map (fun i => (i.zero, i.size, i.bytes)) = some (some (.int .i64 0), 1, 8) := by kernel_rfl
theorem i38 : (Try.prog.info? 38).map (fun i => (i.zero, i.size, i.bytes)) = some (some (.slice none 0 0), 1, 24) := by kernel_rfl
theorem i34 : (Try.prog.info? 34).map (fun i => (i.zero, i.size, i.bytes)) = some (some (.agg #[.int .i64 0, .int .i64 0, .int .i64 0, .int .i64 0]), 4, 32) := by kernel_rfl
theorem i41 : (Try.prog.info? 41).map (fun i => (i.zero, i.size, i.bytes)) = some (some (.agg #[.int .i64 0, .slice none 0 0]), 2, 32) := by kernel_rfl
theorem i43 : (Try.prog.info? 43).map (fun i => (i.zero, i.size, i.bytes)) = some (some (.agg #[.float .f64 0, .int .i64 0, .int .i64 0]), 3, 24) := by kernel_rfl

structure Small (m : PModel) : Prop where
  delays : m.delays.length ≤ 1000
  programs : m.programs.length ≤ 1000
  lps : m.lps.length ≤ 1000
  init : m.init.length ≤ 1000
  code : ∀ p ∈ m.programs, p.length ≤ 1000
  words : ∀ x ∈ m.lps, x.words.length ≤ 1000

/-- Own slices, one a list. -/
def OwnAll (base : Nat) (w : World) (vs : List SV) (ps : List (List PIns)) : Prop := ∀ (i : Nat) v p, vs[i]? = some v → ps[i]? = some p → Own base 34 4 insCells w v.val p

theorem OwnAll.snoc {base : Nat} {w : World} {vs : List SV} {ps : List (List PIns)} {v : SV} {p : List PIns} (h : OwnAll base w vs ps) (hp : ps[vs.length]? = some p) (ho : Own base 34 4 insCells w v.val p) : OwnAll base w (vs ++ [v]) ps := by
  intro i u q hu hq
  rcases Nat.lt_trichotomy i vs.length with g | g | g
  · rw [List.getElem?_append_left g] at hu; exact h i u q hu hq
  · subst g
    rw [List.getElem?_append_right (Nat.le_refl _), Nat.sub_self] at hu
    simp at hu
    subst hu
    rw [hp] at hq
    injection hq with hq
    subst hq
    exact ho
  · rw [List.getElem?_eq_none (by simp; omega)] at hu; cases hu
theorem OwnAll.mono {base : Nat} {w w' : World} {vs : List SV} {ps : List (List PIns)} (h : OwnAll base w vs ps) (hk : ∀ v p, Own base 34 4 insCells w v p → Own base 34 4 insCells w' v p) : OwnAll base w' vs ps :=
  fun i v p hv hp => hk v.val p (h i v p hv hp)

def lpCells (x : Int × SV) : List Value := [.int .i64 x.1, .slice x.2.a x.2.n x.2.c]
def OwnLPs (base : Nat) (w : World) (ls : List (Int × SV)) (xs : List PLP) : Prop := ∀ (i : Nat) y x, ls[i]? = some y → xs[i]? = some x → y.1 = x.prog ∧ Own base 3 1 intCells w y.2.val x.words
theorem OwnLPs.snoc {base : Nat} {w : World} {ls : List (Int × SV)} {xs : List PLP} {y : Int × SV} {x : PLP} (h : OwnLPs base w ls xs) (hx : xs[ls.length]? = some x) (h1 : y.1 = x.prog) (ho : Own base 3 1 intCells w y.2.val x.words) : OwnLPs base w (ls ++ [y]) xs := by
  intro i u q hu hq
  rcases Nat.lt_trichotomy i ls.length with g | g | g
  · rw [List.getElem?_append_left g] at hu; exact h i u q hu hq
  · subst g
    rw [List.getElem?_append_right (Nat.le_refl _), Nat.sub_self] at hu
    simp at hu
    subst hu
    rw [hx] at hq
    injection hq with hq
    subst hq
    exact ⟨h1, ho⟩
  · rw [List.getElem?_eq_none (by simp; omega)] at hu; cases hu
theorem OwnLPs.mono {base : Nat} {w w' : World} {ls : List (Int × SV)} {xs : List PLP} (h : OwnLPs base w ls xs) (hk : ∀ v p, Own base 3 1 intCells w v p → Own base 3 1 intCells w' v p) : OwnLPs base w' ls xs :=
  fun i y x hy hx => ⟨(h i y x hy hx).1, hk _ _ (h i y x hy hx).2⟩

/-- model.Copy under way: what it has laid so far. -/
structure CopyAt (m : PModel) (w : World) (arg : List Value) (v1 v2 v3 v4 : Value) (vs : List SV) (ls : List (Int × SV)) (W : World) : Prop where
  g : Gr w W
  d : Own (w.heap.size + 1 + 1 + 1) 22 1 floatCells W v1 m.delays
  x : Out 28 W (w.heap.size + 1 + 1) [.int .i64 m.seed, .float .f64 m.fin, v1, v2, v3, v4]
  a : Out 28 W w.heap.size arg
  r : Out 28 W (w.heap.size + 1) [.int .i64 0, .float .f64 0, .slice none 0 0, .slice none 0 0, .slice none 0 0, .slice none 0 0]
  p : Own (w.heap.size + 1 + 1 + 1) 38 1 valCells W v2 vs
  pa : OwnAll (w.heap.size + 1 + 1 + 1) W vs m.programs
  l : Own (w.heap.size + 1 + 1 + 1) 41 2 lpCells W v3 ls
  la : OwnLPs (w.heap.size + 1 + 1 + 1) W ls m.lps

theorem CopyAt.gr {m : PModel} {w : World} {arg : List Value} {v1 v2 v3 v4 : Value} {vs : List SV} {ls : List (Int × SV)} {W W' : World} (h : CopyAt m w arg v1 v2 v3 v4 vs ls W) (g : Gr W W') : CopyAt m w arg v1 v2 v3 v4 vs ls W' :=
  ⟨h.g.trans g, h.d.gr g, h.x.gr g, h.a.gr g, h.r.gr g, h.p.gr g, h.pa.mono (fun _ _ o => o.gr g), h.l.gr g, h.la.mono (fun _ _ o => o.gr g)⟩
theorem CopyAt.base_le {m : PModel} {w : World} {arg : List Value} {v1 v2 v3 v4 : Value} {vs : List SV} {ls : List (Int × SV)} {W : World} (h : CopyAt m w arg v1 v2 v3 v4 vs ls W) : w.heap.size + 1 + 1 + 1 ≤ W.heap.size := Out.lt h.x
theorem CopyAt.growP {m : PModel} {w : World} {arg : List Value} {v1 v2 v3 v4 v2' : Value} {v : SV} {vs : List SV} {ls : List (Int × SV)} {W W' : World} {p : List PIns} (h : CopyAt m w arg v1 v2 v3 v4 vs ls W) (hg : W.grownBy W' v2.ownBlock)
    (hp : Own (w.heap.size + 1 + 1 + 1) 38 1 valCells W' v2' (vs ++ [v])) (ho : Own (w.heap.size + 1 + 1 + 1) 34 4 insCells W v.val p) (hk : m.programs[vs.length]? = some p) :
    Out 28 W' (w.heap.size + 1 + 1) [.int .i64 m.seed, .float .f64 m.fin, v1, v2, v3, v4] ∧ CopyAt m w arg v1 v2' v3 v4 (vs ++ [v]) ls (W'.setCell ⟨w.heap.size + 1 + 1, 3, none⟩ v2') := by
  have x' := h.x.grown h.p (by decide) hg
  refine ⟨x', (h.g.grown h.p (by omega) hg).setCell (by simp only []; omega) _, (h.d.grown h.p (by decide) hg).set x'.is (by decide) _, x'.set 3 v2', (h.a.grown h.p (by decide) hg).set_other (by omega), (h.r.grown h.p (by decide) hg).set_other (by omega),
    hp.set x'.is (by decide) _, ?_, (h.l.grown h.p (by decide) hg).set x'.is (by decide) _, h.la.mono (fun _ _ o => (o.grown h.p (by decide) hg).set x'.is (by decide) _)⟩
  exact (h.pa.snoc hk ho).mono (fun _ _ o => (o.grown h.p (by decide) hg).set x'.is (by decide) _)
theorem CopyAt.growL {m : PModel} {w : World} {arg : List Value} {v1 v2 v3 v4 v3' : Value} {y : Int × SV} {vs : List SV} {ls : List (Int × SV)} {W W' : World} {x : PLP} (h : CopyAt m w arg v1 v2 v3 v4 vs ls W) (hg : W.grownBy W' v3.ownBlock)
    (hp : Own (w.heap.size + 1 + 1 + 1) 41 2 lpCells W' v3' (ls ++ [y])) (hy : y.1 = x.prog) (ho : Own (w.heap.size + 1 + 1 + 1) 3 1 intCells W y.2.val x.words) (hk : m.lps[ls.length]? = some x) :
    Out 28 W' (w.heap.size + 1 + 1) [.int .i64 m.seed, .float .f64 m.fin, v1, v2, v3, v4] ∧ CopyAt m w arg v1 v2 v3' v4 vs (ls ++ [y]) (W'.setCell ⟨w.heap.size + 1 + 1, 4, none⟩ v3') := by
  have x' := h.x.grown h.l (by decide) hg
  refine ⟨x', (h.g.grown h.l (by omega) hg).setCell (by simp only []; omega) _, (h.d.grown h.l (by decide) hg).set x'.is (by decide) _, x'.set 4 v3', (h.a.grown h.l (by decide) hg).set_other (by omega), (h.r.grown h.l (by decide) hg).set_other (by omega),
    (h.p.grown h.l (by decide) hg).set x'.is (by decide) _, h.pa.mono (fun _ _ o => (o.grown h.l (by decide) hg).set x'.is (by decide) _), hp.set x'.is (by decide) _, ?_⟩
  exact (h.la.snoc hk hy ho).mono (fun _ _ o => (o.grown h.l (by decide) hg).set x'.is (by decide) _)

/-- What model.Copy gives back. -/
structure CopiedAt (m : PModel) (w : World) (v1 v2 v3 v4 : Value) (vs : List SV) (ls : List (Int × SV)) (W : World) : Prop where
  g : Gr w W
  d : Own (w.heap.size + 1 + 1 + 1) 22 1 floatCells W v1 m.delays
  p : Own (w.heap.size + 1 + 1 + 1) 38 1 valCells W v2 vs
  pn : vs.length = m.programs.length
  pa : OwnAll (w.heap.size + 1 + 1 + 1) W vs m.programs
  l : Own (w.heap.size + 1 + 1 + 1) 41 2 lpCells W v3 ls
  ln : ls.length = m.lps.length
  la : OwnLPs (w.heap.size + 1 + 1 + 1) W ls m.lps
  i : Own (w.heap.size + 1 + 1 + 1) 43 3 initCells W v4 m.init

theorem CopiedAt.gr {m : PModel} {w : World} {v1 v2 v3 v4 : Value} {vs : List SV} {ls : List (Int × SV)} {W W' : World} (h : CopiedAt m w v1 v2 v3 v4 vs ls W) (g : Gr W W') : CopiedAt m w v1 v2 v3 v4 vs ls W' :=
  ⟨h.g.trans g, h.d.gr g, h.p.gr g, h.pn, h.pa.mono (fun _ _ o => o.gr g), h.l.gr g, h.ln, h.la.mono (fun _ _ o => o.gr g), h.i.gr g⟩

theorem CopiedAt.set {m : PModel} {w : World} {v1 v2 v3 v4 : Value} {vs : List SV} {ls : List (Int × SV)} {W : World} (h : CopiedAt m w v1 v2 v3 v4 vs ls W) {O : Nat} {cs : List Value} (ho : Out 28 W O cs) (hO : w.heap.size ≤ O) (i : Nat) (v : Value) :
    CopiedAt m w v1 v2 v3 v4 vs ls (W.setCell ⟨O, i, none⟩ v) ∧ Out 28 (W.setCell ⟨O, i, none⟩ v) O (cs.set i v) :=
  ⟨⟨h.g.setCell (p := ⟨O, i, none⟩) hO v, h.d.set ho.is (by decide) _, h.p.set ho.is (by decide) _, h.pn, h.pa.mono (fun _ _ o => o.set ho.is (by decide) _), h.l.set ho.is (by decide) _, h.ln, h.la.mono (fun _ _ o => o.set ho.is (by decide) _), h.i.set ho.is (by decide) _⟩, ho.set i v⟩

set_option maxHeartbeats 4000000 in
set_option maxRecDepth 100000 in
theorem Copy_any (m : PModel) (vd vp vl vi : Value) (w : World) (h : ModelAt w vd vp vl vi m) (hsm : Small m) :
    Calls Try.prog 37 #[.agg #[.int .i64 m.seed, .float .f64 m.fin, vd, vp, vl, vi]] w fun e w' => ∃ v1 v2 v3 v4 vs ls, e = .returned (.agg #[.int .i64 m.seed, .float .f64 m.fin, v1, v2, v3, v4]) ∧ CopiedAt m w v1 v2 v3 v4 vs ls w' := by
  have Q := Lib.hid h
  obtain ⟨ad, cd, rfl, -⟩ := h.delays
  obtain ⟨ap, cp, rfl, hpc, hpm, -, hp⟩ := h.programs
  obtain ⟨al, cl, rfl, hlc, hlm, -, hl⟩ := h.lps
  obtain ⟨ai, ci, rfl, -⟩ := h.init
  clear h
  unfold maxLen at hpm hlm
  have HP := Lib.hid hp; clear hp
  have HL := Lib.hid hl; clear hl
  have HS := Lib.hid hsm
  clear hsm
  have A0 := Out.new (w := w) (T := 28) (cs := [.int .i64 m.seed, .float .f64 m.fin, .slice ad m.delays.length cd, .slice ap m.programs.length cp, .slice al m.lps.length cl, .slice ai m.init.length ci])
  have R0 := Out.new (w := w.alloc (.cells #[.int .i64 m.seed, .float .f64 m.fin, .slice ad m.delays.length cd, .slice ap m.programs.length cp, .slice al m.lps.length cl, .slice ai m.init.length ci] 28)) (T := 28)
    (cs := [.int .i64 0, .float .f64 0, .slice none 0 0, .slice none 0 0, .slice none 0 0, .slice none 0 0])
  have X0 := Out.new (w := (w.alloc (.cells #[.int .i64 m.seed, .float .f64 m.fin, .slice ad m.delays.length cd, .slice ap m.programs.length cp, .slice al m.lps.length cl, .slice ai m.init.length ci] 28)).alloc
    (.cells #[.int .i64 0, .float .f64 0, .slice none 0 0, .slice none 0 0, .slice none 0 0, .slice none 0 0] 28)) (T := 28) (cs := [.int .i64 m.seed, .float .f64 m.fin, .slice none 0 0, .slice none 0 0, .slice none 0 0, .slice none 0 0])
  have hW := (((Gr.refl w).alloc (.cells #[.int .i64 m.seed, .float .f64 m.fin, .slice ad m.delays.length cd, .slice ap m.programs.length cp, .slice al m.lps.length cl, .slice ai m.init.length ci] 28)).alloc
    (.cells #[.int .i64 0, .float .f64 0, .slice none 0 0, .slice none 0 0, .slice none 0 0, .slice none 0 0] 28)).alloc (.cells #[.int .i64 m.seed, .float .f64 m.fin, .slice none 0 0, .slice none 0 0, .slice none 0 0, .slice none 0 0] 28)
  replace A0 := (A0.alloc (.cells #[.int .i64 0, .float .f64 0, .slice none 0 0, .slice none 0 0, .slice none 0 0, .slice none 0 0] 28)).alloc (.cells #[.int .i64 m.seed, .float .f64 m.fin, .slice none 0 0, .slice none 0 0, .slice none 0 0, .slice none 0 0] 28)
  replace R0 := R0.alloc (.cells #[.int .i64 m.seed, .float .f64 m.fin, .slice none 0 0, .slice none 0 0, .slice none 0 0, .slice none 0 0] 28)
  simp only [World.size_alloc] at X0 R0
  have HW := Lib.hid hW
  have HX := Lib.hid X0
  have HR := Lib.hid R0
  have HA := Lib.hid A0
  clear hW X0 R0 A0
  go_enter Try.func37, Try.ntmps37
  go_wp2_with (at_builtin; refine wpList_append_list rfl _ _ 23 rfl (w.heap.size + 1 + 1 + 1) Try.underlying23 i22 rfl (by omega) (fun _ => rfl) (fun x u hu => by simp [floatCells] at hu; subst hu; rfl) (.slice none 0 0) _ rfl rfl [] m.delays Own.nil ((Q.out.delays.gr FloatAt.gr HW.out).imp flat_float) ?_ ?_ ?_ ?_)
  · have := HS.out.delays; simp [maxLen]; omega
  · have := HS.out.delays; simp; omega
  · simp
  intro v1 w1 o1 gr1 lie1
  clear lie1
  have hnil := Own.nil (base := w.heap.size) (e := 22) (sz := 1) (cells := floatCells)
    (w := (((w.alloc (.cells #[.int .i64 m.seed, .float .f64 m.fin, .slice ad m.delays.length cd, .slice ap m.programs.length cp, .slice al m.lps.length cl, .slice ai m.init.length ci] 28)).alloc
    (.cells #[.int .i64 0, .float .f64 0, .slice none 0 0, .slice none 0 0, .slice none 0 0, .slice none 0 0] 28)).alloc (.cells #[.int .i64 m.seed, .float .f64 m.fin, .slice none 0 0, .slice none 0 0, .slice none 0 0, .slice none 0 0] 28)))
  have gg1 := HW.out.grown hnil (Nat.le_refl _) gr1
  have x1 := HX.out.grown hnil (by decide) gr1
  have a1 := HA.out.grown hnil (by decide) gr1
  have r1 := HR.out.grown hnil (by decide) gr1
  obtain ⟨ad1, cd1, rfl⟩ := o1.shape
  have p2 := x1.cell (i := 2) rfl
  have f2 := x1.free 2
  have p3 := a1.cell (i := 3) rfl
  have hsz := Out.lt x1
  have G1 := Lib.hid ((gg1.setCell (p := ⟨w.heap.size + 1 + 1, 2, none⟩) (by simp only []; omega) (.slice ad1 m.delays.length cd1)))
  have O1 := Lib.hid (o1.set (i := 2) x1.is (by decide) (.slice ad1 m.delays.length cd1))
  have X1 := Lib.hid (x1.set 2 (.slice ad1 m.delays.length cd1))
  have A1 := Lib.hid (a1.set_other (O' := w.heap.size + 1 + 1) (i := 2) (v := .slice ad1 m.delays.length cd1) (by omega))
  have R1 := Lib.hid (r1.set_other (O' := w.heap.size + 1 + 1) (i := 2) (v := .slice ad1 m.delays.length cd1) (by omega))
  clear gg1 o1 x1 gr1 hnil a1 r1 HW HX HR HA
  go_wp2
  clear p2 f2 p3 hsz
  generalize w1.setCell ⟨w.heap.size + 1 + 1, 2, none⟩ (.slice ad1 m.delays.length cd1) = W2 at *
  simp only [List.set_cons_succ, List.set_cons_zero] at X1
  have C1 := Lib.hid (show CopyAt m w _ _ _ _ _ [] [] W2 from ⟨G1.out, O1.out, X1.out, A1.out, R1.out, Own.nil, fun i v p h => by simp at h, Own.nil, fun i v p h => by simp at h⟩)
  clear G1 O1 X1 A1 R1
  go_loopg [22] m.programs.length (fun g i wr => ∃ (vs : List SV) (a : Option Addr) (c : Nat), g + vs.length = m.programs.length ∧ i = .int .i64 vs.length ∧
    CopyAt m w [.int .i64 m.seed, .float .f64 m.fin, .slice ad m.delays.length cd, .slice ap m.programs.length cp, .slice al m.lps.length cl, .slice ai m.init.length ci] (.slice ad1 m.delays.length cd1) (.slice a vs.length c) (.slice none 0 0) (.slice none 0 0) vs [] wr)
  case atStart => exact ⟨[], none, 0, by simp, rfl, C1.out⟩
  case round =>
    obtain ⟨vs, a, c, hk, rfl, hc⟩ := hrel
    have HC := Lib.hid hc
    clear hc
    by_cases hlt : vs.length < m.programs.length
    · obtain ⟨b, o, rfl, v, hv0, hv⟩ := HP.out vs.length m.programs[vs.length] (by simp [hlt])
      have hv1 := HC.out.g.cell hv0
      rw [Nat.mul_one] at hv1
      have HV := Lib.hid (hv.gr InsAt.gr HC.out.g)
      have p3 := HC.out.x.cell (i := 3) rfl
      clear hv0 hv
      go_wp2
      have hcode := HS.out.code _ (List.getElem_mem hlt)
      have hpl := HS.out.programs
      go_region_law
        (first
          | (refine step_append_list rfl (.const (.slice none 0 0)) _ 38 rfl (w.heap.size + 1 + 1 + 1) Try.underlying38 i34 rfl (by omega) (fun _ => rfl) (fun x u hu => by simp [insCells] at hu; rcases hu with rfl | rfl | rfl | rfl <;> rfl) (.slice none 0 0) _ rfl rfl [] m.programs[vs.length] Own.nil
                ((HV.out.gr InsAt.gr ((Gr.refl _).drew)).imp flat_ins) (by simp [maxLen]; omega) (by simp; omega) HC.out.base_le ?_
             intro v' w' o' g' lie'
             have gg := (Gr.refl wr).drew.grown (Own.nil (base := wr.heap.size) (e := 34) (sz := 4) (cells := insCells)) (Nat.le_refl _) g'
             have C' := HC.out.gr gg
             have hS := C'.x.cell (i := 3) rfl
             have hlt' := Out.lt C'.x
             obtain ⟨a', c', rfl⟩ := o'.shape
             have H' := Lib.hid C'
             have HO' := Lib.hid o'
             clear C' o' lie' g')
          | (refine step_append_list rfl _ _ 24 rfl (w.heap.size + 1 + 1 + 1) Try.underlying24 i38 rfl (by omega) (fun _ => rfl) (fun x u hu => by simp [valCells] at hu; subst hu; rfl) _ _ rfl rfl vs [⟨a', m.programs[vs.length].length, c'⟩] (H'.out.p.gr ((Gr.refl _).alloc _)) (Sl_one (fun j u hu => by match j with | 0 => simp [valCells] at hu; subst hu; go_cell | j + 1 => simp [valCells] at hu)) (by simp [maxLen]; omega) (by simp; omega) (Nat.le_trans H'.out.base_le (by simp)) ?_
             intro v2 w2 o2 g2 lie2
             obtain ⟨x2, C2⟩ := (H'.out.gr ((Gr.refl w').alloc (.cells #[.slice a' m.programs[vs.length].length c'] 38))).growP (v := ⟨a', m.programs[vs.length].length, c'⟩) g2 o2 (HO'.out.gr ((Gr.refl _).alloc _)) (by simp [hlt])
             have hS2 := x2.cell (i := 3) rfl
             have hF2 := x2.free 3
             obtain ⟨a2, c2, rfl⟩ := o2.shape
             have HC2 := Lib.hid C2
             clear C2 o2 lie2 g2 x2))
      all_goals
        go_wp2
        go_roundg (m.programs.length - (vs.length + 1))
        case measure => omega
        case rel => exact ⟨vs ++ [⟨a', m.programs[vs.length].length, c'⟩], a2, c2, by simp; omega, by simp, by simpa using HC2.out⟩
    · have hvs : vs.length = m.programs.length := by omega
      have HVL := Lib.hid hvs
      have p4 := HC.out.a.cell (i := 4) rfl
      clear hvs C1
      go_wp2
      clear p4
      go_loopg [37] m.lps.length (fun g i wr => ∃ (ls : List (Int × SV)) (a3 : Option Addr) (c3 : Nat), g + ls.length = m.lps.length ∧ i = .int .i64 ls.length ∧
        CopyAt m w [.int .i64 m.seed, .float .f64 m.fin, .slice ad m.delays.length cd, .slice ap m.programs.length cp, .slice al m.lps.length cl, .slice ai m.init.length ci] (.slice ad1 m.delays.length cd1) (.slice a vs.length c) (.slice a3 ls.length c3) (.slice none 0 0) vs ls wr)
      case atStart => exact ⟨[], none, 0, by simp, rfl, HC.out⟩
      case round =>
        clear hlt hk HC
        obtain ⟨ls, a3, c3, hk, rfl, hc⟩ := hrel
        have HC := Lib.hid hc
        clear hc
        by_cases hlt : ls.length < m.lps.length
        · obtain ⟨b, o, rfl, hv1, v, hv0, hv⟩ := HL.out ls.length m.lps[ls.length] (by simp [hlt])
          have y1 := HC.out.g.cell hv1
          have y0 := HC.out.g.cell hv0
          have HV := Lib.hid (hv.gr IntAt.gr HC.out.g)
          have p4 := HC.out.x.cell (i := 4) rfl
          have hsz := Out.lt HC.out.x
          have hbz := lt_of_cell y1
          simp only [] at hbz
          have E := HV.out
          obtain ⟨aw, cw, rfl, -⟩ := E
          clear hv0 hv hv1
          go_wp2
          have hwords := HS.out.words _ (List.getElem_mem hlt)
          have hll := HS.out.lps
          have L0 := (Out.new (w := wr) (T := 41) (cs := [.int .i64 m.lps[ls.length].prog, .slice aw m.lps[ls.length].words.length cw])).drew
          have q0 := L0.cell (i := 0) rfl
          have q1 := L0.cell (i := 1) rfl
          have L1 := Lib.hid L0
          clear L0
          go_region_law
            (first
              | (refine step_append_list rfl (.const (.slice none 0 0)) _ 39 rfl (w.heap.size + 1 + 1 + 1) Try.underlying39 i3 rfl (by omega) (fun _ => rfl) (fun x u hu => by simp [intCells] at hu; subst hu; rfl) (.slice none 0 0) _ rfl rfl [] m.lps[ls.length].words Own.nil
                    ((HV.out.gr IntAt.gr (((Gr.refl wr).alloc (.cells #[.int .i64 m.lps[ls.length].prog, .slice aw m.lps[ls.length].words.length cw] 41)).drew)).imp flat_int) (by simp [maxLen]; omega) (by simp; omega) (Nat.le_trans HC.out.base_le (by simp)) ?_
                 intro v' w' o' g' lie'
                 have gg := ((Gr.refl wr).alloc (.cells #[.int .i64 m.lps[ls.length].prog, .slice aw m.lps[ls.length].words.length cw] 41)).drew.grown (Own.nil (base := wr.heap.size) (e := 3) (sz := 1) (cells := intCells)) (Nat.le_refl _) g'
                 have C' := HC.out.gr gg
                 have hS := C'.x.cell (i := 4) rfl
                 have hlt' := Out.lt C'.x
                 have L2 := L1.out.grown (Own.nil (base := wr.heap.size) (e := 3) (sz := 1) (cells := intCells)) (by decide) g'
                 have q2 := L2.cell (i := 0) rfl
                 have q3 := L2.cell (i := 1) rfl
                 obtain ⟨a', c', rfl⟩ := o'.shape
                 have H' := Lib.hid C'
                 have HO' := Lib.hid o'
                 clear C' o' lie' g' L2)
              | (refine step_append_list rfl _ _ 25 rfl (w.heap.size + 1 + 1 + 1) Try.underlying25 i41 rfl (by omega) (fun _ => rfl) (fun x u hu => by simp [lpCells] at hu; rcases hu with rfl | rfl <;> rfl) _ _ rfl rfl ls [(m.lps[ls.length].prog, ⟨a', m.lps[ls.length].words.length, c'⟩)] (H'.out.l.gr ((Gr.refl _).alloc _)) (Sl_one (fun j u hu => by match j with | 0 => simp [lpCells] at hu; subst hu; go_cell | 1 => simp [lpCells] at hu; subst hu; go_cell | j + 2 => simp [lpCells] at hu)) (by simp [maxLen]; omega) (by simp; omega) (Nat.le_trans H'.out.base_le (by simp)) ?_
                 intro v2 w2 o2 g2 lie2
                 obtain ⟨x2, C2⟩ := (H'.out.gr ((Gr.refl w').alloc (.cells #[.int .i64 m.lps[ls.length].prog, .slice a' m.lps[ls.length].words.length c'] 41))).growL (y := (m.lps[ls.length].prog, ⟨a', m.lps[ls.length].words.length, c'⟩)) g2 o2 rfl (HO'.out.gr ((Gr.refl _).alloc _)) (by simp [hlt])
                 have hS2 := x2.cell (i := 4) rfl
                 have hF2 := x2.free 4
                 obtain ⟨a2, c2, rfl⟩ := o2.shape
                 have HC2 := Lib.hid C2
                 clear C2 o2 lie2 g2 x2))
          all_goals
            go_wp2
            go_roundg (m.lps.length - (ls.length + 1))
            case measure => omega
            case rel => exact ⟨ls ++ [(m.lps[ls.length].prog, ⟨a', m.lps[ls.length].words.length, c'⟩)], a2, c2, by simp; omega, by simp, by simpa using HC2.out⟩
        · have hls : ls.length = m.lps.length := by omega
          have HLL := Lib.hid hls
          have p5 := HC.out.a.cell (i := 5) rfl
          have p6 := HC.out.x.cell (i := 5) rfl
          have hsz := Out.lt HC.out.x
          clear hls
          go_wp2_with (at_builtin; refine wpList_append_list rfl _ _ 26 rfl (w.heap.size + 1 + 1 + 1) Try.underlying26 i43 rfl (by omega) (fun _ => rfl) (fun x u hu => by simp [initCells] at hu; rcases hu with rfl | rfl | rfl <;> rfl) (.slice none 0 0) _ rfl rfl [] m.init Own.nil ((Q.out.init.gr InitAt.gr HC.out.g).imp flat_init) ?_ ?_ ?_ ?_)
          · have := HS.out.init; simp [maxLen]; omega
          · have := HS.out.init; simp; omega
          · exact HC.out.base_le
          intro v4 w4 o4 gr4 lie4
          clear lie4
          have gg4 := (Gr.refl wr).grown (Own.nil (base := wr.heap.size) (e := 43) (sz := 3) (cells := initCells)) (Nat.le_refl _) gr4
          have D := HC.out.gr gg4
          have x4 := D.x
          obtain ⟨ad4, cd4, rfl⟩ := o4.shape
          have p7 := x4.cell (i := 5) rfl
          have f7 := x4.free 5
          have hsz4 := Out.lt x4
          have X5 := x4.set 5 (.slice ad4 m.init.length cd4)
          have R5 := D.r.set_other (O' := w.heap.size + 1 + 1) (i := 5) (v := .slice ad4 m.init.length cd4) (by omega)
          simp only [List.set_cons_succ, List.set_cons_zero] at X5
          have F := Lib.hid (show CopiedAt m w _ _ _ _ vs ls _ from ⟨D.g.setCell (p := ⟨w.heap.size + 1 + 1, 5, none⟩) (by simp only []; omega) (.slice ad4 m.init.length cd4), D.d.set x4.is (by decide) _, D.p.set x4.is (by decide) _, HVL.out, D.pa.mono (fun _ _ o => o.set x4.is (by decide) _), D.l.set x4.is (by decide) _, HLL.out, D.la.mono (fun _ _ o => o.set x4.is (by decide) _), o4.set x4.is (by decide) _⟩)
          have y0 := x4.cell (i := 0) rfl
          have y1 := x4.cell (i := 1) rfl
          have y2 := x4.cell (i := 2) rfl
          have y3 := x4.cell (i := 3) rfl
          have y4 := x4.cell (i := 4) rfl
          have r4 := D.r
          have z0 := r4.cell (i := 0) rfl
          have z1 := r4.cell (i := 1) rfl
          have z2 := r4.cell (i := 2) rfl
          have z3 := r4.cell (i := 3) rfl
          have z4 := r4.cell (i := 4) rfl
          have z5 := r4.cell (i := 5) rfl
          have e0 := r4.free 0
          have e1 := r4.free 1
          have e2 := r4.free 2
          have e3 := r4.free 3
          have e4 := r4.free 4
          have e5 := r4.free 5
          clear D gr4 o4 gg4 x4 r4
          have HX5 := Lib.hid X5
          have HR5 := Lib.hid R5
          clear X5 R5
          go_wp2
          obtain ⟨F1, O1⟩ := F.out.set HR5.out (by omega) 0 (.int .i64 m.seed)
          obtain ⟨F2, O2⟩ := F1.set O1 (by omega) 1 (.float .f64 m.fin)
          obtain ⟨F3, O3⟩ := F2.set O2 (by omega) 2 (.slice ad1 m.delays.length cd1)
          obtain ⟨F4, O4⟩ := F3.set O3 (by omega) 3 (.slice a vs.length c)
          obtain ⟨F5, O5⟩ := F4.set O4 (by omega) 4 (.slice a3 ls.length c3)
          obtain ⟨F6, O6⟩ := F5.set O5 (by omega) 5 (.slice ad4 m.init.length cd4)
          clear F1 O1 F2 O2 F3 O3 F4 O4 F5 O5 z0 z1 z2 z3 z4 z5 y0 y1 y2 y3 y4 e0 e1 e2 e3 e4 e5
          generalize (((((((w4.setCell _ _).setCell _ _).setCell _ _).setCell _ _).setCell _ _).setCell _ _).setCell _ _) = W9 at *
          simp only [List.set_cons_succ, List.set_cons_zero] at O6
          have z0 := O6.cell (i := 0) rfl
          have z1 := O6.cell (i := 1) rfl
          have z2 := O6.cell (i := 2) rfl
          have z3 := O6.cell (i := 3) rfl
          have z4 := O6.cell (i := 4) rfl
          have z5 := O6.cell (i := 5) rfl
          try simp only [Exit.inBlock, Exit.then]
          refine bodyPost_ret (v := .agg #[.int .i64 m.seed, .float .f64 m.fin, .slice ad1 m.delays.length cd1, .slice a vs.length c, .slice a3 ls.length c3, .slice ad4 m.init.length cd4]) ?_ rfl ⟨_, _, _, _, _, _, rfl, F6⟩
          simp [results, Try.results37, go_sem, z0, z1, z2, z3, z4, z5]
end Go.Proofs.Ytkoopobfelcgpaa
