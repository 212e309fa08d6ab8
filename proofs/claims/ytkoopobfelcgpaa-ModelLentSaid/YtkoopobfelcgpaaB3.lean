/- layer 5: the laws' walks: ModelLent -/
import Derived.Test.YtkoopobfelcgpaaB2
import Derived.Deep.CutRange
namespace Go.Proofs.Ytkoopobfelcgpaa
open Go.RowKit


/-- All the slices of a model are its own: no word on the world before. -/
structure Owned (m : PModel) (base : Nat) (v1 v2 v3 v4 : Value) (vs : List SV) (ls : List (Int × SV)) (W : World) : Prop where
  d : Own base 22 1 floatCells W v1 m.delays
  p : Own base 38 1 valCells W v2 vs
  pn : vs.length = m.programs.length
  pa : OwnAll base W vs m.programs
  l : Own base 41 2 lpCells W v3 ls
  ln : ls.length = m.lps.length
  la : OwnLPs base W ls m.lps
  i : Own base 43 3 initCells W v4 m.init

section
variable {m : PModel} {base : Nat} {v1 v2 v3 v4 : Value} {vs : List SV} {ls : List (Int × SV)} {w W W' : World}
theorem CopiedAt.owned (h : CopiedAt m w v1 v2 v3 v4 vs ls W) : Owned m (w.heap.size + 1 + 1 + 1) v1 v2 v3 v4 vs ls W := ⟨h.d, h.p, h.pn, h.pa, h.l, h.ln, h.la, h.i⟩
theorem Owned.gr (h : Owned m base v1 v2 v3 v4 vs ls W) (g : Gr W W') : Owned m base v1 v2 v3 v4 vs ls W' :=
  ⟨h.d.gr g, h.p.gr g, h.pn, h.pa.mono (fun _ _ o => o.gr g), h.l.gr g, h.ln, h.la.mono (fun _ _ o => o.gr g), h.i.gr g⟩
theorem Owned.at (h : Owned m base v1 v2 v3 v4 vs ls W) : ModelAt W v1 v2 v3 v4 m :=
  ⟨(Own.sl (cells := floatCells) (fun _ => rfl) h.d).imp float_flat, vals_at h.p h.pn h.pa, lps_at h.l h.ln h.la, (Own.sl (cells := initCells) (fun _ => rfl) h.i).imp init_flat⟩
/-- A store into a block of type 28 leaves it. -/
theorem Owned.set28 (h : Owned m base v1 v2 v3 v4 vs ls W) {O : Nat} {cs : List Value} (ho : Out 28 W O cs) (i : Nat) (v : Value) : Owned m base v1 v2 v3 v4 vs ls (W.setCell ⟨O, i, none⟩ v) :=
  ⟨h.d.set ho.is (by decide) _, h.p.set ho.is (by decide) _, h.pn, h.pa.mono (fun _ _ o => o.set ho.is (by decide) _), h.l.set ho.is (by decide) _, h.ln, h.la.mono (fun _ _ o => o.set ho.is (by decide) _), h.i.set ho.is (by decide) _⟩

/-- What holds of all its blocks. -/
def Blocks (P : Nat → Prop) (v1 v2 v3 v4 : Value) (vs : List SV) (ls : List (Int × SV)) : Prop :=
  (∀ g, v1.ownBlock = some g → P g) ∧ (∀ g, v2.ownBlock = some g → P g) ∧ (∀ g, v3.ownBlock = some g → P g) ∧ (∀ g, v4.ownBlock = some g → P g) ∧
    (∀ (i : Nat) v, vs[i]? = some v → ∀ g, v.val.ownBlock = some g → P g) ∧ ∀ (i : Nat) y, ls[i]? = some y → ∀ g, y.2.val.ownBlock = some g → P g

theorem own_top {α : Type} {e sz : Nat} {cells : α → List Value} {v : Value} {l : List α} (h : Own base e sz cells W v l) : ∀ g, v.ownBlock = some g → g < W.heap.size := by
  intro g hg
  rcases h.block with h0 | ⟨g', cur, h1, -, h2⟩
  · rw [h0] at hg; cases hg
  · rw [h1] at hg
    injection hg with hg
    subst hg
    rcases Nat.lt_or_ge g' W.heap.size with k | k
    · exact k
    · rw [Array.getElem?_eq_none k] at h2; cases h2
theorem get_of {α β : Type} {l : List α} {r : List β} (h : l.length = r.length) {i : Nat} {x : α} (hx : l[i]? = some x) : ∃ y, r[i]? = some y := by
  rcases Nat.lt_or_ge i l.length with k | k
  · exact ⟨_, List.getElem?_eq_getElem (h ▸ k)⟩
  · rw [List.getElem?_eq_none k] at hx; cases hx
theorem Owned.top (h : Owned m base v1 v2 v3 v4 vs ls W) : Blocks (fun g => g < W.heap.size) v1 v2 v3 v4 vs ls :=
  ⟨own_top h.d, own_top h.p, own_top h.l, own_top h.i, fun i v hv => by obtain ⟨p, hp⟩ := get_of h.pn hv; exact own_top (h.pa i v p hv hp), fun i y hy => by obtain ⟨x, hx⟩ := get_of h.ln hy; exact own_top (h.la i y x hy hx).2⟩
theorem own_away {α : Type} {e sz O i : Nat} {u : Value} {cells : α → List Value} {v : Value} {l : List α} (h : Own base e sz cells W v l) (hne : ∀ g, v.ownBlock = some g → g ≠ O) : Own base e sz cells (W.setCell ⟨O, i, none⟩ u) v l := by
  refine World.ownsRow.kept (row := some O) h ⟨rfl, rfl, rfl, by simp [World.setCell], fun k _ hk => Below.heap_setCell W _ u k (fun e => hk (by rw [e]))⟩ ?_
  right
  intro hv
  exact hne O hv rfl
theorem Owned.away {O i : Nat} {u : Value} (h : Owned m base v1 v2 v3 v4 vs ls W) (hb : Blocks (fun g => g ≠ O) v1 v2 v3 v4 vs ls) : Owned m base v1 v2 v3 v4 vs ls (W.setCell ⟨O, i, none⟩ u) :=
  ⟨own_away h.d hb.1, own_away h.p hb.2.1, h.pn, fun i v p hv hp => own_away (h.pa i v p hv hp) (hb.2.2.2.2.1 i v hv), own_away h.l hb.2.2.1, h.ln, fun i y x hy hx => ⟨(h.la i y x hy hx).1, own_away (h.la i y x hy hx).2 (hb.2.2.2.2.2 i y hy)⟩, own_away h.i hb.2.2.2.1⟩
theorem Blocks.imp {P R : Nat → Prop} (hi : ∀ g, P g → R g) (h : Blocks P v1 v2 v3 v4 vs ls) : Blocks R v1 v2 v3 v4 vs ls :=
  ⟨fun g k => hi g (h.1 g k), fun g k => hi g (h.2.1 g k), fun g k => hi g (h.2.2.1 g k), fun g k => hi g (h.2.2.2.1 g k), fun i v hv g k => hi g (h.2.2.2.2.1 i v hv g k), fun i v hv g k => hi g (h.2.2.2.2.2 i v hv g k)⟩
end

/-- A block of type e, at least n cells, that is not frozen. -/
def Room (base e : Nat) (W : World) (g n : Nat) : Prop := base ≤ g ∧ ∃ cs, W.heap[g]? = some (.cells cs e (0, 0)) ∧ n ≤ cs.size
def RoomS (base e sz : Nat) (W : World) (v : Value) (n : Nat) : Prop := ∃ a c, v = .slice a n c ∧ (n ≤ c ∧ c ≤ maxLen) ∧ ((a = none → n = 0) ∧ ∀ b, a = some b → ∃ g, b = ⟨g, 0, none⟩ ∧ Room base e W g (n * sz))
theorem Room.set {base e g n O i : Nat} {W : World} {u : Value} (h : Room base e W g n) : Room base e (W.setCell ⟨O, i, none⟩ u) g n := by
  obtain ⟨hb, cs, h1, h2⟩ := h
  refine ⟨hb, ?_⟩
  by_cases e1 : g = O
  · subst e1
    refine ⟨cs.setIfInBounds i u, ?_, by simpa using h2⟩
    simp only [World.setCell]
    rw [Array.getElem?_modify]
    simp [h1]
  · exact ⟨cs, by rw [Below.heap_setCell W _ u g e1]; exact h1, h2⟩
theorem RoomS.set {base e sz n O i : Nat} {W : World} {u v : Value} (h : RoomS base e sz W v n) : RoomS base e sz (W.setCell ⟨O, i, none⟩ u) v n := by
  obtain ⟨a, c, h1, h2, h3, h4⟩ := h
  exact ⟨a, c, h1, h2, h3, fun b hb => by obtain ⟨g, k1, k2⟩ := h4 b hb; exact ⟨g, k1, k2.set⟩⟩
theorem RoomS.of {α : Type} {base e sz : Nat} {cells : α → List Value} {W : World} {v : Value} {l : List α} (h : Own base e sz cells W v l) : RoomS base e sz W v l.length := by
  obtain ⟨-, ⟨rfl, hn⟩ | ⟨g, cap, cur, rfl, hb, hg, hnc, hcm, hcs, ht⟩⟩ := h
  · exact ⟨none, 0, by rw [hn], ⟨by omega, by simp⟩, fun _ => hn, fun _ e => by cases e⟩
  · refine ⟨_, _, rfl, ⟨hnc, hcm⟩, fun e => (by cases e), fun b e => ⟨g, by injection e with e; exact e.symm, hb, cur, hg, ?_⟩⟩
    rw [hcs]
    exact Nat.mul_le_mul_right _ hnc
theorem Room.cell {base e g n i : Nat} {W : World} (h : Room base e W g n) (hi : i < n) : ∃ u, W.cell? ⟨g, i, none⟩ = some u := by
  obtain ⟨-, cs, h1, h2⟩ := h
  exact ⟨cs[i], by simp [World.cell?, h1, Nat.lt_of_lt_of_le hi h2]⟩
theorem Room.free {base e g n : Nat} {W : World} (h : Room base e W g n) (i : Nat) : W.frozen? ⟨g, i, none⟩ = false := by
  obtain ⟨-, cs, h1, h2⟩ := h
  simp [World.frozen?, h1]

/-- The second copy, that is written into. -/
structure Lent (m : PModel) (base : Nat) (v1 v2 v3 v4 : Value) (vs : List SV) (ls : List (Int × SV)) (W : World) : Prop where
  d : RoomS base 22 1 W v1 m.delays.length
  p : Own base 38 1 valCells W v2 vs
  pn : vs.length = m.programs.length
  pa : ∀ (i : Nat) v p, vs[i]? = some v → m.programs[i]? = some p → RoomS base 34 4 W v.val p.length
  l : RoomS base 41 2 W v3 ls.length
  ln : ls.length = m.lps.length
  lh : ∀ (i : Nat) y, ls[i]? = some y → ∃ g, v3.ownBlock = some g ∧ W.cell? ⟨g, i * 2 + 1, none⟩ = some y.2.val
  la : ∀ (i : Nat) y x, ls[i]? = some y → m.lps[i]? = some x → RoomS base 3 1 W y.2.val x.words.length
  i : RoomS base 43 3 W v4 m.init.length

section
variable {m : PModel} {base : Nat} {v1 v2 v3 v4 : Value} {vs : List SV} {ls : List (Int × SV)} {w W W' : World}
theorem Owned.lent (h : Owned m base v1 v2 v3 v4 vs ls W) : Lent m base v1 v2 v3 v4 vs ls W := by
  refine ⟨RoomS.of h.d, h.p, h.pn, fun i v p hv hp => RoomS.of (h.pa i v p hv hp), RoomS.of h.l, h.ln, fun i y hy => ?_, fun i y x hy hx => RoomS.of (h.la i y x hy hx).2, RoomS.of h.i⟩
  have hl := h.l
  obtain ⟨a, c, e, -, -, -, h4⟩ := Own.sl (cells := lpCells) (fun _ => rfl) hl
  obtain ⟨b, o, ea, hf⟩ := h4 i y hy
  subst ea
  rcases hl.2 with ⟨e', hn⟩ | ⟨g, cap, cur, e', -⟩
  · rw [e] at e'; cases e'
  · rw [e] at e'
    injection e' with e1
    injection e1 with e1
    injection e1 with e1 e2
    subst e1 e2
    refine ⟨b, by rw [e]; rfl, ?_⟩
    have := hf 1 _ rfl
    simpa [SV.val] using this
theorem Lent.set {O i T n : Nat} {u : Value} (h : Lent m base v1 v2 v3 v4 vs ls W) (hr : Room base T W O n) (h38 : (38 : Nat) ≠ T) (h41 : (41 : Nat) ≠ T ∨ i % 2 = 0) : Lent m base v1 v2 v3 v4 vs ls (W.setCell ⟨O, i, none⟩ u) := by
  obtain ⟨hb, cs, hO, hn⟩ := hr
  refine ⟨h.d.set, h.p.set hO h38 _, h.pn, fun i v p hv hp => (h.pa i v p hv hp).set, h.l.set, h.ln, fun k y hy => ?_, fun i y x hy hx => (h.la i y x hy hx).set, h.i.set⟩
  obtain ⟨g, hg, hc⟩ := h.lh k y hy
  refine ⟨g, hg, ?_⟩
  by_cases e : g = O
  · subst e
    rcases h41 with h41 | h41
    · exfalso
      obtain ⟨a, c, rfl, -, -, h4⟩ := h.l
      cases a with
      | none => cases hg
      | some b =>
        obtain ⟨g', rfl, -, cs', k1, -⟩ := h4 b rfl
        injection hg with hg
        subst hg
        rw [k1] at hO
        injection hO with hO
        injection hO with _ hO
        exact h41 hO
    · exact cell_set_off hc (by omega)
  · exact cell_set_other hc (by simpa using e)

/-- The worlds of ModelLent's loops. w' : behind light; the argument's box lies at O1, the copies' boxes at b3, b4. -/
structure LentAt (m : PModel) (w' : World) (O1 : Nat) (arg : List Value) (b3 b4 ba base : Nat) (u1 u2 u3 u4 : Value) (us : List SV) (ks : List (Int × SV)) (v1 v2 v3 v4 : Value) (vs : List SV) (ls : List (Int × SV)) (W : World) : Prop where
  g : Gr w' W
  gb : w'.heap.size ≤ base
  o1 : Out 28 W O1 arg
  o3 : Out 28 W b3 [.int .i64 m.seed, .float .f64 m.fin, u1, u2, u3, u4]
  o4 : Out 28 W b4 [.int .i64 m.seed, .float .f64 m.fin, v1, v2, v3, v4]
  a : Owned m ba u1 u2 u3 u4 us ks W
  ab : Blocks (fun g => g < base) u1 u2 u3 u4 us ks
  b : Lent m base v1 v2 v3 v4 vs ls W
theorem LentAt.set {w' : World} {O1 b3 b4 ba : Nat} {arg : List Value} {u1 u2 u3 u4 : Value} {us : List SV} {ks : List (Int × SV)} {O i T n : Nat} {u : Value} (h : LentAt m w' O1 arg b3 b4 ba base u1 u2 u3 u4 us ks v1 v2 v3 v4 vs ls W)
    (hr : Room base T W O n) (h38 : (38 : Nat) ≠ T) (h28 : (28 : Nat) ≠ T) (h41 : (41 : Nat) ≠ T ∨ i % 2 = 0) : LentAt m w' O1 arg b3 b4 ba base u1 u2 u3 u4 us ks v1 v2 v3 v4 vs ls (W.setCell ⟨O, i, none⟩ u) := by
  have hne : ∀ {O' : Nat} {cs : List Value}, Out 28 W O' cs → O' ≠ O := by
    intro O' cs ho e
    subst e
    obtain ⟨-, cs', k1, -⟩ := hr
    rw [Out.is ho] at k1
    injection k1 with k1
    injection k1 with _ k1
    exact h28 k1
  exact ⟨h.g.setCell (p := ⟨O, i, none⟩) (Nat.le_trans h.gb hr.1) u, h.gb, h.o1.set_other (hne h.o1), h.o3.set_other (hne h.o3), h.o4.set_other (hne h.o4), h.a.away (h.ab.imp fun g k => by have := hr.1; omega), h.ab, h.b.set hr h38 h41⟩
theorem LentAt.gr {w' : World} {O1 b3 b4 ba : Nat} {arg : List Value} {u1 u2 u3 u4 : Value} {us : List SV} {ks : List (Int × SV)} (h : LentAt m w' O1 arg b3 b4 ba base u1 u2 u3 u4 us ks v1 v2 v3 v4 vs ls W) (g : Gr W W') :
    Gr w' W' ∧ Out 28 W' O1 arg ∧ Out 28 W' b3 [.int .i64 m.seed, .float .f64 m.fin, u1, u2, u3, u4] ∧ ModelAt W' u1 u2 u3 u4 m := ⟨h.g.trans g, h.o1.gr g, h.o3.gr g, (h.a.gr g).at⟩
end
end Go.Proofs.Ytkoopobfelcgpaa
