/- layer 5: the law's walk: ModelLent -/
import Derived.Test.YtkoopobfelcgpaaB3
namespace Go.Proofs.Ytkoopobfelcgpaa
open Go.RowKit

abbrev zeros28 : List Value := [.int .i64 0, .float .f64 0, .slice none 0 0, .slice none 0 0, .slice none 0 0, .slice none 0 0]
def set6 (W : World) (O : Nat) (c0 c1 c2 c3 c4 c5 : Value) : World := (((((W.setCell ⟨O, 0, none⟩ c0).setCell ⟨O, 1, none⟩ c1).setCell ⟨O, 2, none⟩ c2).setCell ⟨O, 3, none⟩ c3).setCell ⟨O, 4, none⟩ c4).setCell ⟨O, 5, none⟩ c5
theorem Out.new' {W : World} {O : Nat} {cs : List Value} (h : O = W.heap.size) : Out 28 (W.alloc (.cells cs.toArray 28)) O cs := by subst h; exact Out.new
theorem Out.set6 {W : World} {O : Nat} {c0 c1 c2 c3 c4 c5 : Value} (h : Out 28 W O zeros28) : Out 28 ((((((W.setCell ⟨O, 0, none⟩ c0).setCell ⟨O, 1, none⟩ c1).setCell ⟨O, 2, none⟩ c2).setCell ⟨O, 3, none⟩ c3).setCell ⟨O, 4, none⟩ c4).setCell ⟨O, 5, none⟩ c5) O [c0, c1, c2, c3, c4, c5] := by
  simpa [zeros28] using (((((h.set 0 c0).set 1 c1).set 2 c2).set 3 c3).set 4 c4).set 5 c5
theorem Out.oth6 {W : World} {O O' : Nat} {cs : List Value} {c0 c1 c2 c3 c4 c5 : Value} (h : Out 28 W O cs) (hne : O ≠ O') : Out 28 ((((((W.setCell ⟨O', 0, none⟩ c0).setCell ⟨O', 1, none⟩ c1).setCell ⟨O', 2, none⟩ c2).setCell ⟨O', 3, none⟩ c3).setCell ⟨O', 4, none⟩ c4).setCell ⟨O', 5, none⟩ c5) O cs :=
  (((((h.set_other hne).set_other hne).set_other hne).set_other hne).set_other hne).set_other hne
theorem Owned.set6 {m : PModel} {base : Nat} {v1 v2 v3 v4 : Value} {vs : List SV} {ls : List (Int × SV)} {W : World} (h : Owned m base v1 v2 v3 v4 vs ls W) {O : Nat} {c0 c1 c2 c3 c4 c5 : Value} (ho : Out 28 W O zeros28) :
    Owned m base v1 v2 v3 v4 vs ls ((((((W.setCell ⟨O, 0, none⟩ c0).setCell ⟨O, 1, none⟩ c1).setCell ⟨O, 2, none⟩ c2).setCell ⟨O, 3, none⟩ c3).setCell ⟨O, 4, none⟩ c4).setCell ⟨O, 5, none⟩ c5) :=
  (((((h.set28 ho 0 c0).set28 (ho.set 0 c0) 1 c1).set28 ((ho.set 0 c0).set 1 c1) 2 c2).set28 (((ho.set 0 c0).set 1 c1).set 2 c2) 3 c3).set28 ((((ho.set 0 c0).set 1 c1).set 2 c2).set 3 c3) 4 c4).set28 (((((ho.set 0 c0).set 1 c1).set 2 c2).set 3 c3).set 4 c4) 5 c5
theorem Gr.set6 {w W : World} (h : Gr w W) {O : Nat} {c0 c1 c2 c3 c4 c5 : Value} (ho : w.heap.size ≤ O) :
    Gr w ((((((W.setCell ⟨O, 0, none⟩ c0).setCell ⟨O, 1, none⟩ c1).setCell ⟨O, 2, none⟩ c2).setCell ⟨O, 3, none⟩ c3).setCell ⟨O, 4, none⟩ c4).setCell ⟨O, 5, none⟩ c5) :=
  (((((h.setCell (p := ⟨O, 0, none⟩) ho c0).setCell (p := ⟨O, 1, none⟩) ho c1).setCell (p := ⟨O, 2, none⟩) ho c2).setCell (p := ⟨O, 3, none⟩) ho c3).setCell (p := ⟨O, 4, none⟩) ho c4).setCell (p := ⟨O, 5, none⟩) ho c5

theorem mkLent {m : PModel} {w' wa wb w3 w4 W : World} {O1 B3 B4 : Nat} {arg : List Value} {u1 u2 u3 u4 v1 v2 v3 v4 : Value} {us vs : List SV} {ks ls : List (Int × SV)} (hca : CopiedAt m wa u1 u2 u3 u4 us ks w3) (_hc : CopiedAt m wb v1 v2 v3 v4 vs ls w4)
    (hz : w'.heap.size ≤ w3.heap.size) (hz' : w3.heap.size ≤ wb.heap.size) (g : Gr w' W) (o1 : Out 28 W O1 arg) (o3 : Out 28 W B3 [.int .i64 m.seed, .float .f64 m.fin, u1, u2, u3, u4]) (o4 : Out 28 W B4 [.int .i64 m.seed, .float .f64 m.fin, v1, v2, v3, v4])
    (a : Owned m (wa.heap.size + 1 + 1 + 1) u1 u2 u3 u4 us ks W) (b : Owned m (wb.heap.size + 1 + 1 + 1) v1 v2 v3 v4 vs ls W) :
    ∃ (b3 b4 ba base : Nat) (u1 u2 u3 u4 : Value) (us : List SV) (ks : List (Int × SV)) (v1 v2 v3 v4 : Value) (vs : List SV) (ls : List (Int × SV)), Value.pointer (some ⟨B3, 0, none⟩) = .pointer (some ⟨b3, 0, none⟩) ∧ Value.pointer (some ⟨B4, 0, none⟩) = .pointer (some ⟨b4, 0, none⟩) ∧
      LentAt m w' O1 arg b3 b4 ba base u1 u2 u3 u4 us ks v1 v2 v3 v4 vs ls W :=
  ⟨B3, B4, _, _, u1, u2, u3, u4, us, ks, v1, v2, v3, v4, vs, ls, rfl, rfl, ⟨g, by omega, o1, o3, o4, a, hca.owned.top.imp (fun k hk => by omega), b.lent⟩⟩


section
variable {m : PModel} {w' wa wb w3 w4 : World} {O1 O O' : Nat} {arg : List Value} {u1 u2 u3 u4 v1 v2 v3 v4 : Value} {us vs : List SV} {ks ls : List (Int × SV)}
abbrev LentGoal (m : PModel) (w' : World) (O1 : Nat) (arg : List Value) (B3 B4 : Nat) (W : World) : Prop :=
  ∃ (b3 b4 ba base : Nat) (u1 u2 u3 u4 : Value) (us : List SV) (ks : List (Int × SV)) (v1 v2 v3 v4 : Value) (vs : List SV) (ls : List (Int × SV)), Value.pointer (some ⟨B3, 0, none⟩) = .pointer (some ⟨b3, 0, none⟩) ∧ Value.pointer (some ⟨B4, 0, none⟩) = .pointer (some ⟨b4, 0, none⟩) ∧
      LentAt m w' O1 arg b3 b4 ba base u1 u2 u3 u4 us ks v1 v2 v3 v4 vs ls W
theorem fin1a (hca : CopiedAt m wa u1 u2 u3 u4 us ks w3) (hc : CopiedAt m wb v1 v2 v3 v4 vs ls w4) (hz : w'.heap.size ≤ w3.heap.size) (hz' : w3.heap.size ≤ wb.heap.size) (g : Gr w3 w4) (hg : Gr w' w4) (o1 : Out 28 w' O1 arg) :
    LentGoal m w' O1 arg w4.heap.size (w4.heap.size + 1) ((w4.alloc (.cells #[.int .i64 m.seed, .float .f64 m.fin, u1, u2, u3, u4] 28)).alloc (.cells #[.int .i64 m.seed, .float .f64 m.fin, v1, v2, v3, v4] 28)) :=
  mkLent hca hc hz hz' ((hg.alloc _).alloc _) (((o1.gr hg).alloc _).alloc _) (Out.new.alloc _) (Out.new' (by simp)) ((hca.owned.gr g).gr (((Gr.refl _).alloc _).alloc _)) (hc.owned.gr (((Gr.refl _).alloc _).alloc _))
theorem fin1b (hca : CopiedAt m wa u1 u2 u3 u4 us ks w3) (hc : CopiedAt m wb v1 v2 v3 v4 vs ls w4) (hz : w'.heap.size ≤ w3.heap.size) (hz' : w3.heap.size ≤ wb.heap.size) (g : Gr w3 w4) (hg : Gr w' w4) (o1 : Out 28 w' O1 arg) :
    LentGoal m w' O1 arg (w4.heap.size + 1) w4.heap.size ((w4.alloc (.cells #[.int .i64 m.seed, .float .f64 m.fin, v1, v2, v3, v4] 28)).alloc (.cells #[.int .i64 m.seed, .float .f64 m.fin, u1, u2, u3, u4] 28)) :=
  mkLent hca hc hz hz' ((hg.alloc _).alloc _) (((o1.gr hg).alloc _).alloc _) (Out.new' (by simp)) (Out.new.alloc _) ((hca.owned.gr g).gr (((Gr.refl _).alloc _).alloc _)) (hc.owned.gr (((Gr.refl _).alloc _).alloc _))
theorem fin2a (hca : CopiedAt m wa u1 u2 u3 u4 us ks w3) (hc : CopiedAt m wb v1 v2 v3 v4 vs ls w4) (hz : w'.heap.size ≤ w3.heap.size) (hz' : w3.heap.size ≤ wb.heap.size) (g : Gr w3 w4) (hg : Gr w' w4) (o1 : Out 28 w' O1 arg) (z : Out 28 w4 O zeros28) (hO : w'.heap.size ≤ O) :
    LentGoal m w' O1 arg O w4.heap.size (((((((w4.setCell ⟨O, 0, none⟩ (.int .i64 m.seed)).setCell ⟨O, 1, none⟩ (.float .f64 m.fin)).setCell ⟨O, 2, none⟩ u1).setCell ⟨O, 3, none⟩ u2).setCell ⟨O, 4, none⟩ u3).setCell ⟨O, 5, none⟩ u4).alloc (.cells #[.int .i64 m.seed, .float .f64 m.fin, v1, v2, v3, v4] 28)) :=
  have l1 := Out.lt o1
  mkLent hca hc hz hz' ((hg.set6 hO).alloc _) (((o1.gr hg).oth6 (by omega)).alloc _) (z.set6.alloc _) (Out.new' (by simp [World.size_setCell])) (((hca.owned.gr g).set6 z).gr ((Gr.refl _).alloc _)) ((hc.owned.set6 z).gr ((Gr.refl _).alloc _))
theorem fin2b (hca : CopiedAt m wa u1 u2 u3 u4 us ks w3) (hc : CopiedAt m wb v1 v2 v3 v4 vs ls w4) (hz : w'.heap.size ≤ w3.heap.size) (hz' : w3.heap.size ≤ wb.heap.size) (g : Gr w3 w4) (hg : Gr w' w4) (o1 : Out 28 w' O1 arg) (z : Out 28 w4 O zeros28) (hO : w'.heap.size ≤ O) :
    LentGoal m w' O1 arg w4.heap.size O (((((((w4.setCell ⟨O, 0, none⟩ (.int .i64 m.seed)).setCell ⟨O, 1, none⟩ (.float .f64 m.fin)).setCell ⟨O, 2, none⟩ v1).setCell ⟨O, 3, none⟩ v2).setCell ⟨O, 4, none⟩ v3).setCell ⟨O, 5, none⟩ v4).alloc (.cells #[.int .i64 m.seed, .float .f64 m.fin, u1, u2, u3, u4] 28)) :=
  have l1 := Out.lt o1
  mkLent hca hc hz hz' ((hg.set6 hO).alloc _) (((o1.gr hg).oth6 (by omega)).alloc _) (Out.new' (by simp [World.size_setCell])) (z.set6.alloc _) (((hca.owned.gr g).set6 z).gr ((Gr.refl _).alloc _)) ((hc.owned.set6 z).gr ((Gr.refl _).alloc _))
theorem fin3 (hca : CopiedAt m wa u1 u2 u3 u4 us ks w3) (hc : CopiedAt m wb v1 v2 v3 v4 vs ls w4) (hz : w'.heap.size ≤ w3.heap.size) (hz' : w3.heap.size ≤ wb.heap.size) (g : Gr w3 w4) (hg : Gr w' w4) (o1 : Out 28 w' O1 arg) (z : Out 28 w4 O zeros28) (hO : w'.heap.size ≤ O) (z' : Out 28 w4 O' zeros28) (hO' : w'.heap.size ≤ O') (hne : O ≠ O') :
    LentGoal m w' O1 arg O O' ((((((((((((w4.setCell ⟨O, 0, none⟩ (.int .i64 m.seed)).setCell ⟨O, 1, none⟩ (.float .f64 m.fin)).setCell ⟨O, 2, none⟩ u1).setCell ⟨O, 3, none⟩ u2).setCell ⟨O, 4, none⟩ u3).setCell ⟨O, 5, none⟩ u4).setCell ⟨O', 0, none⟩ (.int .i64 m.seed)).setCell ⟨O', 1, none⟩ (.float .f64 m.fin)).setCell ⟨O', 2, none⟩ v1).setCell ⟨O', 3, none⟩ v2).setCell ⟨O', 4, none⟩ v3).setCell ⟨O', 5, none⟩ v4) :=
  have l1 := Out.lt o1
  mkLent hca hc hz hz' ((hg.set6 hO).set6 hO') (((o1.gr hg).oth6 (by omega)).oth6 (by omega)) (z.set6.oth6 hne) ((z'.oth6 (fun e => hne e.symm)).set6) (((hca.owned.gr g).set6 z).set6 (z'.oth6 (fun e => hne e.symm))) ((hc.owned.set6 z).set6 (z'.oth6 (fun e => hne e.symm)))
end
theorem RoomS.at {base e sz n c : Nat} {W : World} {a : Option Addr} (h : RoomS base e sz W (.slice a n c) n) (hn : 0 < n) : ∃ g, a = some ⟨g, 0, none⟩ ∧ Room base e W g (n * sz) := by
  obtain ⟨a', c', e1, ⟨h1, h2⟩, h3, h4⟩ := h
  injection e1 with e1 e2 e3
  subst e1
  cases a with
  | none => have := h3 rfl; omega
  | some b => obtain ⟨g, rfl, hr⟩ := h4 b rfl; exact ⟨g, rfl, hr⟩
theorem RoomS.cap {base e sz n c : Nat} {W : World} {a : Option Addr} (h : RoomS base e sz W (.slice a n c) n) : n ≤ c ∧ c ≤ 2 ^ 63 - 1 := by
  obtain ⟨a', c', e1, ⟨h1, h2⟩, h3, h4⟩ := h
  injection e1 with e1 e2 e3
  subst e3
  exact ⟨h1, h2⟩

theorem RoomS.self {base e sz n c k : Nat} {W : World} {a : Option Addr} (h : RoomS base e sz W (.slice a n c) k) : RoomS base e sz W (.slice a n c) n := by
  have h' := h
  obtain ⟨a', c', e1, -⟩ := h
  injection e1 with e1 e2 e3
  subst e2
  exact h'
theorem Lent.row {m : PModel} {base : Nat} {v1 v3 v4 : Value} {a : Option Addr} {n c : Nat} {vs : List SV} {ls : List (Int × SV)} {W : World} (h : Lent m base v1 (.slice a n c) v3 v4 vs ls W) {k : Nat} {va : Option Addr} {vn vc : Nat} (hk : vs[k]? = some ⟨va, vn, vc⟩) :
    ∃ b o, a = some ⟨b, o, none⟩ ∧ W.cell? ⟨b, o + k, none⟩ = some (.slice va vn vc) ∧ RoomS base 34 4 W (.slice va vn vc) vn := by
  obtain ⟨a', c', e, -, -, -, h4⟩ := Own.sl (cells := valCells) (fun _ => rfl) h.p
  obtain ⟨b, o, ea, hf⟩ := h4 k _ hk
  injection e with e1 e2 e3
  subst e1
  obtain ⟨p, hp⟩ := get_of h.pn hk
  refine ⟨b, o, ea, ?_, (h.pa k _ p hk hp).self⟩
  have := hf 0 _ rfl
  simpa using this
theorem Lent.cap2 {m : PModel} {base : Nat} {v1 v3 v4 : Value} {a : Option Addr} {c : Nat} {vs : List SV} {ls : List (Int × SV)} {W : World} (h : Lent m base v1 (.slice a vs.length c) v3 v4 vs ls W) : vs.length ≤ c ∧ c ≤ 2 ^ 63 - 1 := by
  obtain ⟨a', c', e, h1, h2, -⟩ := Own.sl (cells := valCells) (fun _ => rfl) h.p
  injection e with e1 e2 e3
  subst e3
  exact ⟨h1, h2⟩
theorem Lent.lrow {m : PModel} {base : Nat} {v1 v2 v4 : Value} {a : Option Addr} {c : Nat} {vs : List SV} {ls : List (Int × SV)} {W : World} (h : Lent m base v1 v2 (.slice a ls.length c) v4 vs ls W) {k : Nat} {pr : Int} {va : Option Addr} {vn vc : Nat} (hk : ls[k]? = some (pr, ⟨va, vn, vc⟩)) :
    ∃ g, a = some ⟨g, 0, none⟩ ∧ Room base 41 W g (ls.length * 2) ∧ W.cell? ⟨g, k * 2 + 1, none⟩ = some (.slice va vn vc) ∧ RoomS base 3 1 W (.slice va vn vc) vn := by
  obtain ⟨g, hg, hc⟩ := h.lh k _ hk
  have hlt : k < ls.length := by
    rcases Nat.lt_or_ge k ls.length with q | q
    · exact q
    · rw [List.getElem?_eq_none q] at hk; cases hk
  obtain ⟨g', rfl, hr⟩ := h.l.at (by omega)
  injection hg with hg
  subst hg
  obtain ⟨x, hx⟩ := get_of h.ln hk
  exact ⟨g', rfl, hr, hc, (h.la k _ x hk hx).self⟩

set_option maxHeartbeats 16000000 in
set_option maxRecDepth 100000 in
theorem ModelLent_any (m : PModel) (vd vp vl vi : Value) (w : World) (h : ModelAt w vd vp vl vi m) :
    Calls Try.prog 7 #[.agg #[.int .i64 m.seed, .float .f64 m.fin, vd, vp, vl, vi]] w fun e w' => e = .returned (.bool true) ∧ Gr w w' := by
  have Q := Lib.hid h
  obtain ⟨ad, cd, rfl, -⟩ := h.delays
  obtain ⟨ap, cp, rfl, -⟩ := h.programs
  obtain ⟨al, cl, rfl, -⟩ := h.lps
  obtain ⟨ai, ci, rfl, -⟩ := h.init
  clear h
  have hb := Gr.refl (w.alloc (.cells #[.int .i64 m.seed, .float .f64 m.fin, .slice ad m.delays.length cd, .slice ap m.programs.length cp, .slice al m.lps.length cl, .slice ai m.init.length ci] 28))
  obtain ⟨K, q0, q1, q2, q3, q4, q5⟩ := After.box6 hb
  have HK := Lib.hid K
  clear K
  cases hl : lightB 20 40 60 60 200 100 m
  case false =>
    have HL := Lib.hid hl
    clear hl
    go_enter Try.func7, Try.ntmps7
    go_wp2_with (first
      | (go_at_call 30; refine (Calls.to (light5_any m _ _ _ _ _ (Q.out.gr (HK.out ⟨_, hb⟩))) (boolv HL.out)).mono ?_; rintro e w' ⟨rfl, hg⟩)
      | (go_at_call 29; refine (awake5_any _).mono ?_; rintro e w'' ⟨rfl, hg'⟩))
    go_ret
    exact ⟨rfl, (HK.out ⟨_, hg⟩).trans hg'⟩
  case true =>
    have HS := Lib.hid (small_of hl)
    have HL := Lib.hid hl
    clear hl
    have HR := Lib.hid (sameB_refl m)
    go_enter Try.func7, Try.ntmps7
    go_wp2_with (first
      | (go_at_call 30; refine (Calls.to (light5_any m _ _ _ _ _ (Q.out.gr (HK.out ⟨_, hb⟩))) (boolv HL.out)).mono ?_; rintro e w' ⟨rfl, hg⟩
         have HG := Lib.hid hg
         clear hg))
    have z0 := Lib.hid (fun x : After w' => q0 ⟨_, HG.out.trans x.h⟩)
    have z1 := Lib.hid (fun x : After w' => q1 ⟨_, HG.out.trans x.h⟩)
    have z2 := Lib.hid (fun x : After w' => q2 ⟨_, HG.out.trans x.h⟩)
    have z3 := Lib.hid (fun x : After w' => q3 ⟨_, HG.out.trans x.h⟩)
    have z4 := Lib.hid (fun x : After w' => q4 ⟨_, HG.out.trans x.h⟩)
    have z5 := Lib.hid (fun x : After w' => q5 ⟨_, HG.out.trans x.h⟩)
    clear q0 q1 q2 q3 q4 q5
    have y0 := z0.out ⟨_, (Gr.refl w')⟩
    have y1 := z1.out ⟨_, (Gr.refl w')⟩
    have y2 := z2.out ⟨_, (Gr.refl w')⟩
    have y3 := z3.out ⟨_, (Gr.refl w')⟩
    have y4 := z4.out ⟨_, (Gr.refl w')⟩
    have y5 := z5.out ⟨_, (Gr.refl w')⟩
    have hsz := HG.out.size
    simp only [World.size_alloc] at hsz
    have o1w := Out.gr (Out.new (w := w) (T := 28) (cs := [.int .i64 m.seed, .float .f64 m.fin, .slice ad m.delays.length cd, .slice ap m.programs.length cp, .slice al m.lps.length cl, .slice ai m.init.length ci])) HG.out
    have O1 := Lib.hid o1w
    clear o1w
    go_cut [3, 4] from 15 to 18 (fun t3 t4 W => ∃ (b3 b4 ba base : Nat) (u1 u2 u3 u4 : Value) (us : List SV) (ks : List (Int × SV)) (v1 v2 v3 v4 : Value) (vs : List SV) (ls : List (Int × SV)), t3 = .pointer (some ⟨b3, 0, none⟩) ∧ t4 = .pointer (some ⟨b4, 0, none⟩) ∧
      LentAt m w' w.heap.size [.int .i64 m.seed, .float .f64 m.fin, .slice ad m.delays.length cd, .slice ap m.programs.length cp, .slice al m.lps.length cl, .slice ai m.init.length ci] b3 b4 ba base u1 u2 u3 u4 us ks v1 v2 v3 v4 vs ls W)
    case first =>
      have KS := Lib.hid (fun (W : World) (g : Gr w' W) => show (W.cell? ⟨w.heap.size, 0, none⟩ = some (.int .i64 m.seed) ∧ W.cell? ⟨w.heap.size, 1, none⟩ = some (.float .f64 m.fin) ∧ W.cell? ⟨w.heap.size, 2, none⟩ = some (.slice ad m.delays.length cd) ∧ W.cell? ⟨w.heap.size, 3, none⟩ = some (.slice ap m.programs.length cp) ∧ W.cell? ⟨w.heap.size, 4, none⟩ = some (.slice al m.lps.length cl) ∧ W.cell? ⟨w.heap.size, 5, none⟩ = some (.slice ai m.init.length ci)) ∧ Gr w' W from ⟨⟨z0.out ⟨_, g⟩, z1.out ⟨_, g⟩, z2.out ⟨_, g⟩, z3.out ⟨_, g⟩, z4.out ⟨_, g⟩, z5.out ⟨_, g⟩⟩, g⟩)
      go_region_held3 (fun W => (W.cell? ⟨w.heap.size, 0, none⟩ = some (.int .i64 m.seed) ∧ W.cell? ⟨w.heap.size, 1, none⟩ = some (.float .f64 m.fin) ∧ W.cell? ⟨w.heap.size, 2, none⟩ = some (.slice ad m.delays.length cd) ∧ W.cell? ⟨w.heap.size, 3, none⟩ = some (.slice ap m.programs.length cp) ∧ W.cell? ⟨w.heap.size, 4, none⟩ = some (.slice al m.lps.length cl) ∧ W.cell? ⟨w.heap.size, 5, none⟩ = some (.slice ai m.init.length ci)) ∧ Gr w' W)
        (exact KS.out _ (by (repeat (first | with_reducible exact Gr.refl _ | with_reducible assumption | with_reducible exact And.right (by assumption) | with_reducible refine Gr.drew ?_ | with_reducible refine Gr.alloc ?_ _ | with_reducible refine Gr.set6 ?_ (by omega)))))
        (first
          | (go_at_call 37
             have hmark := HCa
             clear hmark
             refine (Copy_any m _ _ _ _ _ (Q.out.gr (Gr.trans (HK.out ⟨_, HG.out⟩) (And.right (by assumption)))) HS.out).mono ?_
             rintro e w4 ⟨v1, v2, v3, v4, vs, ls, rfl, hc⟩
             obtain ⟨e1, d1, rfl⟩ := hc.d.shape
             obtain ⟨e2, d2, rfl⟩ := hc.p.shape
             obtain ⟨e3, d3, rfl⟩ := hc.l.shape
             obtain ⟨e4, d4, rfl⟩ := hc.i.shape
             have hs4 := hc.g.size
             have hgg : Gr w' w4 := Gr.trans (And.right (by assumption)) hc.g
             have hz4 := hgg.size
             (try (
                  have o0 : Out 28 w4 (w'.heap.size) zeros28 := by (repeat (first | with_reducible assumption | with_reducible exact Out.new' rfl | (with_reducible refine Out.new' ?_; ((simp only [World.size_alloc, World.size_drew, World.size_setCell]) <;> omega); done) | with_reducible refine Out.drew ?_ | with_reducible refine Out.alloc ?_ _ | with_reducible refine Out.set6 ?_ | with_reducible refine Out.oth6 ?_ (by omega) | with_reducible refine Out.gr ?_ (CopiedAt.g (by assumption))))
                  have k0 := o0.cell (i := 0) rfl
                  have k1 := o0.cell (i := 1) rfl
                  have k2 := o0.cell (i := 2) rfl
                  have k3 := o0.cell (i := 3) rfl
                  have k4 := o0.cell (i := 4) rfl
                  have k5 := o0.cell (i := 5) rfl
                  have f0 := o0.free 0
                  have f1 := o0.free 1
                  have f2 := o0.free 2
                  have f3 := o0.free 3
                  have f4 := o0.free 4
                  have f5 := o0.free 5
                  have lt0 := Out.lt o0))
             (try (
                  have o0 : Out 28 w4 (w'.heap.size + 1) zeros28 := by (repeat (first | with_reducible assumption | with_reducible exact Out.new' rfl | (with_reducible refine Out.new' ?_; ((simp only [World.size_alloc, World.size_drew, World.size_setCell]) <;> omega); done) | with_reducible refine Out.drew ?_ | with_reducible refine Out.alloc ?_ _ | with_reducible refine Out.set6 ?_ | with_reducible refine Out.oth6 ?_ (by omega) | with_reducible refine Out.gr ?_ (CopiedAt.g (by assumption))))
                  have k0 := o0.cell (i := 0) rfl
                  have k1 := o0.cell (i := 1) rfl
                  have k2 := o0.cell (i := 2) rfl
                  have k3 := o0.cell (i := 3) rfl
                  have k4 := o0.cell (i := 4) rfl
                  have k5 := o0.cell (i := 5) rfl
                  have f0 := o0.free 0
                  have f1 := o0.free 1
                  have f2 := o0.free 2
                  have f3 := o0.free 3
                  have f4 := o0.free 4
                  have f5 := o0.free 5
                  have lt0 := Out.lt o0))
             (try (
                  have o0 : Out 28 w4 (w3.heap.size) zeros28 := by (repeat (first | with_reducible assumption | with_reducible exact Out.new' rfl | (with_reducible refine Out.new' ?_; ((simp only [World.size_alloc, World.size_drew, World.size_setCell]) <;> omega); done) | with_reducible refine Out.drew ?_ | with_reducible refine Out.alloc ?_ _ | with_reducible refine Out.set6 ?_ | with_reducible refine Out.oth6 ?_ (by omega) | with_reducible refine Out.gr ?_ (CopiedAt.g (by assumption))))
                  have k0 := o0.cell (i := 0) rfl
                  have k1 := o0.cell (i := 1) rfl
                  have k2 := o0.cell (i := 2) rfl
                  have k3 := o0.cell (i := 3) rfl
                  have k4 := o0.cell (i := 4) rfl
                  have k5 := o0.cell (i := 5) rfl
                  have f0 := o0.free 0
                  have f1 := o0.free 1
                  have f2 := o0.free 2
                  have f3 := o0.free 3
                  have f4 := o0.free 4
                  have f5 := o0.free 5
                  have lt0 := Out.lt o0))
             (try (
                  have o0 : Out 28 w4 (w3.heap.size + 1) zeros28 := by (repeat (first | with_reducible assumption | with_reducible exact Out.new' rfl | (with_reducible refine Out.new' ?_; ((simp only [World.size_alloc, World.size_drew, World.size_setCell]) <;> omega); done) | with_reducible refine Out.drew ?_ | with_reducible refine Out.alloc ?_ _ | with_reducible refine Out.set6 ?_ | with_reducible refine Out.oth6 ?_ (by omega) | with_reducible refine Out.gr ?_ (CopiedAt.g (by assumption))))
                  have k0 := o0.cell (i := 0) rfl
                  have k1 := o0.cell (i := 1) rfl
                  have k2 := o0.cell (i := 2) rfl
                  have k3 := o0.cell (i := 3) rfl
                  have k4 := o0.cell (i := 4) rfl
                  have k5 := o0.cell (i := 5) rfl
                  have f0 := o0.free 0
                  have f1 := o0.free 1
                  have f2 := o0.free 2
                  have f3 := o0.free 3
                  have f4 := o0.free 4
                  have f5 := o0.free 5
                  have lt0 := Out.lt o0)))
          | (go_at_call 37
             refine (Copy_any m _ _ _ _ _ (Q.out.gr (Gr.trans (HK.out ⟨_, HG.out⟩) (And.right (by assumption)))) HS.out).mono ?_
             rintro e w3 ⟨u1, u2, u3, u4, us, ks, rfl, hca⟩
             obtain ⟨a1, c1, rfl⟩ := hca.d.shape
             obtain ⟨a2, c2, rfl⟩ := hca.p.shape
             obtain ⟨a3, c3, rfl⟩ := hca.l.shape
             obtain ⟨a4, c4, rfl⟩ := hca.i.shape
             have hs3 := hca.g.size
             have hgg : Gr w' w3 := Gr.trans (And.right (by assumption)) hca.g
             have hz3 := hgg.size
             (try (
                  have o0 : Out 28 w3 (w'.heap.size) zeros28 := by (repeat (first | with_reducible assumption | with_reducible exact Out.new' rfl | (with_reducible refine Out.new' ?_; ((simp only [World.size_alloc, World.size_drew, World.size_setCell]) <;> omega); done) | with_reducible refine Out.drew ?_ | with_reducible refine Out.alloc ?_ _ | with_reducible refine Out.set6 ?_ | with_reducible refine Out.oth6 ?_ (by omega) | with_reducible refine Out.gr ?_ (CopiedAt.g (by assumption))))
                  have k0 := o0.cell (i := 0) rfl
                  have k1 := o0.cell (i := 1) rfl
                  have k2 := o0.cell (i := 2) rfl
                  have k3 := o0.cell (i := 3) rfl
                  have k4 := o0.cell (i := 4) rfl
                  have k5 := o0.cell (i := 5) rfl
                  have f0 := o0.free 0
                  have f1 := o0.free 1
                  have f2 := o0.free 2
                  have f3 := o0.free 3
                  have f4 := o0.free 4
                  have f5 := o0.free 5
                  have lt0 := Out.lt o0))
             (try (
                  have o0 : Out 28 w3 (w'.heap.size + 1) zeros28 := by (repeat (first | with_reducible assumption | with_reducible exact Out.new' rfl | (with_reducible refine Out.new' ?_; ((simp only [World.size_alloc, World.size_drew, World.size_setCell]) <;> omega); done) | with_reducible refine Out.drew ?_ | with_reducible refine Out.alloc ?_ _ | with_reducible refine Out.set6 ?_ | with_reducible refine Out.oth6 ?_ (by omega) | with_reducible refine Out.gr ?_ (CopiedAt.g (by assumption))))
                  have k0 := o0.cell (i := 0) rfl
                  have k1 := o0.cell (i := 1) rfl
                  have k2 := o0.cell (i := 2) rfl
                  have k3 := o0.cell (i := 3) rfl
                  have k4 := o0.cell (i := 4) rfl
                  have k5 := o0.cell (i := 5) rfl
                  have f0 := o0.free 0
                  have f1 := o0.free 1
                  have f2 := o0.free 2
                  have f3 := o0.free 3
                  have f4 := o0.free 4
                  have f5 := o0.free 5
                  have lt0 := Out.lt o0))
             have HCa := hca))
      all_goals (go_wp2; go_meet)
      all_goals
        case rel =>
        have o1w := O1.out
        clear y0 y1 y2 y3 y4 y5
        clear z0 z1 z2 z3 z4 z5
        first
          | with_reducible exact fin1a hca hc hz3 (by first | exact Nat.le_refl _ | (simp only [World.size_alloc] <;> omega)) (by first | with_reducible exact CopiedAt.g hc | with_reducible exact ((Gr.refl _).alloc _).trans (CopiedAt.g hc) | with_reducible exact (((Gr.refl _).alloc _).alloc _).trans (CopiedAt.g hc)) hgg o1w
          | with_reducible exact fin1b hca hc hz3 (by first | exact Nat.le_refl _ | (simp only [World.size_alloc] <;> omega)) (by first | with_reducible exact CopiedAt.g hc | with_reducible exact ((Gr.refl _).alloc _).trans (CopiedAt.g hc) | with_reducible exact (((Gr.refl _).alloc _).alloc _).trans (CopiedAt.g hc)) hgg o1w
          | with_reducible exact fin2a hca hc hz3 (by first | exact Nat.le_refl _ | (simp only [World.size_alloc] <;> omega)) (by first | with_reducible exact CopiedAt.g hc | with_reducible exact ((Gr.refl _).alloc _).trans (CopiedAt.g hc) | with_reducible exact (((Gr.refl _).alloc _).alloc _).trans (CopiedAt.g hc)) hgg o1w (by assumption) (by omega)
          | with_reducible exact fin2b hca hc hz3 (by first | exact Nat.le_refl _ | (simp only [World.size_alloc] <;> omega)) (by first | with_reducible exact CopiedAt.g hc | with_reducible exact ((Gr.refl _).alloc _).trans (CopiedAt.g hc) | with_reducible exact (((Gr.refl _).alloc _).alloc _).trans (CopiedAt.g hc)) hgg o1w (by assumption) (by omega)
          | with_reducible exact fin3 hca hc hz3 (by first | exact Nat.le_refl _ | (simp only [World.size_alloc] <;> omega)) (by first | with_reducible exact CopiedAt.g hc | with_reducible exact ((Gr.refl _).alloc _).trans (CopiedAt.g hc) | with_reducible exact (((Gr.refl _).alloc _).alloc _).trans (CopiedAt.g hc)) hgg o1w (by assumption) (by omega) (by assumption) (by omega) (by omega)
    case rest =>
      obtain ⟨b3, b4, ba, base, x1, x2, x3, x4, us, ks, v1, v2, v3, v4, vs, ls, rfl, rfl, hL⟩ := hcut
      clear z0 z1 z2 z3 z4 z5 y0 y1 y2 y3 y4 y5 O1
      obtain ⟨a1, c1, rfl, -⟩ := hL.b.d
      obtain ⟨a2, c2, rfl⟩ := hL.b.p.shape
      obtain ⟨a3, c3, rfl, -⟩ := hL.b.l
      obtain ⟨a4, c4, rfl, -⟩ := hL.b.i
      obtain ⟨P, hP, hto, hof⟩ : ∃ P : World → Prop, P wc ∧ (∀ W, P W → LentAt m w' w.heap.size [.int .i64 m.seed, .float .f64 m.fin, .slice ad m.delays.length cd, .slice ap m.programs.length cp, .slice al m.lps.length cl, .slice ai m.init.length ci] b3 b4 ba base x1 x2 x3 x4 us ks (.slice a1 m.delays.length c1) (.slice a2 vs.length c2) (.slice a3 ls.length c3) (.slice a4 m.init.length c4) vs ls W) ∧
        (∀ W, LentAt m w' w.heap.size [.int .i64 m.seed, .float .f64 m.fin, .slice ad m.delays.length cd, .slice ap m.programs.length cp, .slice al m.lps.length cl, .slice ai m.init.length ci] b3 b4 ba base x1 x2 x3 x4 us ks (.slice a1 m.delays.length c1) (.slice a2 vs.length c2) (.slice a3 ls.length c3) (.slice a4 m.init.length c4) vs ls W → P W) := ⟨_, hL, fun _ h => h, fun _ h => h⟩
      obtain ⟨i1, n1, rfl⟩ := hL.a.d.shape
      obtain ⟨i2, n2, rfl⟩ := hL.a.p.shape
      obtain ⟨i3, n3, rfl⟩ := hL.a.l.shape
      obtain ⟨i4, n4, rfl⟩ := hL.a.i.shape
      have hd1 := hL.b.d.cap
      have hd2 := hL.b.cap2
      have hd3 := hL.b.l.cap
      have hd4 := hL.b.i.cap
      have hpn := hL.b.pn
      have hln := hL.b.ln
      have HPN := Lib.hid hpn
      have HLN := Lib.hid hln
      have HTO := Lib.hid hto
      have HOF := Lib.hid hof
      clear hL hto hof hpn hln
      go_wp2
      go_loopg [5] m.delays.length (fun g t wr => ∃ k : Nat, g + k = m.delays.length ∧ t = .int .i64 k ∧ P wr)
      case atStart => exact ⟨0, by simp, rfl, hP⟩
      case round =>
        clear hP
        obtain ⟨k, hk, rfl, hp⟩ := hrel
        have HP1 := Lib.hid (HTO.out _ hp)
        have p4 := HP1.out.o4.cell (i := 2) rfl
        by_cases hlt : k < m.delays.length
        · obtain ⟨g, rfl, hr⟩ := HP1.out.b.d.at (by omega)
          obtain ⟨u, hu⟩ := hr.cell (i := k) (by omega)
          have hf := hr.free k
          have Hn := Lib.hid (HOF.out _ (HP1.out.set (i := k) (u := .float .f64 4619567317775286272) hr (by decide) (by decide) (.inl (by decide))))
          clear hr
          go_wp2
          go_roundg (m.delays.length - (k + 1))
          case measure => omega
          case rel => exact ⟨k + 1, by omega, by simp, Hn.out⟩
        · go_wp2
          clear p4 HP1
          go_loopg [6] vs.length (fun g t wr => ∃ k : Nat, g + k = vs.length ∧ t = .int .i64 k ∧ P wr)
          case atStart => exact ⟨0, by simp, rfl, hp⟩
          case round =>
            clear hp hlt hk
            obtain ⟨k, hk, rfl, hp⟩ := hrel
            have HP1 := Lib.hid (HTO.out _ hp)
            have p4 := HP1.out.o4.cell (i := 3) rfl
            by_cases hlt : k < vs.length
            · obtain ⟨⟨va, vn, vc⟩, hv⟩ : ∃ v, vs[k]? = some v := ⟨vs[k], List.getElem?_eq_getElem hlt⟩
              have HV := Lib.hid hv
              clear hv
              obtain ⟨b, o, rfl, -, hrs⟩ := HP1.out.b.row HV.out
              have hcap := hrs.cap
              clear HP1 hrs
              go_wp2
              clear p4
              go_loopg [7] vn (fun g t wr => ∃ j : Nat, g + j = vn ∧ t = .int .i64 j ∧ P wr)
              case atStart => exact ⟨0, by simp, rfl, hp⟩
              case round =>
                clear hp
                obtain ⟨j, hj, rfl, hp⟩ := hrel
                have HP1 := Lib.hid (HTO.out _ hp)
                have p4 := HP1.out.o4.cell (i := 3) rfl
                obtain ⟨b', o', e', hc, hrs⟩ := HP1.out.b.row HV.out
                injection e' with e'
                injection e' with e1 e2
                subst e1 e2
                by_cases hjt : j < vn
                · obtain ⟨g, rfl, hr⟩ := hrs.at (by omega)
                  obtain ⟨u0, hu0⟩ := hr.cell (i := j * 4) (by omega)
                  obtain ⟨u1, hu1⟩ := hr.cell (i := j * 4 + 1) (by omega)
                  obtain ⟨u2, hu2⟩ := hr.cell (i := j * 4 + 2) (by omega)
                  obtain ⟨u3, hu3⟩ := hr.cell (i := j * 4 + 3) (by omega)
                  have hf0 := hr.free (j * 4)
                  have hf1 := hr.free (j * 4 + 1)
                  have hf2 := hr.free (j * 4 + 2)
                  have hf3 := hr.free (j * 4 + 3)
                  have Hn := Lib.hid (HOF.out _ ((((HP1.out.set (i := j * 4) (u := .int .i64 99) hr (by decide) (by decide) (.inl (by decide))).set (i := j * 4 + 1) (u := .int .i64 0) hr.set (by decide) (by decide) (.inl (by decide))).set (i := j * 4 + 2) (u := .int .i64 0) hr.set.set (by decide) (by decide) (.inl (by decide))).set (i := j * 4 + 3) (u := .int .i64 0) hr.set.set.set (by decide) (by decide) (.inl (by decide))))
                  clear hr hrs
                  go_wp2
                  go_roundg (vn - (j + 1))
                  case measure => omega
                  case rel => exact ⟨j + 1, by omega, by simp, Hn.out⟩
                · clear hrs
                  go_wp2
                  go_roundg (vs.length - (k + 1))
                  case measure => omega
                  case rel => exact ⟨k + 1, by omega, by simp, hp⟩
            · clear p4 HP1
              have p4 := (HTO.out _ hp).o4.cell (i := 3) rfl
              go_wp2
              clear p4 hlt hk
              go_loopg [8] ls.length (fun g t wr => ∃ k : Nat, g + k = ls.length ∧ t = .int .i64 k ∧ P wr)
              case atStart => exact ⟨0, by simp, rfl, hp⟩
              case round =>
                clear hp
                obtain ⟨k, hk, rfl, hp⟩ := hrel
                have HP1 := Lib.hid (HTO.out _ hp)
                have p4 := HP1.out.o4.cell (i := 4) rfl
                by_cases hlt : k < ls.length
                · obtain ⟨⟨pr, va, vn, vc⟩, hv⟩ : ∃ v, ls[k]? = some v := ⟨ls[k], List.getElem?_eq_getElem hlt⟩
                  have HV := Lib.hid hv
                  clear hv
                  obtain ⟨g0, rfl, -, -, hrs⟩ := HP1.out.b.lrow HV.out
                  have hcap := hrs.cap
                  clear HP1 hrs
                  go_wp2
                  clear p4
                  go_loopg [9] vn (fun g t wr => ∃ j : Nat, g + j = vn ∧ t = .int .i64 j ∧ P wr)
                  case atStart => exact ⟨0, by simp, rfl, hp⟩
                  case round =>
                    clear hp
                    obtain ⟨j, hj, rfl, hp⟩ := hrel
                    have HP1 := Lib.hid (HTO.out _ hp)
                    have p4 := HP1.out.o4.cell (i := 4) rfl
                    obtain ⟨g1, e', hr0, hc, hrs⟩ := HP1.out.b.lrow HV.out
                    injection e' with e'
                    injection e' with e1
                    subst e1
                    by_cases hjt : j < vn
                    · obtain ⟨g, rfl, hr⟩ := hrs.at (by omega)
                      obtain ⟨u0, hu0⟩ := hr.cell (i := j) (by omega)
                      have hf0 := hr.free j
                      have Hn := Lib.hid (HOF.out _ (HP1.out.set (i := j) (u := .int .i64 77) hr (by decide) (by decide) (.inl (by decide))))
                      clear hr hrs hr0
                      go_wp2
                      go_roundg (vn - (j + 1))
                      case measure => omega
                      case rel => exact ⟨j + 1, by omega, by simp, Hn.out⟩
                    · obtain ⟨u0, hu0⟩ := hr0.cell (i := k * 2) (by omega)
                      have hf0 := hr0.free (k * 2)
                      have Hn := Lib.hid (HOF.out _ (HP1.out.set (i := k * 2) (u := .int .i64 9) hr0 (by decide) (by decide) (.inr (by omega))))
                      clear hrs hr0
                      go_wp2
                      go_roundg (ls.length - (k + 1))
                      case measure => omega
                      case rel => exact ⟨k + 1, by omega, by simp, Hn.out⟩
                · go_wp2
                  clear p4 hlt hk HP1
                  go_loopg [10] m.init.length (fun g t wr => ∃ k : Nat, g + k = m.init.length ∧ t = .int .i64 k ∧ P wr)
                  case atStart => exact ⟨0, by simp, rfl, hp⟩
                  case round =>
                    clear hp
                    obtain ⟨k, hk, rfl, hp⟩ := hrel
                    have HP1 := Lib.hid (HTO.out _ hp)
                    have p4 := HP1.out.o4.cell (i := 5) rfl
                    by_cases hlt : k < m.init.length
                    · obtain ⟨g, rfl, hr⟩ := HP1.out.b.i.at (by omega)
                      obtain ⟨u0, hu0⟩ := hr.cell (i := k * 3 + 1) (by omega)
                      have hf0 := hr.free (k * 3 + 1)
                      have Hn := Lib.hid (HOF.out _ (HP1.out.set (i := k * 3 + 1) (u := .int .i64 99) hr (by decide) (by decide) (.inl (by decide))))
                      clear hr
                      go_wp2
                      go_roundg (m.init.length - (k + 1))
                      case measure => omega
                      case rel => exact ⟨k + 1, by omega, by simp, Hn.out⟩
                    · go_wp2_with (first
                        | (go_at_call 29
                           refine (awake5_any _).mono ?_
                           rintro e w5 ⟨rfl, hg⟩
                           obtain ⟨G5, Q1, Q3, QA⟩ := HP1.out.gr hg
                           have r0 := Q1.cell (i := 0) rfl
                           have r1 := Q1.cell (i := 1) rfl
                           have r2 := Q1.cell (i := 2) rfl
                           have r3 := Q1.cell (i := 3) rfl
                           have r4 := Q1.cell (i := 4) rfl
                           have r5 := Q1.cell (i := 5) rfl
                           have s0 := Q3.cell (i := 0) rfl
                           have s1 := Q3.cell (i := 1) rfl
                           have s2 := Q3.cell (i := 2) rfl
                           have s3 := Q3.cell (i := 3) rfl
                           have s4 := Q3.cell (i := 4) rfl
                           have s5 := Q3.cell (i := 5) rfl
                           have HG5 := Lib.hid ((HK.out ⟨_, HG.out⟩).trans G5)
                           have HQA := Lib.hid QA
                           clear G5 Q1 Q3 QA hg)
                        | (go_at_call 36
                           refine (Calls.to (RSame_any m m _ _ _ _ _ _ _ _ _ HQA.out (Q.out.gr HG5.out)) (boolv HR.out)).mono ?_
                           rintro e w6 ⟨rfl, hg6⟩))
                      go_ret
                      exact ⟨by simp, HG5.out.trans hg6⟩
end Go.Proofs.Ytkoopobfelcgpaa
