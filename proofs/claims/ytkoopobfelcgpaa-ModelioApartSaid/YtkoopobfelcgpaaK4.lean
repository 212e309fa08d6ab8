/- K4: the texts D1 D2 D3 D4, merged by tools/merge.py -/
import Derived.Test.YtkoopobfelcgpaaK3
import Derived.Deep.RegionLaw

section -- D1
/- layer 6: reading -/
set_option linter.unusedSimpArgs false
namespace Go.Proofs.Ytkoopobfelcgpaa
open Go.RowKit Go.Proofs.YtkoopobfelcgpaaW.PrintWords Go.Proofs.YtkoopobfelcgpaaW.PrintMore

/-- a place in bytes, and the first error -/
structure Rd where
  p : Int
  e : Int
def rdInt (s : ByteArray) (r : Rd) : Int × Rd := if r.e = 0 then ((readI s r.p).1, ⟨(readI s r.p).2.1, (readI s r.p).2.2⟩) else (0, r)
def rdFloat (s : ByteArray) (r : Rd) : Nat × Rd := if r.e = 0 then ((readU s r.p).1.toNat, ⟨(readU s r.p).2.1, (readU s r.p).2.2⟩) else (0, r)
def cnt (s : ByteArray) (r : Rd) : Int × Rd := if (rdInt s r).2.e = 0 ∧ ((rdInt s r).1 < 0 ∨ (rdInt s r).1 > 48) then (0, ⟨0, 6⟩) else rdInt s r
def rep {α : Type} (one : Rd → α × Rd) : Nat → Rd → List α × Rd
  | 0, r => ([], r)
  | k + 1, r => if r.e = 0 then ((one r).1 :: (rep one k (one r).2).1, (rep one k (one r).2).2) else ([], r)
def itms {α : Type} (s : ByteArray) (one : Rd → α × Rd) (r : Rd) : List α × Rd := rep one (cnt s r).1.toNat (cnt s r).2
def rdIns (s : ByteArray) (r : Rd) : PIns × Rd :=
  (⟨(rdInt s r).1, (rdInt s (rdInt s r).2).1, (rdInt s (rdInt s (rdInt s r).2).2).1, (rdInt s (rdInt s (rdInt s (rdInt s r).2).2).2).1⟩, (rdInt s (rdInt s (rdInt s (rdInt s r).2).2).2).2)
def rdProg (s : ByteArray) (r : Rd) : List PIns × Rd := itms s (rdIns s) r
def rdLP (s : ByteArray) (r : Rd) : PLP × Rd := (⟨(rdInt s r).1, (itms s (rdInt s) (rdInt s r).2).1⟩, (itms s (rdInt s) (rdInt s r).2).2)
def rdInit (s : ByteArray) (r : Rd) : PInit × Rd := (⟨(rdFloat s r).1, (rdInt s (rdFloat s r).2).1, (rdInt s (rdInt s (rdFloat s r).2).2).1⟩, (rdInt s (rdInt s (rdFloat s r).2).2).2)

/-- the reader in memory: its place is told as long as there is no error -/
def RdAt (w : World) (B : Nat) (s : ByteArray) (r : Rd) : Prop := ∃ q, Out 147 w B [.string s, .int .i64 q, .int .i64 r.e] ∧ (r.e = 0 → q = r.p)
/-- nothing below n turns, and of what was there nothing but the reader turns -/
structure RStep (n B : Nat) (w W : World) : Prop where
  below : Below n w W
  kept : ∀ i, i < w.heap.size → i ≠ B → W.heap[i]? = w.heap[i]?
section
variable {n B : Nat} {a b c : World}
theorem RStep.refl (n B : Nat) (w : World) : RStep n B w w := ⟨Below.refl _ _, fun _ _ _ => rfl⟩
theorem RStep.size (h : RStep n B a b) : a.heap.size ≤ b.heap.size := h.below.size
theorem RStep.trans (h : RStep n B a b) (k : RStep n B b c) : RStep n B a c :=
  ⟨h.below.trans k.below, fun i hi hu => (k.kept i (Nat.lt_of_lt_of_le hi h.size) hu).trans (h.kept i hi hu)⟩
theorem RStep.of_gr (g : Gr a b) (hn : n ≤ a.heap.size) : RStep n B a b := ⟨Below.mono g hn, fun i hi _ => g.block i hi⟩
theorem RStep.set (h : RStep n B a b) (hn : n ≤ B) (i : Nat) (u : Value) : RStep n B a (b.setCell ⟨B, i, none⟩ u) :=
  h.trans ⟨(Below.refl _ _).setCell hn u, fun j _ hj => Below.heap_setCell b _ u j hj⟩
theorem RStep.block (h : RStep n B a b) {i : Nat} {o : Obj} (hi : a.heap[i]? = some o) (hne : i ≠ B) : b.heap[i]? = some o := by
  have hl : i < a.heap.size := by
    rcases Nat.lt_or_ge i a.heap.size with g | g
    · exact g
    · rw [Array.getElem?_eq_none g] at hi; cases hi
  exact (h.kept i hl hne).trans hi
end
theorem RdAt.lt {w : World} {B : Nat} {s : ByteArray} {r : Rd} (h : RdAt w B s r) : B < w.heap.size := by
  obtain ⟨q, h, -⟩ := h
  exact Out.lt h
theorem RdAt.gr {w W : World} {B : Nat} {s : ByteArray} {r : Rd} (h : RdAt w B s r) (g : Gr w W) : RdAt W B s r := by
  obtain ⟨q, h, hq⟩ := h
  exact ⟨q, Out.gr h g, hq⟩


set_option maxHeartbeats 4000000 in
set_option maxRecDepth 100000 in
theorem readerInt_any (n B : Nat) (s : ByteArray) (r : Rd) (w : World) (hn : n ≤ B) (hs : s.size ≤ 1099511627776) (h : RdAt w B s r) :
    Calls Try.prog 112 #[.pointer (some ⟨B, 0, none⟩)] w fun e W => e = .returned (.int .i64 (rdInt s r).1) ∧ RdAt W B s (rdInt s r).2 ∧ RStep n B w W := by
  have hlt := h.lt
  obtain ⟨q, hb, hq⟩ := h
  have HB := Lib.hid hb
  have k0 := hb.cell (i := 0) rfl
  have k1 := hb.cell (i := 1) rfl
  have k2 := hb.cell (i := 2) rfl
  clear hb
  by_cases he : r.e = 0
  · have HE := Lib.hid he
    rw [he] at k2
    have HQ := Lib.hid (hq he)
    clear hq he
    go_enter Try.func112, Try.ntmps112
    go_wp2
    go_region_with ((go_at_call 156; refine (readI_any s q hs _).mono ?_; rintro e w2 ⟨rfl, hg⟩
                     have c0 : w2.cell? ⟨B, 0, none⟩ = some (.string s) := hg.cell k0
                     have c1 : w2.cell? ⟨B, 1, none⟩ = some (.int .i64 q) := hg.cell k1
                     have c2 : w2.cell? ⟨B, 2, none⟩ = some (.int .i64 0) := hg.cell k2
                     have HB2 := Lib.hid (Out.gr HB.out ((Gr.refl w).drew.trans hg))
                     have f1 := HB2.out.free 1
                     have f2 := HB2.out.free 2
                     have hlt2 := Nat.lt_of_lt_of_le hlt hg.size
                     have HG := Lib.hid ((Gr.refl w).drew.trans hg)
                     clear hg))
    all_goals
      have HR := Lib.hid (show RdAt ((w2.setCell ⟨B, 1, none⟩ (.int .i64 (readI s q).2.1)).setCell ⟨B, 2, none⟩ (.int .i64 (readI s q).2.2)) B s (rdInt s r).2 from by
        have h1 := (HB2.out.set 1 (.int .i64 (readI s q).2.1)).set 2 (.int .i64 (readI s q).2.2)
        unfold rdInt
        rw [if_pos HE.out, ← HQ.out]
        exact ⟨(readI s q).2.1, h1, fun _ => rfl⟩)
      have HR' := Lib.hid (show RdAt ((w2.setCell ⟨B, 2, none⟩ (.int .i64 (readI s q).2.2)).setCell ⟨B, 1, none⟩ (.int .i64 (readI s q).2.1)) B s (rdInt s r).2 from by
        have h1 := (HB2.out.set 2 (.int .i64 (readI s q).2.2)).set 1 (.int .i64 (readI s q).2.1)
        unfold rdInt
        rw [if_pos HE.out, ← HQ.out]
        exact ⟨(readI s q).2.1, h1, fun _ => rfl⟩)
      have HV := Lib.hid (show (readI s q).1 = (rdInt s r).1 from by unfold rdInt; rw [if_pos HE.out, ← HQ.out])
      clear c0 c1 c2 f1 f2 k0 k1 k2
      go_wp2
      go_ret
      exact ⟨by rw [← HV.out]; rfl, (by first | exact HR.out | exact HR'.out), ((RStep.of_gr HG.out (Nat.le_trans hn (Nat.le_of_lt hlt))).set hn _ _).set hn _ _⟩
  · have he1 : (r.e == 0) = false := by rw [beq_eq_false_iff_ne]; exact he
    have he2 : (r.e != 0) = true := by rw [bne_iff_ne]; exact he
    have HQ := Lib.hid hq
    have HE := Lib.hid he
    clear hq
    go_enter Try.func112, Try.ntmps112
    go_wp2
    go_ret
    unfold rdInt
    rw [if_neg HE.out]
    exact ⟨rfl, ⟨q, HB.out, HQ.out⟩, RStep.refl _ _ _⟩

set_option maxHeartbeats 4000000 in
set_option maxRecDepth 100000 in
theorem readerFloat_any (n B : Nat) (s : ByteArray) (r : Rd) (w : World) (hn : n ≤ B) (hs : s.size ≤ 1099511627776) (h : RdAt w B s r) :
    Calls Try.prog 113 #[.pointer (some ⟨B, 0, none⟩)] w fun e W => e = .returned (.float .f64 (rdFloat s r).1) ∧ RdAt W B s (rdFloat s r).2 ∧ RStep n B w W := by
  have hlt := h.lt
  obtain ⟨q, hb, hq⟩ := h
  have HB := Lib.hid hb
  have k0 := hb.cell (i := 0) rfl
  have k1 := hb.cell (i := 1) rfl
  have k2 := hb.cell (i := 2) rfl
  clear hb
  by_cases he : r.e = 0
  · have HE := Lib.hid he
    rw [he] at k2
    have HQ := Lib.hid (hq he)
    clear hq he
    have hx := run_frombits
    go_enter Try.func113, Try.ntmps113
    go_wp2
    go_region_with ((go_at_call 157; refine (readU_any s q hs _).mono ?_; rintro e w2 ⟨rfl, hg⟩
                     have c0 : w2.cell? ⟨B, 0, none⟩ = some (.string s) := hg.cell k0
                     have c1 : w2.cell? ⟨B, 1, none⟩ = some (.int .i64 q) := hg.cell k1
                     have c2 : w2.cell? ⟨B, 2, none⟩ = some (.int .i64 0) := hg.cell k2
                     have HB2 := Lib.hid (Out.gr HB.out ((Gr.refl w).drew.trans hg))
                     have f1 := HB2.out.free 1
                     have f2 := HB2.out.free 2
                     have hlt2 := Nat.lt_of_lt_of_le hlt hg.size
                     have HG := Lib.hid ((Gr.refl w).drew.trans hg)
                     clear hg))
    all_goals
      have HR := Lib.hid (show RdAt ((w2.setCell ⟨B, 1, none⟩ (.int .i64 (readU s q).2.1)).setCell ⟨B, 2, none⟩ (.int .i64 (readU s q).2.2)) B s (rdFloat s r).2 from by
        have h1 := (HB2.out.set 1 (.int .i64 (readU s q).2.1)).set 2 (.int .i64 (readU s q).2.2)
        unfold rdFloat
        rw [if_pos HE.out, ← HQ.out]
        exact ⟨(readU s q).2.1, h1, fun _ => rfl⟩)
      have HR' := Lib.hid (show RdAt ((w2.setCell ⟨B, 2, none⟩ (.int .i64 (readU s q).2.2)).setCell ⟨B, 1, none⟩ (.int .i64 (readU s q).2.1)) B s (rdFloat s r).2 from by
        have h1 := (HB2.out.set 2 (.int .i64 (readU s q).2.2)).set 1 (.int .i64 (readU s q).2.1)
        unfold rdFloat
        rw [if_pos HE.out, ← HQ.out]
        exact ⟨(readU s q).2.1, h1, fun _ => rfl⟩)
      have HV := Lib.hid (show (readU s q).1.toNat = (rdFloat s r).1 from by unfold rdFloat; rw [if_pos HE.out, ← HQ.out])
      clear c0 c1 c2 f1 f2 k0 k1 k2
      go_wp2
      go_ret
      exact ⟨by rw [← HV.out]; rfl, (by first | exact HR.out | exact HR'.out), ((RStep.of_gr HG.out (Nat.le_trans hn (Nat.le_of_lt hlt))).set hn _ _).set hn _ _⟩
  · have he1 : (r.e == 0) = false := by rw [beq_eq_false_iff_ne]; exact he
    have he2 : (r.e != 0) = true := by rw [bne_iff_ne]; exact he
    have HQ := Lib.hid hq
    have HE := Lib.hid he
    clear hq
    go_enter Try.func113, Try.ntmps113
    go_wp2
    go_ret
    unfold rdFloat
    rw [if_neg HE.out]
    exact ⟨rfl, ⟨q, HB.out, HQ.out⟩, RStep.refl _ _ _⟩
end Go.Proofs.Ytkoopobfelcgpaa
end -- D1

section -- D2
/- layer 6: modelio.items at each of its types, Get's functions -/
set_option linter.unusedSimpArgs false
set_option linter.unusedVariables false
namespace Go.Proofs.Ytkoopobfelcgpaa
open Go.RowKit Go.Proofs.YtkoopobfelcgpaaW.PrintWords Go.Proofs.YtkoopobfelcgpaaW.PrintMore

def kI : Kd Int := Kd.int .i64
def kF : Kd Nat := Kd.scalar (Value.float .f64) (fun _ => rfl)
def kIns : Kd PIns := Kd.iso (Kd.pair kI (Kd.pair kI (Kd.pair kI kI))) (fun x : PIns => (x.op, x.a, x.b, x.c))
def kProg : Kd (List PIns) := Kd.slice 34 kIns
def kLP : Kd PLP := Kd.iso (Kd.pair kI (Kd.slice 3 kI)) (fun x : PLP => (x.prog, x.words))
def kInit : Kd PInit := Kd.iso (Kd.pair kF (Kd.pair kI kI)) (fun x : PInit => (x.t, x.dst, x.pay))
theorem kIns_mk (w : World) (base : Nat) (ok : Nat → Prop) (x : PIns) : kIns.M w base ok x [.int .i64 x.op, .int .i64 x.a, .int .i64 x.b, .int .i64 x.c] :=
  ⟨[.int .i64 x.op], [.int .i64 x.a, .int .i64 x.b, .int .i64 x.c], rfl, rfl, ⟨[.int .i64 x.a], [.int .i64 x.b, .int .i64 x.c], rfl, rfl, ⟨[.int .i64 x.b], [.int .i64 x.c], rfl, rfl, rfl⟩⟩⟩
theorem kInit_mk (w : World) (base : Nat) (ok : Nat → Prop) (x : PInit) : kInit.M w base ok x [.float .f64 x.t, .int .i64 x.dst, .int .i64 x.pay] :=
  ⟨[.float .f64 x.t], [.int .i64 x.dst, .int .i64 x.pay], rfl, rfl, ⟨[.int .i64 x.dst], [.int .i64 x.pay], rfl, rfl, rfl⟩⟩
theorem kLP_mk {w : World} {base : Nat} {ok : Nat → Prop} {x : PLP} {v : Value} (g : kI.R 3 w base ok v x.words) : kLP.M w base ok x [.int .i64 x.prog, v] :=
  ⟨[.int .i64 x.prog], [v], rfl, rfl, ⟨v, rfl, g⟩⟩
theorem kIns_open {w : World} {base : Nat} {ok : Nat → Prop} {x : PIns} {cs : List Value} (h : kIns.M w base ok x cs) : cs = [.int .i64 x.op, .int .i64 x.a, .int .i64 x.b, .int .i64 x.c] := by
  obtain ⟨_, _, rfl, rfl, ⟨_, _, rfl, rfl, ⟨_, _, rfl, rfl, rfl⟩⟩⟩ := h; rfl
theorem kInit_open {w : World} {base : Nat} {ok : Nat → Prop} {x : PInit} {cs : List Value} (h : kInit.M w base ok x cs) : cs = [.float .f64 x.t, .int .i64 x.dst, .int .i64 x.pay] := by
  obtain ⟨_, _, rfl, rfl, ⟨_, _, rfl, rfl, rfl⟩⟩ := h; rfl
theorem kLP_open {w : World} {base : Nat} {ok : Nat → Prop} {x : PLP} {cs : List Value} (h : kLP.M w base ok x cs) : ∃ v, cs = [.int .i64 x.prog, v] ∧ kI.R 3 w base ok v x.words := by
  obtain ⟨_, _, rfl, rfl, ⟨v, rfl, g⟩⟩ := h; exact ⟨v, rfl, g⟩

/-- what was made reads as a slice -/
theorem R_sl {α : Type} {d : Kd α} {e base : Nat} {ok : Nat → Prop} {w : World} {v : Value} {xs : List α} {RAt : World → Nat → Nat → α → Prop} (h : d.R e w base ok v xs)
    (hm : ∀ (ok' : Nat → Prop) x b o cs, d.M w base ok' x cs → (∀ (j : Nat) u, cs[j]? = some u → w.cell? ⟨b, o + j, none⟩ = some u) → RAt w b o x) : Sl d.sz RAt w v xs := by
  obtain ⟨-, inner, ho, hr⟩ := h
  obtain ⟨hx, ⟨rfl, hn⟩ | ⟨g, cap, cur, rfl, hb, hg, hnc, hcm, hcs, ht⟩⟩ := ho
  · have : xs = [] := List.eq_nil_of_length_eq_zero hn
    subst this
    exact ⟨none, 0, rfl, Nat.le_refl _, Nat.zero_le _, fun _ => rfl, fun i x h => by simp at h⟩
  · refine ⟨some ⟨g, 0, none⟩, cap, rfl, hnc, hcm, (fun h => by cases h), fun i x hxi => ⟨g, 0, rfl, ?_⟩⟩
    have hil : i < xs.length := by
      rcases Nat.lt_or_ge i xs.length with g | g
      · exact g
      · rw [List.getElem?_eq_none g] at hxi; cases hxi
    have hM := hr.2 i x hxi
    refine hm _ x g (0 + i * d.sz) _ hM (fun j u hu => ?_)
    have hj : j < d.sz := by
      have := d.K_len (d.K_of_M hM)
      rcases Nat.lt_or_ge j ((inner.drop (i * d.sz)).take d.sz).length with g | g
      · omega
      · rw [List.getElem?_eq_none g] at hu; cases hu
    rw [List.getElem?_take_of_lt hj, List.getElem?_drop] at hu
    have hlt : i * d.sz + j < xs.length * d.sz := by
      have : i * d.sz + d.sz ≤ xs.length * d.sz := by rw [← Nat.succ_mul]; exact Nat.mul_le_mul_right _ hil
      omega
    rw [← ht, List.getElem?_take_of_lt hlt, Array.getElem?_toList] at hu
    simp only [World.cell?, hg]
    have e1 : 0 + i * d.sz + j = i * d.sz + j := by omega
    simp [e1, hu]
theorem kI_sl {base e : Nat} {ok : Nat → Prop} {w : World} {v : Value} {xs : List Int} (h : kI.R e w base ok v xs) : Sl 1 IntAt w v xs :=
  R_sl h (fun _ x b o cs hM hc => by have e : cs = [.int .i64 x] := hM; subst e; exact hc 0 _ rfl)
theorem kF_sl {base e : Nat} {ok : Nat → Prop} {w : World} {v : Value} {xs : List Nat} (h : kF.R e w base ok v xs) : Sl 1 FloatAt w v xs :=
  R_sl h (fun _ x b o cs hM hc => by have e : cs = [.float .f64 x] := hM; subst e; exact hc 0 _ rfl)
theorem kIns_sl {base e : Nat} {ok : Nat → Prop} {w : World} {v : Value} {xs : List PIns} (h : kIns.R e w base ok v xs) : Sl 4 InsAt w v xs :=
  R_sl h (fun _ x b o cs hM hc => by have e := kIns_open hM; subst e; exact ⟨hc 0 _ rfl, hc 1 _ rfl, hc 2 _ rfl, hc 3 _ rfl⟩)
theorem kInit_sl {base e : Nat} {ok : Nat → Prop} {w : World} {v : Value} {xs : List PInit} (h : kInit.R e w base ok v xs) : Sl 3 InitAt w v xs :=
  R_sl h (fun _ x b o cs hM hc => by have e := kInit_open hM; subst e; exact ⟨hc 0 _ rfl, hc 1 _ rfl, hc 2 _ rfl⟩)
theorem kProg_sl {base e : Nat} {ok : Nat → Prop} {w : World} {v : Value} {xs : List (List PIns)} (h : kProg.R e w base ok v xs) : Sl 1 (SlAt 4 InsAt) w v xs :=
  R_sl h (fun _ x b o cs hM hc => by obtain ⟨v, rfl, g⟩ := hM; exact ⟨v, hc 0 _ rfl, kIns_sl g⟩)
theorem kLP_sl {base e : Nat} {ok : Nat → Prop} {w : World} {v : Value} {xs : List PLP} (h : kLP.R e w base ok v xs) : Sl 2 LPAt w v xs :=
  R_sl h (fun _ x b o cs hM hc => by obtain ⟨v, rfl, g⟩ := kLP_open hM; exact ⟨hc 0 _ rfl, v, hc 1 _ rfl, kI_sl g⟩)

/-- the reader has turned: what was made elsewhere stands -/
theorem R_rstep {α : Type} {d : Kd α} {e base n B : Nat} {ok : Nat → Prop} {w W : World} {v : Value} {xs : List α} {s : ByteArray} {r : Rd} (h : d.R e w base ok v xs) (hb : RdAt w B s r) (ht : ∀ q, q ∈ e :: d.E → q ≠ 147) (st : RStep n B w W) : d.R e W base ok v xs := by
  obtain ⟨q, hb, -⟩ := hb
  exact Kd.R_mono (Kd.R_step (Kd.R_types h (Out.is hb) ht) (fun k hk hl => st.kept k hl hk.2)) (fun _ hk => hk.1)
/-- the rows inside an element are not the row that it is laid into -/
theorem M_ne {α : Type} {d : Kd α} {e base base' : Nat} {ok ok' : Nat → Prop} {w : World} {v : Value} {xs : List α} {p : α} {cs : List Value} (hM : d.M w base ok p cs) (HO : d.R e w base' ok' v xs) (he : ∀ q, q ∈ d.E → q ≠ e) : d.M w base (fun k => ok k ∧ some k ≠ v.ownBlock) p cs :=
  d.M_mono (fun k hk => ⟨hk.1, fun ek => by
    obtain ⟨_, _, _, q, hq, cells, hc⟩ := hk
    obtain ⟨inner, ho⟩ := Kd.R_own HO
    obtain ⟨cells', hc'⟩ := own_typed ho k ek.symm
    rw [hc] at hc'
    injection hc' with hc'
    injection hc' with _ hc'
    exact he q hq hc'⟩) (d.M_bound hM)
theorem RStep.grown {n B base e sz m : Nat} {a b c : World} {v : Value} {xs : List Value} (h : RStep n B a b) (ho : b.ownsRow base e sz v m xs) (hb : a.heap.size ≤ base) (hn : n ≤ a.heap.size) (hg : b.grownBy c v.ownBlock) : RStep n B a c := by
  have hk : ∀ k, v.ownBlock = some k → a.heap.size ≤ k := fun k hk => Nat.le_trans hb (own_base ho k hk)
  refine ⟨h.below.trans ⟨hg.os, hg.tape, hg.output, hg.size, fun k hlt => hg.block k (Nat.lt_of_lt_of_le hlt (Nat.le_trans hn h.size)) (fun e => ?_)⟩, fun i hi hne => (hg.block i (Nat.lt_of_lt_of_le hi h.size) (fun e => ?_)).trans (h.kept i hi hne)⟩
  · have := hk k e.symm; omega
  · have := hk i e.symm; omega
theorem rep_stop {α : Type} (one : Rd → α × Rd) (k : Nat) (r : Rd) (h : k = 0 ∨ r.e ≠ 0) : rep one k r = ([], r) := by
  cases k with
  | zero => rfl
  | succ k => rw [rep, if_neg (by omega)]
theorem rep_go {α : Type} (one : Rd → α × Rd) (k : Nat) (r : Rd) (h : r.e = 0) : rep one (k + 1) r = ((one r).1 :: (rep one k (one r).2).1, (rep one k (one r).2).2) := by rw [rep, if_pos h]

theorem j3 : (Try.prog.info? 3).map (fun i => (i.zero, i.size, i.bytes)) = some (some (.int .i64 0), kI.sz, 8) := by kernel_rfl
theorem j22 : (Try.prog.info? 22).map (fun i => (i.zero, i.size, i.bytes)) = some (some (.float .f64 0), kF.sz, 8) := by kernel_rfl
theorem j34 : (Try.prog.info? 34).map (fun i => (i.zero, i.size, i.bytes)) = some (some (.agg #[.int .i64 0, .int .i64 0, .int .i64 0, .int .i64 0]), kIns.sz, 32) := by kernel_rfl
theorem j38 : (Try.prog.info? 38).map (fun i => (i.zero, i.size, i.bytes)) = some (some (.slice none 0 0), kProg.sz, 24) := by kernel_rfl
theorem j41 : (Try.prog.info? 41).map (fun i => (i.zero, i.size, i.bytes)) = some (some (.agg #[.int .i64 0, .slice none 0 0]), kLP.sz, 32) := by kernel_rfl
theorem j43 : (Try.prog.info? 43).map (fun i => (i.zero, i.size, i.bytes)) = some (some (.agg #[.float .f64 0, .int .i64 0, .int .i64 0]), kInit.sz, 24) := by kernel_rfl

theorem RdAt.grown {α : Type} {d : Kd α} {e base B : Nat} {ok : Nat → Prop} {w W : World} {v : Value} {xs : List α} {s : ByteArray} {r : Rd} (h : RdAt w B s r) (HO : d.R e w base ok v xs) (he : e ≠ 147) (hg : w.grownBy W v.ownBlock) : RdAt W B s r := by
  have hl := h.lt
  obtain ⟨q, hb, hq⟩ := h
  refine ⟨q, ?_, hq⟩
  obtain ⟨inner, ho⟩ := Kd.R_own HO
  refine (hg.block B hl (fun e1 => ?_)).trans hb
  obtain ⟨cells, hc⟩ := own_typed ho B e1.symm
  rw [Out.is hb] at hc
  injection hc with hc
  injection hc with _ hc
  exact he hc.symm

set_option maxHeartbeats 4000000 in
set_option maxRecDepth 100000 in
theorem itemsF_any (n B : Nat) (s : ByteArray) (r : Rd) (w : World) (hn : n ≤ B) (hs : s.size ≤ 1099511627776) (h : RdAt w B s r) (hnw : n ≤ w.heap.size) :
    Calls Try.prog 114 #[.pointer (some ⟨B, 0, none⟩), .func (.func 113) #[.pointer (some ⟨B, 0, none⟩)] #[]] w fun e W => ∃ v, e = .returned v ∧ kF.R 22 W w.heap.size (fun _ => True) v (itms s (rdFloat s) r).1 ∧ RdAt W B s (itms s (rdFloat s) r).2 ∧ RStep n B w W := by
  have H := Lib.hid h
  clear h
  go_enter Try.func114, Try.ntmps114
  by_cases he : (rdInt s r).2.e = 0
  case neg =>
    have HE := Lib.hid he
    have he1 : ((rdInt s r).2.e == 0) = false := by rw [beq_eq_false_iff_ne]; exact he
    go_wp2_with (go_at_call 112; refine (readerInt_any n B s r _ hn hs H.out).mono ?_; rintro e w1 ⟨rfl, hr1, hs1⟩
                 have HR1 := Lib.hid hr1
                 have HS1 := Lib.hid hs1
                 obtain ⟨q1, hb1, -⟩ := hr1
                 have k2 := hb1.cell (i := 2) rfl
                 clear hb1 hs1)
    go_loopg [6, 7] 1 (fun g v i wr => g = 1 ∧ v = .slice none 0 0 ∧ i = .int .i64 0 ∧ wr = w1)
    case atStart => exact ⟨rfl, rfl, rfl, rfl⟩
    case round =>
      obtain ⟨-, rfl, rfl, rfl⟩ := hrel
      by_cases hpos : (0 : Int) < (rdInt s r).1
      all_goals
        go_wp2
        go_ret
        have e1 : itms s (rdFloat s) r = ([], (rdInt s r).2) := by
          unfold itms cnt
          rw [if_neg (fun hh => HE.out hh.1)]
          exact rep_stop _ _ _ (.inr HE.out)
        rw [e1]
        exact ⟨_, rfl, Kd.R_nil _ _ _ _ _, HR1.out, HS1.out⟩
  by_cases hbad : (rdInt s r).1 < 0 ∨ (rdInt s r).1 > 48
  case pos =>
    have HE := Lib.hid he
    have HBAD := Lib.hid hbad
    have he1 : ((rdInt s r).2.e == 0) = true := by rw [beq_iff_eq]; exact he
    clear he
    have key : ∀ (b1 : Bool), decide ((rdInt s r).1 < 0) = b1 → (b1 = false → decide ((rdInt s r).1 > 48) = true) → True := fun _ _ _ => trivial
    clear key hbad
    rcases HBAD.out with hb0 | hb0
    all_goals
      have hb1 : decide ((rdInt s r).1 < 0) = decide ((rdInt s r).1 < 0) := rfl
      clear hb1
      go_wp2_with (go_at_call 112; refine (readerInt_any n B s r _ hn hs H.out).mono ?_; rintro e w1 ⟨rfl, hr1, hs1⟩
                   have HR1 := Lib.hid hr1
                   have HS1 := Lib.hid hs1
                   obtain ⟨q1, hb1, -⟩ := hr1
                   have k2 := hb1.cell (i := 2) rfl
                   have f2 := hb1.free 2
                   have lt2 := Out.lt hb1
                   have HB1 := Lib.hid hb1
                   clear hb1 hs1)
      have HB2 := Lib.hid (HB1.out.set 2 (.int .i64 6))
      have HS2 := Lib.hid (HS1.out.set hn 2 (.int .i64 6))
      have k3 := HB2.out.cell (i := 2) rfl
      clear k2 f2
      generalize w1.setCell ⟨B, 2, none⟩ (.int .i64 6) = w2 at *
      go_loopg [6, 7] 1 (fun g v i wr => g = 1 ∧ v = .slice none 0 0 ∧ i = .int .i64 0 ∧ wr = w2)
      case atStart => exact ⟨rfl, rfl, rfl, rfl⟩
      case round =>
        obtain ⟨-, rfl, rfl, rfl⟩ := hrel
        go_wp2
        go_ret
        have e1 : itms s (rdFloat s) r = ([], ⟨0, 6⟩) := by
          unfold itms cnt
          rw [if_pos ⟨HE.out, HBAD.out⟩]
          exact rep_stop _ _ _ (.inl rfl)
        rw [e1]
        exact ⟨_, rfl, Kd.R_nil _ _ _ _ _, ⟨q1, HB2.out, fun h6 => by cases h6⟩, HS2.out⟩
  case neg =>
    obtain ⟨N, hN⟩ : ∃ N : Nat, (rdInt s r).1 = N := ⟨(rdInt s r).1.toNat, by omega⟩
    have hN48 : N ≤ 48 := by omega
    have HI := Lib.hid (show itms s (rdFloat s) r = rep (rdFloat s) N (rdInt s r).2 from by
      unfold itms cnt
      rw [if_neg (fun hh => hbad hh.2), hN]; rfl)
    have HN := Lib.hid hN
    have HE := Lib.hid he
    have hb1 : ¬ ((N : Int) < 0) := by omega
    have hb2 : ¬ ((N : Int) > 48) := by omega
    clear hbad hN he
    go_wp2_with (go_at_call 112; refine (readerInt_any n B s r _ hn hs H.out).mono ?_; rintro e w1 ⟨rfl, hr1, hs1⟩
                 rw [HN.out]
                 have HR1 := Lib.hid hr1
                 have HS1 := Lib.hid hs1
                 obtain ⟨q1, hb1, -⟩ := hr1
                 have k2 := hb1.cell (i := 2) rfl
                 rw [HE.out] at k2
                 clear hb1 hs1)
    clear k2 hb1 hb2
    go_loopg [6, 7] N (fun g v i wr => ∃ (xs : List Nat) (r' : Rd), g + xs.length = N ∧ i = .int .i64 xs.length ∧ kF.R 22 wr w.heap.size (fun _ => True) v xs ∧ RdAt wr B s r' ∧ RStep n B w wr ∧
      itms s (rdFloat s) r = (xs ++ (rep (rdFloat s) (N - xs.length) r').1, (rep (rdFloat s) (N - xs.length) r').2))
    case atStart => exact ⟨[], _, by simp, rfl, Kd.R_nil _ _ _ _ _, HR1.out, HS1.out, HI.out⟩
    case round =>
      clear HR1 HS1
      obtain ⟨xs, r', hk, rfl, hown, hrd, hst, hit⟩ := hrel
      have HOWN := Lib.hid hown
      have HRD := Lib.hid hrd
      have HST := Lib.hid hst
      have HIT := Lib.hid hit
      obtain ⟨q1, hb1, -⟩ := hrd
      have k2 := hb1.cell (i := 2) rfl
      obtain ⟨a0, c0, ev⟩ := Kd.R_slice hown
      subst ev
      have hsz := hst.size
      clear hb1 hown hst hit
      by_cases hgo : xs.length < N ∧ r'.e = 0
      case pos =>
        obtain ⟨hlt, he'⟩ := hgo
        rw [he'] at k2
        have HE' := Lib.hid he'
        clear he'
        have HSUC := Lib.hid (show N - xs.length = (N - (xs.length + 1)) + 1 by omega)
        go_wp2_with (first
          | (go_at_call 113
             refine (readerFloat_any n B s r' _ hn hs HRD.out).mono ?_
             rintro e w2 ⟨rfl, hrd2, hst2⟩
             have HRD2 := Lib.hid hrd2
             have HST2 := Lib.hid hst2
             have HOWN2 := Lib.hid (R_rstep HOWN.out HRD.out (by decide) hst2)
             have hsz2 := hst2.size
             clear hrd2 hst2 k2)
          | (at_builtin; refine Kd.R_append kF (w0 := w2) w.heap.size rfl _ _ 23 22 (.float .f64 0) 8 rfl Try.underlying23 j22 rfl (by decide) (by omega) (.slice a0 xs.length c0) xs (rdFloat s r').1 [.float .f64 (rdFloat s r').1] (fun _ => True) (fun k => True ∧ some k ≠ (Value.slice a0 xs.length c0).ownBlock) rfl rfl (rfl) (fun k hk => ⟨trivial, hk.2⟩) (fun _ _ => trivial) HOWN2.out (Below.refl _ _) (Nat.le_trans hsz hsz2) (by omega) ?_
             intro v3 w3 hown3 hbel3 hgr3 hat3
             obtain ⟨a3, m3, c3, ev⟩ : ∃ a m c, v3 = .slice a m c := by obtain ⟨a, c, e⟩ := Kd.R_slice hown3; exact ⟨a, _, c, e⟩
             subst ev
             have HOWN3 := Lib.hid hown3
             have HRD3 := Lib.hid (RdAt.grown HRD2.out HOWN2.out (by decide) hgr3)
             obtain ⟨inner, ho⟩ := Kd.R_own HOWN2.out
             have HST3 := Lib.hid ((RStep.trans HST.out HST2.out).grown ho (Nat.le_refl _) hnw hgr3)
             clear hown3 hbel3 hgr3 hat3 ho inner))
        go_roundg (N - (xs.length + 1))
        case measure => omega
        case rel => exact ⟨xs ++ [(rdFloat s r').1], (rdFloat s r').2, by simp; omega, by simp, HOWN3.out, HRD3.out, HST3.out, by rw [HIT.out, HSUC.out, rep_go _ _ _ HE'.out]; simp⟩
      case neg =>
        have HSTOP := Lib.hid (rep_stop (rdFloat s) (N - xs.length) r' (if h1 : xs.length < N then .inr (fun h2 => hgo ⟨h1, h2⟩) else .inl (by omega)))
        have hfin : itms s (rdFloat s) r = (xs, r') := by rw [HIT.out, HSTOP.out]; simp
        have HFIN := Lib.hid hfin
        clear hfin
        by_cases hlt : xs.length < N
        case pos =>
          have he' : r'.e ≠ 0 := fun h2 => hgo ⟨hlt, h2⟩
          have he1 : (r'.e == 0) = false := by rw [beq_eq_false_iff_ne]; exact he'
          clear hgo he'
          go_wp2
          go_ret
          rw [HFIN.out]
          exact ⟨_, rfl, HOWN.out, HRD.out, HST.out⟩
        case neg =>
          clear hgo
          go_wp2
          go_ret
          rw [HFIN.out]
          exact ⟨_, rfl, HOWN.out, HRD.out, HST.out⟩

set_option maxHeartbeats 4000000 in
set_option maxRecDepth 100000 in
theorem itemsI_any (n B : Nat) (s : ByteArray) (r : Rd) (w : World) (hn : n ≤ B) (hs : s.size ≤ 1099511627776) (h : RdAt w B s r) (hnw : n ≤ w.heap.size) :
    Calls Try.prog 120 #[.pointer (some ⟨B, 0, none⟩), .func (.func 112) #[.pointer (some ⟨B, 0, none⟩)] #[]] w fun e W => ∃ v, e = .returned v ∧ kI.R 3 W w.heap.size (fun _ => True) v (itms s (rdInt s) r).1 ∧ RdAt W B s (itms s (rdInt s) r).2 ∧ RStep n B w W := by
  have H := Lib.hid h
  clear h
  go_enter Try.func120, Try.ntmps120
  by_cases he : (rdInt s r).2.e = 0
  case neg =>
    have HE := Lib.hid he
    have he1 : ((rdInt s r).2.e == 0) = false := by rw [beq_eq_false_iff_ne]; exact he
    go_wp2_with (go_at_call 112; refine (readerInt_any n B s r _ hn hs H.out).mono ?_; rintro e w1 ⟨rfl, hr1, hs1⟩
                 have HR1 := Lib.hid hr1
                 have HS1 := Lib.hid hs1
                 obtain ⟨q1, hb1, -⟩ := hr1
                 have k2 := hb1.cell (i := 2) rfl
                 clear hb1 hs1)
    go_loopg [6, 7] 1 (fun g v i wr => g = 1 ∧ v = .slice none 0 0 ∧ i = .int .i64 0 ∧ wr = w1)
    case atStart => exact ⟨rfl, rfl, rfl, rfl⟩
    case round =>
      obtain ⟨-, rfl, rfl, rfl⟩ := hrel
      by_cases hpos : (0 : Int) < (rdInt s r).1
      all_goals
        go_wp2
        go_ret
        have e1 : itms s (rdInt s) r = ([], (rdInt s r).2) := by
          unfold itms cnt
          rw [if_neg (fun hh => HE.out hh.1)]
          exact rep_stop _ _ _ (.inr HE.out)
        rw [e1]
        exact ⟨_, rfl, Kd.R_nil _ _ _ _ _, HR1.out, HS1.out⟩
  by_cases hbad : (rdInt s r).1 < 0 ∨ (rdInt s r).1 > 48
  case pos =>
    have HE := Lib.hid he
    have HBAD := Lib.hid hbad
    have he1 : ((rdInt s r).2.e == 0) = true := by rw [beq_iff_eq]; exact he
    clear he
    have key : ∀ (b1 : Bool), decide ((rdInt s r).1 < 0) = b1 → (b1 = false → decide ((rdInt s r).1 > 48) = true) → True := fun _ _ _ => trivial
    clear key hbad
    rcases HBAD.out with hb0 | hb0
    all_goals
      have hb1 : decide ((rdInt s r).1 < 0) = decide ((rdInt s r).1 < 0) := rfl
      clear hb1
      go_wp2_with (go_at_call 112; refine (readerInt_any n B s r _ hn hs H.out).mono ?_; rintro e w1 ⟨rfl, hr1, hs1⟩
                   have HR1 := Lib.hid hr1
                   have HS1 := Lib.hid hs1
                   obtain ⟨q1, hb1, -⟩ := hr1
                   have k2 := hb1.cell (i := 2) rfl
                   have f2 := hb1.free 2
                   have lt2 := Out.lt hb1
                   have HB1 := Lib.hid hb1
                   clear hb1 hs1)
      have HB2 := Lib.hid (HB1.out.set 2 (.int .i64 6))
      have HS2 := Lib.hid (HS1.out.set hn 2 (.int .i64 6))
      have k3 := HB2.out.cell (i := 2) rfl
      clear k2 f2
      generalize w1.setCell ⟨B, 2, none⟩ (.int .i64 6) = w2 at *
      go_loopg [6, 7] 1 (fun g v i wr => g = 1 ∧ v = .slice none 0 0 ∧ i = .int .i64 0 ∧ wr = w2)
      case atStart => exact ⟨rfl, rfl, rfl, rfl⟩
      case round =>
        obtain ⟨-, rfl, rfl, rfl⟩ := hrel
        go_wp2
        go_ret
        have e1 : itms s (rdInt s) r = ([], ⟨0, 6⟩) := by
          unfold itms cnt
          rw [if_pos ⟨HE.out, HBAD.out⟩]
          exact rep_stop _ _ _ (.inl rfl)
        rw [e1]
        exact ⟨_, rfl, Kd.R_nil _ _ _ _ _, ⟨q1, HB2.out, fun h6 => by cases h6⟩, HS2.out⟩
  case neg =>
    obtain ⟨N, hN⟩ : ∃ N : Nat, (rdInt s r).1 = N := ⟨(rdInt s r).1.toNat, by omega⟩
    have hN48 : N ≤ 48 := by omega
    have HI := Lib.hid (show itms s (rdInt s) r = rep (rdInt s) N (rdInt s r).2 from by
      unfold itms cnt
      rw [if_neg (fun hh => hbad hh.2), hN]; rfl)
    have HN := Lib.hid hN
    have HE := Lib.hid he
    have hb1 : ¬ ((N : Int) < 0) := by omega
    have hb2 : ¬ ((N : Int) > 48) := by omega
    clear hbad hN he
    go_wp2_with (go_at_call 112; refine (readerInt_any n B s r _ hn hs H.out).mono ?_; rintro e w1 ⟨rfl, hr1, hs1⟩
                 rw [HN.out]
                 have HR1 := Lib.hid hr1
                 have HS1 := Lib.hid hs1
                 obtain ⟨q1, hb1, -⟩ := hr1
                 have k2 := hb1.cell (i := 2) rfl
                 rw [HE.out] at k2
                 clear hb1 hs1)
    clear k2 hb1 hb2
    go_loopg [6, 7] N (fun g v i wr => ∃ (xs : List Int) (r' : Rd), g + xs.length = N ∧ i = .int .i64 xs.length ∧ kI.R 3 wr w.heap.size (fun _ => True) v xs ∧ RdAt wr B s r' ∧ RStep n B w wr ∧
      itms s (rdInt s) r = (xs ++ (rep (rdInt s) (N - xs.length) r').1, (rep (rdInt s) (N - xs.length) r').2))
    case atStart => exact ⟨[], _, by simp, rfl, Kd.R_nil _ _ _ _ _, HR1.out, HS1.out, HI.out⟩
    case round =>
      clear HR1 HS1
      obtain ⟨xs, r', hk, rfl, hown, hrd, hst, hit⟩ := hrel
      have HOWN := Lib.hid hown
      have HRD := Lib.hid hrd
      have HST := Lib.hid hst
      have HIT := Lib.hid hit
      obtain ⟨q1, hb1, -⟩ := hrd
      have k2 := hb1.cell (i := 2) rfl
      obtain ⟨a0, c0, ev⟩ := Kd.R_slice hown
      subst ev
      have hsz := hst.size
      clear hb1 hown hst hit
      by_cases hgo : xs.length < N ∧ r'.e = 0
      case pos =>
        obtain ⟨hlt, he'⟩ := hgo
        rw [he'] at k2
        have HE' := Lib.hid he'
        clear he'
        have HSUC := Lib.hid (show N - xs.length = (N - (xs.length + 1)) + 1 by omega)
        go_wp2_with (first
          | (go_at_call 112
             refine (readerInt_any n B s r' _ hn hs HRD.out).mono ?_
             rintro e w2 ⟨rfl, hrd2, hst2⟩
             have HRD2 := Lib.hid hrd2
             have HST2 := Lib.hid hst2
             have HOWN2 := Lib.hid (R_rstep HOWN.out HRD.out (by decide) hst2)
             have hsz2 := hst2.size
             clear hrd2 hst2 k2)
          | (at_builtin; refine Kd.R_append kI (w0 := w2) w.heap.size rfl _ _ 39 3 (.int .i64 0) 8 rfl Try.underlying39 j3 rfl (by decide) (by omega) (.slice a0 xs.length c0) xs (rdInt s r').1 [.int .i64 (rdInt s r').1] (fun _ => True) (fun k => True ∧ some k ≠ (Value.slice a0 xs.length c0).ownBlock) rfl rfl (rfl) (fun k hk => ⟨trivial, hk.2⟩) (fun _ _ => trivial) HOWN2.out (Below.refl _ _) (Nat.le_trans hsz hsz2) (by omega) ?_
             intro v3 w3 hown3 hbel3 hgr3 hat3
             obtain ⟨a3, m3, c3, ev⟩ : ∃ a m c, v3 = .slice a m c := by obtain ⟨a, c, e⟩ := Kd.R_slice hown3; exact ⟨a, _, c, e⟩
             subst ev
             have HOWN3 := Lib.hid hown3
             have HRD3 := Lib.hid (RdAt.grown HRD2.out HOWN2.out (by decide) hgr3)
             obtain ⟨inner, ho⟩ := Kd.R_own HOWN2.out
             have HST3 := Lib.hid ((RStep.trans HST.out HST2.out).grown ho (Nat.le_refl _) hnw hgr3)
             clear hown3 hbel3 hgr3 hat3 ho inner))
        go_roundg (N - (xs.length + 1))
        case measure => omega
        case rel => exact ⟨xs ++ [(rdInt s r').1], (rdInt s r').2, by simp; omega, by simp, HOWN3.out, HRD3.out, HST3.out, by rw [HIT.out, HSUC.out, rep_go _ _ _ HE'.out]; simp⟩
      case neg =>
        have HSTOP := Lib.hid (rep_stop (rdInt s) (N - xs.length) r' (if h1 : xs.length < N then .inr (fun h2 => hgo ⟨h1, h2⟩) else .inl (by omega)))
        have hfin : itms s (rdInt s) r = (xs, r') := by rw [HIT.out, HSTOP.out]; simp
        have HFIN := Lib.hid hfin
        clear hfin
        by_cases hlt : xs.length < N
        case pos =>
          have he' : r'.e ≠ 0 := fun h2 => hgo ⟨hlt, h2⟩
          have he1 : (r'.e == 0) = false := by rw [beq_eq_false_iff_ne]; exact he'
          clear hgo he'
          go_wp2
          go_ret
          rw [HFIN.out]
          exact ⟨_, rfl, HOWN.out, HRD.out, HST.out⟩
        case neg =>
          clear hgo
          go_wp2
          go_ret
          rw [HFIN.out]
          exact ⟨_, rfl, HOWN.out, HRD.out, HST.out⟩
end Go.Proofs.Ytkoopobfelcgpaa
end -- D2

section -- D3
/- layer 6: Get's functions -/
set_option linter.unusedSimpArgs false
set_option linter.unusedVariables false
namespace Go.Proofs.Ytkoopobfelcgpaa
open Go.RowKit Go.Proofs.YtkoopobfelcgpaaW.PrintWords Go.Proofs.YtkoopobfelcgpaaW.PrintMore

theorem RStep.drew {n B : Nat} {a b : World} (h : RStep n B a b) (hn : n ≤ a.heap.size) : RStep n B a b.drew := h.trans (RStep.of_gr ((Gr.refl _).drew) (Nat.le_trans hn h.size))
theorem RStep.alloc {n B : Nat} {a b : World} (h : RStep n B a b) (hn : n ≤ a.heap.size) (o : Obj) : RStep n B a (b.alloc o) := h.trans (RStep.of_gr ((Gr.refl _).alloc _) (Nat.le_trans hn h.size))
theorem RStep.after {n B : Nat} {a b c : World} (h : RStep n B a b) (g : Gr b c) (hn : n ≤ a.heap.size) : RStep n B a c := h.trans (RStep.of_gr g (Nat.le_trans hn h.size))
theorem RStep.out {n B T O : Nat} {a b : World} {cs : List Value} (h : RStep n B a b) (ho : Out T a O cs) (hne : O ≠ B) : Out T b O cs := h.block ho hne
theorem RdAt.set_other {w : World} {B O i : Nat} {s : ByteArray} {r : Rd} {u : Value} (h : RdAt w B s r) (hne : B ≠ O) : RdAt (w.setCell ⟨O, i, none⟩ u) B s r := by
  obtain ⟨q, h, hq⟩ := h
  exact ⟨q, h.set_other hne, hq⟩
/-- a store into a block that is new since a -/
theorem RStep.setNew {n B : Nat} {a b : World} (h : RStep n B a b) {O : Nat} (hO : a.heap.size ≤ O) (hn : n ≤ a.heap.size) (i : Nat) (u : Value) : RStep n B a (b.setCell ⟨O, i, none⟩ u) :=
  ⟨h.below.setCell (p := ⟨O, i, none⟩) (Nat.le_trans hn hO) u, fun j hj hne => (Below.heap_setCell b ⟨O, i, none⟩ u j (by intro e; simp only [] at e; omega)).trans (h.kept j hj hne)⟩

set_option maxHeartbeats 4000000 in
set_option maxRecDepth 100000 in
theorem getIns_any (n B : Nat) (s : ByteArray) (r : Rd) (w : World) (bx : Nat) (hbox : ∀ W, RStep n B w W → W.cell? ⟨bx, 0, none⟩ = some (.pointer (some ⟨B, 0, none⟩))) (hn : n ≤ B) (hs : s.size ≤ 1099511627776) (h : RdAt w B s r) (hnw : n ≤ w.heap.size) :
    Calls Try.prog 111 #[.pointer (some ⟨bx, 0, none⟩)] w fun e W => e = .returned (.agg #[.int .i64 (rdIns s r).1.op, .int .i64 (rdIns s r).1.a, .int .i64 (rdIns s r).1.b, .int .i64 (rdIns s r).1.c]) ∧ RdAt W B s (rdIns s r).2 ∧ RStep n B w W := by
  have hbl := h.lt
  have H := Lib.hid h
  have hbxl := lt_of_cell (hbox w (RStep.refl _ _ _))
  simp only [] at hbxl
  clear h
  have hg0 : Gr w (w.alloc (.cells #[.int .i64 0, .int .i64 0, .int .i64 0, .int .i64 0] 34)) := (Gr.refl w).alloc _
  have HBOX := Lib.hid hbox
  clear hbox
  have HS0 := Lib.hid (RStep.of_gr (B := B) hg0 hnw)
  have HZ0 := Lib.hid (Out.drew (Out.new (w := w) (T := 34) (cs := [.int .i64 0, .int .i64 0, .int .i64 0, .int .i64 0])))
  have KS := Lib.hid (fun (W : World) (g : RStep n B w W) => show (W.cell? ⟨bx, 0, none⟩ = some (.pointer (some ⟨B, 0, none⟩)) ∧ RStep n B w W) from ⟨HBOX.out W g, g⟩)
  have HRD0 := Lib.hid ((H.out.gr hg0).gr (Gr.refl _).drew)
  have HG0 := Lib.hid hg0
  clear hg0
  go_enter Try.func111, Try.ntmps111
  go_wp2_with fail
  go_region_held3 (fun W => (W.cell? ⟨bx, 0, none⟩ = some (.pointer (some ⟨B, 0, none⟩)) ∧ RStep n B w W))
    (exact KS.out _ (by repeat (first | exact HS0.out | with_reducible assumption | with_reducible exact And.right (by assumption) | with_reducible refine RStep.drew ?_ hnw | with_reducible refine RStep.alloc ?_ hnw _ | with_reducible refine RStep.setNew ?_ (Nat.le_refl _) hnw _ _)))
    (first
      | (go_at_call 112
         refine (readerInt_any n B s r _ hn hs (by exact HRD0.out)).mono ?_
         rintro e w1 ⟨rfl, hr1, hs2⟩
         have hstw1 : RStep n B w w1 := RStep.trans (by repeat (first | exact HS0.out | with_reducible assumption | with_reducible exact And.right (by assumption) | with_reducible refine RStep.drew ?_ hnw | with_reducible refine RStep.alloc ?_ hnw _ | with_reducible refine RStep.setNew ?_ (Nat.le_refl _) hnw _ _)) hs2
         have hz : Out 34 w1 w.heap.size [.int .i64 0, .int .i64 0, .int .i64 0, .int .i64 0] := RStep.out hs2 (by first | exact HZ0.out | exact hz) (by omega)
         have k0 := hz.cell (i := 0) rfl
         have f0 := hz.free 0
         have k1 := hz.cell (i := 1) rfl
         have f1 := hz.free 1
         have k2 := hz.cell (i := 2) rfl
         have f2 := hz.free 2
         have k3 := hz.cell (i := 3) rfl
         have f3 := hz.free 3
         have ltz := Out.lt hz
         clear hs2)
      | (go_at_call 112
         refine (readerInt_any n B s (rdInt s r).2 _ hn hs (by exact hr1)).mono ?_
         rintro e w2 ⟨rfl, hr2, hs2⟩
         have hstw2 : RStep n B w w2 := RStep.trans (by repeat (first | exact HS0.out | with_reducible assumption | with_reducible exact And.right (by assumption) | with_reducible refine RStep.drew ?_ hnw | with_reducible refine RStep.alloc ?_ hnw _ | with_reducible refine RStep.setNew ?_ (Nat.le_refl _) hnw _ _)) hs2
         have hz : Out 34 w2 w.heap.size [.int .i64 0, .int .i64 0, .int .i64 0, .int .i64 0] := RStep.out hs2 (by first | exact HZ0.out | exact hz) (by omega)
         have k0 := hz.cell (i := 0) rfl
         have f0 := hz.free 0
         have k1 := hz.cell (i := 1) rfl
         have f1 := hz.free 1
         have k2 := hz.cell (i := 2) rfl
         have f2 := hz.free 2
         have k3 := hz.cell (i := 3) rfl
         have f3 := hz.free 3
         have ltz := Out.lt hz
         clear hs2)
      | (go_at_call 112
         refine (readerInt_any n B s (rdInt s (rdInt s r).2).2 _ hn hs (by exact hr2)).mono ?_
         rintro e w3 ⟨rfl, hr3, hs2⟩
         have hstw3 : RStep n B w w3 := RStep.trans (by repeat (first | exact HS0.out | with_reducible assumption | with_reducible exact And.right (by assumption) | with_reducible refine RStep.drew ?_ hnw | with_reducible refine RStep.alloc ?_ hnw _ | with_reducible refine RStep.setNew ?_ (Nat.le_refl _) hnw _ _)) hs2
         have hz : Out 34 w3 w.heap.size [.int .i64 0, .int .i64 0, .int .i64 0, .int .i64 0] := RStep.out hs2 (by first | exact HZ0.out | exact hz) (by omega)
         have k0 := hz.cell (i := 0) rfl
         have f0 := hz.free 0
         have k1 := hz.cell (i := 1) rfl
         have f1 := hz.free 1
         have k2 := hz.cell (i := 2) rfl
         have f2 := hz.free 2
         have k3 := hz.cell (i := 3) rfl
         have f3 := hz.free 3
         have ltz := Out.lt hz
         clear hs2)
      | (go_at_call 112
         refine (readerInt_any n B s (rdInt s (rdInt s (rdInt s r).2).2).2 _ hn hs (by exact hr3)).mono ?_
         rintro e w4 ⟨rfl, hr4, hs2⟩
         have hstw4 : RStep n B w w4 := RStep.trans (by repeat (first | exact HS0.out | with_reducible assumption | with_reducible exact And.right (by assumption) | with_reducible refine RStep.drew ?_ hnw | with_reducible refine RStep.alloc ?_ hnw _ | with_reducible refine RStep.setNew ?_ (Nat.le_refl _) hnw _ _)) hs2
         have hz : Out 34 w4 w.heap.size [.int .i64 0, .int .i64 0, .int .i64 0, .int .i64 0] := RStep.out hs2 (by first | exact HZ0.out | exact hz) (by omega)
         have k0 := hz.cell (i := 0) rfl
         have f0 := hz.free 0
         have k1 := hz.cell (i := 1) rfl
         have f1 := hz.free 1
         have k2 := hz.cell (i := 2) rfl
         have f2 := hz.free 2
         have k3 := hz.cell (i := 3) rfl
         have f3 := hz.free 3
         have ltz := Out.lt hz
         clear hs2))
  all_goals
    have HX := Lib.hid ((((hstw4.setNew (O := w.heap.size) (Nat.le_refl _) hnw 0 (.int .i64 (rdInt s r).1)).setNew (O := w.heap.size) (Nat.le_refl _) hnw 1 (.int .i64 (rdInt s (rdInt s r).2).1)).setNew (O := w.heap.size) (Nat.le_refl _) hnw 2 (.int .i64 (rdInt s (rdInt s (rdInt s r).2).2).1)).setNew (O := w.heap.size) (Nat.le_refl _) hnw 3 (.int .i64 (rdInt s (rdInt s (rdInt s (rdInt s r).2).2).2).1))
    have HRX := Lib.hid ((((hr4.set_other (O := w.heap.size) (i := 0) (u := .int .i64 (rdInt s r).1) (by omega)).set_other (O := w.heap.size) (i := 1) (u := .int .i64 (rdInt s (rdInt s r).2).1) (by omega)).set_other (O := w.heap.size) (i := 2) (u := .int .i64 (rdInt s (rdInt s (rdInt s r).2).2).1) (by omega)).set_other (O := w.heap.size) (i := 3) (u := .int .i64 (rdInt s (rdInt s (rdInt s (rdInt s r).2).2).2).1) (by omega))
    have HO := Lib.hid (show Out 34 ((((w4.setCell ⟨w.heap.size, 0, none⟩ (.int .i64 (rdInt s r).1)).setCell ⟨w.heap.size, 1, none⟩ (.int .i64 (rdInt s (rdInt s r).2).1)).setCell ⟨w.heap.size, 2, none⟩ (.int .i64 (rdInt s (rdInt s (rdInt s r).2).2).1)).setCell ⟨w.heap.size, 3, none⟩ (.int .i64 (rdInt s (rdInt s (rdInt s (rdInt s r).2).2).2).1)) w.heap.size [.int .i64 (rdInt s r).1, .int .i64 (rdInt s (rdInt s r).2).1, .int .i64 (rdInt s (rdInt s (rdInt s r).2).2).1, .int .i64 (rdInt s (rdInt s (rdInt s (rdInt s r).2).2).2).1] from ((((hz.set 0 (.int .i64 (rdInt s r).1)).set 1 (.int .i64 (rdInt s (rdInt s r).2).1)).set 2 (.int .i64 (rdInt s (rdInt s (rdInt s r).2).2).1)).set 3 (.int .i64 (rdInt s (rdInt s (rdInt s (rdInt s r).2).2).2).1)))
    clear k0 f0 hz ltz hstw4
    generalize ((((w4.setCell ⟨w.heap.size, 0, none⟩ (.int .i64 (rdInt s r).1)).setCell ⟨w.heap.size, 1, none⟩ (.int .i64 (rdInt s (rdInt s r).2).1)).setCell ⟨w.heap.size, 2, none⟩ (.int .i64 (rdInt s (rdInt s (rdInt s r).2).2).1)).setCell ⟨w.heap.size, 3, none⟩ (.int .i64 (rdInt s (rdInt s (rdInt s (rdInt s r).2).2).2).1)) = W9 at *
    have z0 := HO.out.cell (i := 0) rfl
    have z1 := HO.out.cell (i := 1) rfl
    have z2 := HO.out.cell (i := 2) rfl
    have z3 := HO.out.cell (i := 3) rfl
    go_wp2
    refine bodyPost_ret (v := .agg #[.int .i64 (rdInt s r).1, .int .i64 (rdInt s (rdInt s r).2).1, .int .i64 (rdInt s (rdInt s (rdInt s r).2).2).1, .int .i64 (rdInt s (rdInt s (rdInt s (rdInt s r).2).2).2).1]) ?_ rfl ⟨rfl, HRX.out, HX.out⟩
    simp [results, Try.results111, go_sem, z0, z1, z2, z3]

set_option maxHeartbeats 4000000 in
set_option maxRecDepth 100000 in
theorem itemsIns_any (n B : Nat) (s : ByteArray) (r : Rd) (w : World) (bx : Nat) (hbox : ∀ W, RStep n B w W → W.cell? ⟨bx, 0, none⟩ = some (.pointer (some ⟨B, 0, none⟩))) (hn : n ≤ B) (hs : s.size ≤ 1099511627776) (h : RdAt w B s r) (hnw : n ≤ w.heap.size) :
    Calls Try.prog 117 #[.pointer (some ⟨B, 0, none⟩), .func (.func 111) #[] #[.pointer (some ⟨bx, 0, none⟩)]] w fun e W => ∃ v, e = .returned v ∧ kIns.R 34 W w.heap.size (fun _ => True) v (itms s (rdIns s) r).1 ∧ RdAt W B s (itms s (rdIns s) r).2 ∧ RStep n B w W := by
  have H := Lib.hid h
  clear h
  have HBX := Lib.hid hbox
  clear hbox
  go_enter Try.func117, Try.ntmps117
  by_cases he : (rdInt s r).2.e = 0
  case neg =>
    have HE := Lib.hid he
    have he1 : ((rdInt s r).2.e == 0) = false := by rw [beq_eq_false_iff_ne]; exact he
    go_wp2_with (go_at_call 112; refine (readerInt_any n B s r _ hn hs H.out).mono ?_; rintro e w1 ⟨rfl, hr1, hs1⟩
                 have HR1 := Lib.hid hr1
                 have HS1 := Lib.hid hs1
                 obtain ⟨q1, hb1, -⟩ := hr1
                 have k2 := hb1.cell (i := 2) rfl
                 clear hb1 hs1)
    go_loopg [6, 7] 1 (fun g v i wr => g = 1 ∧ v = .slice none 0 0 ∧ i = .int .i64 0 ∧ wr = w1)
    case atStart => exact ⟨rfl, rfl, rfl, rfl⟩
    case round =>
      obtain ⟨-, rfl, rfl, rfl⟩ := hrel
      by_cases hpos : (0 : Int) < (rdInt s r).1
      all_goals
        go_wp2
        go_ret
        have e1 : itms s (rdIns s) r = ([], (rdInt s r).2) := by
          unfold itms cnt
          rw [if_neg (fun hh => HE.out hh.1)]
          exact rep_stop _ _ _ (.inr HE.out)
        rw [e1]
        exact ⟨_, rfl, Kd.R_nil _ _ _ _ _, HR1.out, HS1.out⟩
  by_cases hbad : (rdInt s r).1 < 0 ∨ (rdInt s r).1 > 48
  case pos =>
    have HE := Lib.hid he
    have HBAD := Lib.hid hbad
    have he1 : ((rdInt s r).2.e == 0) = true := by rw [beq_iff_eq]; exact he
    clear he
    have key : ∀ (b1 : Bool), decide ((rdInt s r).1 < 0) = b1 → (b1 = false → decide ((rdInt s r).1 > 48) = true) → True := fun _ _ _ => trivial
    clear key hbad
    rcases HBAD.out with hb0 | hb0
    all_goals
      have hb1 : decide ((rdInt s r).1 < 0) = decide ((rdInt s r).1 < 0) := rfl
      clear hb1
      go_wp2_with (go_at_call 112; refine (readerInt_any n B s r _ hn hs H.out).mono ?_; rintro e w1 ⟨rfl, hr1, hs1⟩
                   have HR1 := Lib.hid hr1
                   have HS1 := Lib.hid hs1
                   obtain ⟨q1, hb1, -⟩ := hr1
                   have k2 := hb1.cell (i := 2) rfl
                   have f2 := hb1.free 2
                   have lt2 := Out.lt hb1
                   have HB1 := Lib.hid hb1
                   clear hb1 hs1)
      have HB2 := Lib.hid (HB1.out.set 2 (.int .i64 6))
      have HS2 := Lib.hid (HS1.out.set hn 2 (.int .i64 6))
      have k3 := HB2.out.cell (i := 2) rfl
      clear k2 f2
      generalize w1.setCell ⟨B, 2, none⟩ (.int .i64 6) = w2 at *
      go_loopg [6, 7] 1 (fun g v i wr => g = 1 ∧ v = .slice none 0 0 ∧ i = .int .i64 0 ∧ wr = w2)
      case atStart => exact ⟨rfl, rfl, rfl, rfl⟩
      case round =>
        obtain ⟨-, rfl, rfl, rfl⟩ := hrel
        go_wp2
        go_ret
        have e1 : itms s (rdIns s) r = ([], ⟨0, 6⟩) := by
          unfold itms cnt
          rw [if_pos ⟨HE.out, HBAD.out⟩]
          exact rep_stop _ _ _ (.inl rfl)
        rw [e1]
        exact ⟨_, rfl, Kd.R_nil _ _ _ _ _, ⟨q1, HB2.out, fun h6 => by cases h6⟩, HS2.out⟩
  case neg =>
    obtain ⟨N, hN⟩ : ∃ N : Nat, (rdInt s r).1 = N := ⟨(rdInt s r).1.toNat, by omega⟩
    have hN48 : N ≤ 48 := by omega
    have HI := Lib.hid (show itms s (rdIns s) r = rep (rdIns s) N (rdInt s r).2 from by
      unfold itms cnt
      rw [if_neg (fun hh => hbad hh.2), hN]; rfl)
    have HN := Lib.hid hN
    have HE := Lib.hid he
    have hb1 : ¬ ((N : Int) < 0) := by omega
    have hb2 : ¬ ((N : Int) > 48) := by omega
    clear hbad hN he
    go_wp2_with (go_at_call 112; refine (readerInt_any n B s r _ hn hs H.out).mono ?_; rintro e w1 ⟨rfl, hr1, hs1⟩
                 rw [HN.out]
                 have HR1 := Lib.hid hr1
                 have HS1 := Lib.hid hs1
                 obtain ⟨q1, hb1, -⟩ := hr1
                 have k2 := hb1.cell (i := 2) rfl
                 rw [HE.out] at k2
                 clear hb1 hs1)
    clear k2 hb1 hb2
    go_loopg [6, 7] N (fun g v i wr => ∃ (xs : List PIns) (r' : Rd), g + xs.length = N ∧ i = .int .i64 xs.length ∧ kIns.R 34 wr w.heap.size (fun _ => True) v xs ∧ RdAt wr B s r' ∧ RStep n B w wr ∧
      itms s (rdIns s) r = (xs ++ (rep (rdIns s) (N - xs.length) r').1, (rep (rdIns s) (N - xs.length) r').2))
    case atStart => exact ⟨[], _, by simp, rfl, Kd.R_nil _ _ _ _ _, HR1.out, HS1.out, HI.out⟩
    case round =>
      clear HR1 HS1
      obtain ⟨xs, r', hk, rfl, hown, hrd, hst, hit⟩ := hrel
      have HOWN := Lib.hid hown
      have HRD := Lib.hid hrd
      have HST := Lib.hid hst
      have HIT := Lib.hid hit
      obtain ⟨q1, hb1, -⟩ := hrd
      have k2 := hb1.cell (i := 2) rfl
      obtain ⟨a0, c0, ev⟩ := Kd.R_slice hown
      subst ev
      have hsz := hst.size
      clear hb1 hown hst hit
      by_cases hgo : xs.length < N ∧ r'.e = 0
      case pos =>
        obtain ⟨hlt, he'⟩ := hgo
        rw [he'] at k2
        have HE' := Lib.hid he'
        clear he'
        have HSUC := Lib.hid (show N - xs.length = (N - (xs.length + 1)) + 1 by omega)
        go_wp2_with (first
          | (go_at_call 111
             refine (getIns_any n B s r' _ bx (fun W hW => HBX.out W (HST.out.trans hW)) hn hs HRD.out (Nat.le_trans hnw hsz)).mono ?_
             rintro e w2 ⟨rfl, hrd2, hst2⟩
             have HRD2 := Lib.hid hrd2
             have HST2 := Lib.hid hst2
             have HOWN2 := Lib.hid (R_rstep HOWN.out HRD.out (by decide) hst2)
             have hsz2 := hst2.size
             clear hrd2 hst2 k2)
          | (at_builtin; refine Kd.R_append kIns (w0 := w2) w.heap.size rfl _ _ 38 34 (.agg #[.int .i64 0, .int .i64 0, .int .i64 0, .int .i64 0]) 32 rfl Try.underlying38 j34 rfl (by decide) (by omega) (.slice a0 xs.length c0) xs (rdIns s r').1 [.int .i64 (rdIns s r').1.op, .int .i64 (rdIns s r').1.a, .int .i64 (rdIns s r').1.b, .int .i64 (rdIns s r').1.c] (fun _ => True) (fun k => True ∧ some k ≠ (Value.slice a0 xs.length c0).ownBlock) rfl rfl (kIns_mk _ _ _ _) (fun k hk => ⟨trivial, hk.2⟩) (fun _ _ => trivial) HOWN2.out (Below.refl _ _) (Nat.le_trans hsz hsz2) (by omega) ?_
             intro v3 w3 hown3 hbel3 hgr3 hat3
             obtain ⟨a3, m3, c3, ev⟩ : ∃ a m c, v3 = .slice a m c := by obtain ⟨a, c, e⟩ := Kd.R_slice hown3; exact ⟨a, _, c, e⟩
             subst ev
             have HOWN3 := Lib.hid hown3
             have HRD3 := Lib.hid (RdAt.grown HRD2.out HOWN2.out (by decide) hgr3)
             obtain ⟨inner, ho⟩ := Kd.R_own HOWN2.out
             have HST3 := Lib.hid ((RStep.trans HST.out HST2.out).grown ho (Nat.le_refl _) hnw hgr3)
             clear hown3 hbel3 hgr3 hat3 ho inner))
        go_roundg (N - (xs.length + 1))
        case measure => omega
        case rel => exact ⟨xs ++ [(rdIns s r').1], (rdIns s r').2, by simp; omega, by simp, HOWN3.out, HRD3.out, HST3.out, by rw [HIT.out, HSUC.out, rep_go _ _ _ HE'.out]; simp⟩
      case neg =>
        have HSTOP := Lib.hid (rep_stop (rdIns s) (N - xs.length) r' (if h1 : xs.length < N then .inr (fun h2 => hgo ⟨h1, h2⟩) else .inl (by omega)))
        have hfin : itms s (rdIns s) r = (xs, r') := by rw [HIT.out, HSTOP.out]; simp
        have HFIN := Lib.hid hfin
        clear hfin
        by_cases hlt : xs.length < N
        case pos =>
          have he' : r'.e ≠ 0 := fun h2 => hgo ⟨hlt, h2⟩
          have he1 : (r'.e == 0) = false := by rw [beq_eq_false_iff_ne]; exact he'
          clear hgo he'
          go_wp2
          go_ret
          rw [HFIN.out]
          exact ⟨_, rfl, HOWN.out, HRD.out, HST.out⟩
        case neg =>
          clear hgo
          go_wp2
          go_ret
          rw [HFIN.out]
          exact ⟨_, rfl, HOWN.out, HRD.out, HST.out⟩

set_option maxHeartbeats 1000000 in
theorem getProg_any (n B : Nat) (s : ByteArray) (r : Rd) (w : World) (bx bi : Nat) (hbox : ∀ W, RStep n B w W → W.cell? ⟨bx, 0, none⟩ = some (.pointer (some ⟨B, 0, none⟩))) (hboi : w.cell? ⟨bi, 0, none⟩ = some (.func (.func 111) #[] #[.pointer (some ⟨bx, 0, none⟩)]))
    (hn : n ≤ B) (hs : s.size ≤ 1099511627776) (h : RdAt w B s r) (hnw : n ≤ w.heap.size) :
    Calls Try.prog 116 #[.pointer (some ⟨bx, 0, none⟩), .pointer (some ⟨bi, 0, none⟩)] w fun e W => ∃ v, e = .returned v ∧ kIns.R 34 W w.heap.size (fun _ => True) v (rdProg s r).1 ∧ RdAt W B s (rdProg s r).2 ∧ RStep n B w W := by
  have H := Lib.hid h
  have HBX := Lib.hid hbox
  have hb := hbox w (RStep.refl _ _ _)
  clear h hbox
  go_enter Try.func116, Try.ntmps116
  go_wp2_with (go_at_call 117; refine (itemsIns_any n B s r _ bx HBX.out hn hs H.out hnw).mono ?_; rintro e w1 ⟨v, rfl, hv, hr1, hs1⟩
               obtain ⟨a, m, c, ev⟩ : ∃ a m c, v = .slice a m c := by obtain ⟨a, c, e⟩ := Kd.R_slice hv; exact ⟨a, _, c, e⟩
               subst ev
               have HV := Lib.hid hv
               have HR1 := Lib.hid hr1
               have HS1 := Lib.hid hs1
               clear hv hr1 hs1)
  go_ret
  exact ⟨_, rfl, HV.out, HR1.out, HS1.out⟩

set_option maxHeartbeats 4000000 in
set_option maxRecDepth 100000 in
theorem itemsProg_any (n B : Nat) (s : ByteArray) (r : Rd) (w : World) (bx : Nat) (hbox : ∀ W, RStep n B w W → W.cell? ⟨bx, 0, none⟩ = some (.pointer (some ⟨B, 0, none⟩))) (bi : Nat) (hboi : ∀ W, RStep n B w W → W.cell? ⟨bi, 0, none⟩ = some (.func (.func 111) #[] #[.pointer (some ⟨bx, 0, none⟩)])) (hn : n ≤ B) (hs : s.size ≤ 1099511627776) (h : RdAt w B s r) (hnw : n ≤ w.heap.size) :
    Calls Try.prog 115 #[.pointer (some ⟨B, 0, none⟩), .func (.func 116) #[] #[.pointer (some ⟨bx, 0, none⟩), .pointer (some ⟨bi, 0, none⟩)]] w fun e W => ∃ v, e = .returned v ∧ kProg.R 38 W w.heap.size (fun _ => True) v (itms s (rdProg s) r).1 ∧ RdAt W B s (itms s (rdProg s) r).2 ∧ RStep n B w W := by
  have H := Lib.hid h
  clear h
  have HBX := Lib.hid hbox
  clear hbox
  have HBI := Lib.hid hboi
  clear hboi
  go_enter Try.func115, Try.ntmps115
  by_cases he : (rdInt s r).2.e = 0
  case neg =>
    have HE := Lib.hid he
    have he1 : ((rdInt s r).2.e == 0) = false := by rw [beq_eq_false_iff_ne]; exact he
    go_wp2_with (go_at_call 112; refine (readerInt_any n B s r _ hn hs H.out).mono ?_; rintro e w1 ⟨rfl, hr1, hs1⟩
                 have HR1 := Lib.hid hr1
                 have HS1 := Lib.hid hs1
                 obtain ⟨q1, hb1, -⟩ := hr1
                 have k2 := hb1.cell (i := 2) rfl
                 clear hb1 hs1)
    go_loopg [6, 7] 1 (fun g v i wr => g = 1 ∧ v = .slice none 0 0 ∧ i = .int .i64 0 ∧ wr = w1)
    case atStart => exact ⟨rfl, rfl, rfl, rfl⟩
    case round =>
      obtain ⟨-, rfl, rfl, rfl⟩ := hrel
      by_cases hpos : (0 : Int) < (rdInt s r).1
      all_goals
        go_wp2
        go_ret
        have e1 : itms s (rdProg s) r = ([], (rdInt s r).2) := by
          unfold itms cnt
          rw [if_neg (fun hh => HE.out hh.1)]
          exact rep_stop _ _ _ (.inr HE.out)
        rw [e1]
        exact ⟨_, rfl, Kd.R_nil _ _ _ _ _, HR1.out, HS1.out⟩
  by_cases hbad : (rdInt s r).1 < 0 ∨ (rdInt s r).1 > 48
  case pos =>
    have HE := Lib.hid he
    have HBAD := Lib.hid hbad
    have he1 : ((rdInt s r).2.e == 0) = true := by rw [beq_iff_eq]; exact he
    clear he
    have key : ∀ (b1 : Bool), decide ((rdInt s r).1 < 0) = b1 → (b1 = false → decide ((rdInt s r).1 > 48) = true) → True := fun _ _ _ => trivial
    clear key hbad
    rcases HBAD.out with hb0 | hb0
    all_goals
      have hb1 : decide ((rdInt s r).1 < 0) = decide ((rdInt s r).1 < 0) := rfl
      clear hb1
      go_wp2_with (go_at_call 112; refine (readerInt_any n B s r _ hn hs H.out).mono ?_; rintro e w1 ⟨rfl, hr1, hs1⟩
                   have HR1 := Lib.hid hr1
                   have HS1 := Lib.hid hs1
                   obtain ⟨q1, hb1, -⟩ := hr1
                   have k2 := hb1.cell (i := 2) rfl
                   have f2 := hb1.free 2
                   have lt2 := Out.lt hb1
                   have HB1 := Lib.hid hb1
                   clear hb1 hs1)
      have HB2 := Lib.hid (HB1.out.set 2 (.int .i64 6))
      have HS2 := Lib.hid (HS1.out.set hn 2 (.int .i64 6))
      have k3 := HB2.out.cell (i := 2) rfl
      clear k2 f2
      generalize w1.setCell ⟨B, 2, none⟩ (.int .i64 6) = w2 at *
      go_loopg [6, 7] 1 (fun g v i wr => g = 1 ∧ v = .slice none 0 0 ∧ i = .int .i64 0 ∧ wr = w2)
      case atStart => exact ⟨rfl, rfl, rfl, rfl⟩
      case round =>
        obtain ⟨-, rfl, rfl, rfl⟩ := hrel
        go_wp2
        go_ret
        have e1 : itms s (rdProg s) r = ([], ⟨0, 6⟩) := by
          unfold itms cnt
          rw [if_pos ⟨HE.out, HBAD.out⟩]
          exact rep_stop _ _ _ (.inl rfl)
        rw [e1]
        exact ⟨_, rfl, Kd.R_nil _ _ _ _ _, ⟨q1, HB2.out, fun h6 => by cases h6⟩, HS2.out⟩
  case neg =>
    obtain ⟨N, hN⟩ : ∃ N : Nat, (rdInt s r).1 = N := ⟨(rdInt s r).1.toNat, by omega⟩
    have hN48 : N ≤ 48 := by omega
    have HI := Lib.hid (show itms s (rdProg s) r = rep (rdProg s) N (rdInt s r).2 from by
      unfold itms cnt
      rw [if_neg (fun hh => hbad hh.2), hN]; rfl)
    have HN := Lib.hid hN
    have HE := Lib.hid he
    have hb1 : ¬ ((N : Int) < 0) := by omega
    have hb2 : ¬ ((N : Int) > 48) := by omega
    clear hbad hN he
    go_wp2_with (go_at_call 112; refine (readerInt_any n B s r _ hn hs H.out).mono ?_; rintro e w1 ⟨rfl, hr1, hs1⟩
                 rw [HN.out]
                 have HR1 := Lib.hid hr1
                 have HS1 := Lib.hid hs1
                 obtain ⟨q1, hb1, -⟩ := hr1
                 have k2 := hb1.cell (i := 2) rfl
                 rw [HE.out] at k2
                 clear hb1 hs1)
    clear k2 hb1 hb2
    go_loopg [6, 7] N (fun g v i wr => ∃ (xs : List (List PIns)) (r' : Rd), g + xs.length = N ∧ i = .int .i64 xs.length ∧ kProg.R 38 wr w.heap.size (fun _ => True) v xs ∧ RdAt wr B s r' ∧ RStep n B w wr ∧
      itms s (rdProg s) r = (xs ++ (rep (rdProg s) (N - xs.length) r').1, (rep (rdProg s) (N - xs.length) r').2))
    case atStart => exact ⟨[], _, by simp, rfl, Kd.R_nil _ _ _ _ _, HR1.out, HS1.out, HI.out⟩
    case round =>
      clear HR1 HS1
      obtain ⟨xs, r', hk, rfl, hown, hrd, hst, hit⟩ := hrel
      have HOWN := Lib.hid hown
      have HRD := Lib.hid hrd
      have HST := Lib.hid hst
      have HIT := Lib.hid hit
      obtain ⟨q1, hb1, -⟩ := hrd
      have k2 := hb1.cell (i := 2) rfl
      obtain ⟨a0, c0, ev⟩ := Kd.R_slice hown
      subst ev
      have hsz := hst.size
      clear hb1 hown hst hit
      by_cases hgo : xs.length < N ∧ r'.e = 0
      case pos =>
        obtain ⟨hlt, he'⟩ := hgo
        rw [he'] at k2
        have HE' := Lib.hid he'
        clear he'
        have HSUC := Lib.hid (show N - xs.length = (N - (xs.length + 1)) + 1 by omega)
        go_wp2_with (first
          | (go_at_call 116
             refine (getProg_any n B s r' _ bx bi (fun W hW => HBX.out W (HST.out.trans hW)) (HBI.out _ HST.out) hn hs HRD.out (Nat.le_trans hnw hsz)).mono ?_
             rintro e w2 ⟨v0, rfl, hv0, hrd2, hst2⟩
             obtain ⟨av, mv, cv, ev⟩ : ∃ a m c, v0 = .slice a m c := by obtain ⟨a, c, e⟩ := Kd.R_slice hv0; exact ⟨a, _, c, e⟩
             subst ev
             have HV0 := Lib.hid (Kd.R_lower hv0 hsz)
             clear hv0
             have HRD2 := Lib.hid hrd2
             have HST2 := Lib.hid hst2
             have HOWN2 := Lib.hid (R_rstep HOWN.out HRD.out (by decide) hst2)
             have hsz2 := hst2.size
             clear hrd2 hst2 k2)
          | (at_builtin; refine Kd.R_append kProg (w0 := w2) w.heap.size rfl _ _ 24 38 (.slice none 0 0) 24 rfl Try.underlying24 j38 rfl (by decide) (by omega) (.slice a0 xs.length c0) xs (rdProg s r').1 [.slice av mv cv] (fun _ => True) (fun k => True ∧ some k ≠ (Value.slice a0 xs.length c0).ownBlock) rfl rfl (M_ne (d := kProg) (ok := fun _ => True) ⟨_, rfl, HV0.out⟩ HOWN2.out (by decide)) (fun k hk => ⟨trivial, hk.2⟩) (fun _ _ => trivial) HOWN2.out (Below.refl _ _) (Nat.le_trans hsz hsz2) (by omega) ?_
             intro v3 w3 hown3 hbel3 hgr3 hat3
             obtain ⟨a3, m3, c3, ev⟩ : ∃ a m c, v3 = .slice a m c := by obtain ⟨a, c, e⟩ := Kd.R_slice hown3; exact ⟨a, _, c, e⟩
             subst ev
             have HOWN3 := Lib.hid hown3
             have HRD3 := Lib.hid (RdAt.grown HRD2.out HOWN2.out (by decide) hgr3)
             obtain ⟨inner, ho⟩ := Kd.R_own HOWN2.out
             have HST3 := Lib.hid ((RStep.trans HST.out HST2.out).grown ho (Nat.le_refl _) hnw hgr3)
             clear hown3 hbel3 hgr3 hat3 ho inner))
        go_roundg (N - (xs.length + 1))
        case measure => omega
        case rel => exact ⟨xs ++ [(rdProg s r').1], (rdProg s r').2, by simp; omega, by simp, HOWN3.out, HRD3.out, HST3.out, by rw [HIT.out, HSUC.out, rep_go _ _ _ HE'.out]; simp⟩
      case neg =>
        have HSTOP := Lib.hid (rep_stop (rdProg s) (N - xs.length) r' (if h1 : xs.length < N then .inr (fun h2 => hgo ⟨h1, h2⟩) else .inl (by omega)))
        have hfin : itms s (rdProg s) r = (xs, r') := by rw [HIT.out, HSTOP.out]; simp
        have HFIN := Lib.hid hfin
        clear hfin
        by_cases hlt : xs.length < N
        case pos =>
          have he' : r'.e ≠ 0 := fun h2 => hgo ⟨hlt, h2⟩
          have he1 : (r'.e == 0) = false := by rw [beq_eq_false_iff_ne]; exact he'
          clear hgo he'
          go_wp2
          go_ret
          rw [HFIN.out]
          exact ⟨_, rfl, HOWN.out, HRD.out, HST.out⟩
        case neg =>
          clear hgo
          go_wp2
          go_ret
          rw [HFIN.out]
          exact ⟨_, rfl, HOWN.out, HRD.out, HST.out⟩

set_option maxHeartbeats 4000000 in
set_option maxRecDepth 100000 in
theorem getLP_any (n B : Nat) (s : ByteArray) (r : Rd) (w : World) (bx : Nat) (hbox : ∀ W, RStep n B w W → W.cell? ⟨bx, 0, none⟩ = some (.pointer (some ⟨B, 0, none⟩))) (hn : n ≤ B) (hs : s.size ≤ 1099511627776) (h : RdAt w B s r) (hnw : n ≤ w.heap.size) :
    Calls Try.prog 119 #[.pointer (some ⟨bx, 0, none⟩)] w fun e W => ∃ v, e = .returned (.agg #[.int .i64 (rdLP s r).1.prog, v]) ∧ kI.R 3 W w.heap.size (fun _ => True) v (rdLP s r).1.words ∧ RdAt W B s (rdLP s r).2 ∧ RStep n B w W := by
  have hbl := h.lt
  have H := Lib.hid h
  have hbxl := lt_of_cell (hbox w (RStep.refl _ _ _))
  simp only [] at hbxl
  clear h
  have hg0 : Gr w (w.alloc (.cells #[.int .i64 0, .slice none 0 0] 41)) := (Gr.refl w).alloc _
  have HBOX := Lib.hid hbox
  clear hbox
  have HS0 := Lib.hid (RStep.of_gr (B := B) hg0 hnw)
  have HZ0 := Lib.hid (Out.drew (Out.new (w := w) (T := 41) (cs := [.int .i64 0, .slice none 0 0])))
  have KS := Lib.hid (fun (W : World) (g : RStep n B w W) => show (W.cell? ⟨bx, 0, none⟩ = some (.pointer (some ⟨B, 0, none⟩)) ∧ RStep n B w W) from ⟨HBOX.out W g, g⟩)
  have HRD0 := Lib.hid ((H.out.gr hg0).gr (Gr.refl _).drew)
  have HG0 := Lib.hid hg0
  clear hg0
  have hmf : ∀ (fn : Fn) (first cap : Array Value) (w : World), (Instr.makeFunc fn first cap).run Try.prog w = .ok (.func fn first cap) w := fun _ _ _ _ => rfl
  go_enter Try.func119, Try.ntmps119
  go_wp2_with fail
  go_region_held3 (fun W => (W.cell? ⟨bx, 0, none⟩ = some (.pointer (some ⟨B, 0, none⟩)) ∧ RStep n B w W))
    (exact KS.out _ (by repeat (first | exact HS0.out | with_reducible assumption | with_reducible exact And.right (by assumption) | with_reducible refine RStep.drew ?_ hnw | with_reducible refine RStep.alloc ?_ hnw _ | with_reducible refine RStep.setNew ?_ (Nat.le_refl _) hnw _ _)))
    (first
      | (go_at_call 112
         refine (readerInt_any n B s r _ hn hs (by exact HRD0.out)).mono ?_
         rintro e w1 ⟨rfl, hr1, hs2⟩
         have hstw1 : RStep n B w w1 := RStep.trans (by repeat (first | exact HS0.out | with_reducible assumption | with_reducible exact And.right (by assumption) | with_reducible refine RStep.drew ?_ hnw | with_reducible refine RStep.alloc ?_ hnw _ | with_reducible refine RStep.setNew ?_ (Nat.le_refl _) hnw _ _)) hs2
         have hz : Out 41 w1 w.heap.size [.int .i64 0, .slice none 0 0] := RStep.out hs2 (by first | exact HZ0.out | exact hz) (by omega)
         have k0 := hz.cell (i := 0) rfl
         have f0 := hz.free 0
         have k1 := hz.cell (i := 1) rfl
         have f1 := hz.free 1
         have ltz := Out.lt hz
         clear hs2)
      | (go_at_call 120
         refine (itemsI_any n B s (rdInt s r).2 _ hn hs (by exact hr1) (Nat.le_trans hnw hstw1.size)).mono ?_
         rintro e w2 ⟨v0, rfl, hv0, hr2, hs2⟩
         have hstw2 : RStep n B w w2 := RStep.trans (by repeat (first | exact HS0.out | with_reducible assumption | with_reducible exact And.right (by assumption) | with_reducible refine RStep.drew ?_ hnw | with_reducible refine RStep.alloc ?_ hnw _ | with_reducible refine RStep.setNew ?_ (Nat.le_refl _) hnw _ _)) hs2
         have hz : Out 41 w2 w.heap.size [.int .i64 0, .slice none 0 0] := RStep.out hs2 (by first | exact HZ0.out | exact hz) (by omega)
         have k0 := hz.cell (i := 0) rfl
         have f0 := hz.free 0
         have k1 := hz.cell (i := 1) rfl
         have f1 := hz.free 1
         have ltz := Out.lt hz
         have hlow := Kd.R_lower hv0 hstw1.size
         obtain ⟨av, mv, cv, ev⟩ : ∃ a m c, v0 = .slice a m c := by obtain ⟨a, c, e⟩ := Kd.R_slice hv0; exact ⟨a, _, c, e⟩
         subst ev
         have HV0 := Lib.hid hlow
         clear hlow hv0
         clear hs2))
  all_goals
    have HX := Lib.hid ((hstw2.setNew (O := w.heap.size) (Nat.le_refl _) hnw 0 (.int .i64 (rdInt s r).1)).setNew (O := w.heap.size) (Nat.le_refl _) hnw 1 (.slice av mv cv))
    have HRX := Lib.hid ((hr2.set_other (O := w.heap.size) (i := 0) (u := .int .i64 (rdInt s r).1) (by omega)).set_other (O := w.heap.size) (i := 1) (u := .slice av mv cv) (by omega))
    have HO := Lib.hid (show Out 41 ((w2.setCell ⟨w.heap.size, 0, none⟩ (.int .i64 (rdInt s r).1)).setCell ⟨w.heap.size, 1, none⟩ (.slice av mv cv)) w.heap.size [.int .i64 (rdInt s r).1, .slice av mv cv] from ((hz.set 0 (.int .i64 (rdInt s r).1)).set 1 (.slice av mv cv)))
    have HVX := Lib.hid (Kd.R_set (Kd.R_set HV0.out (Out.is hz) (by decide) 0 (.int .i64 (rdInt s r).1)) (Out.is (hz.set 0 (.int .i64 (rdInt s r).1))) (by decide) 1 (.slice av mv cv))
    clear HV0
    clear k0 f0 hz ltz hstw2
    generalize ((w2.setCell ⟨w.heap.size, 0, none⟩ (.int .i64 (rdInt s r).1)).setCell ⟨w.heap.size, 1, none⟩ (.slice av mv cv)) = W9 at *
    have z0 := HO.out.cell (i := 0) rfl
    have z1 := HO.out.cell (i := 1) rfl
    go_wp2
    refine bodyPost_ret (v := .agg #[.int .i64 (rdInt s r).1, .slice av mv cv]) ?_ rfl ⟨.slice av mv cv, rfl, HVX.out, HRX.out, HX.out⟩
    simp [results, Try.results119, go_sem, z0, z1]

set_option maxHeartbeats 4000000 in
set_option maxRecDepth 100000 in
theorem itemsLP_any (n B : Nat) (s : ByteArray) (r : Rd) (w : World) (bx : Nat) (hbox : ∀ W, RStep n B w W → W.cell? ⟨bx, 0, none⟩ = some (.pointer (some ⟨B, 0, none⟩))) (hn : n ≤ B) (hs : s.size ≤ 1099511627776) (h : RdAt w B s r) (hnw : n ≤ w.heap.size) :
    Calls Try.prog 118 #[.pointer (some ⟨B, 0, none⟩), .func (.func 119) #[] #[.pointer (some ⟨bx, 0, none⟩)]] w fun e W => ∃ v, e = .returned v ∧ kLP.R 41 W w.heap.size (fun _ => True) v (itms s (rdLP s) r).1 ∧ RdAt W B s (itms s (rdLP s) r).2 ∧ RStep n B w W := by
  have H := Lib.hid h
  clear h
  have HBX := Lib.hid hbox
  clear hbox
  go_enter Try.func118, Try.ntmps118
  by_cases he : (rdInt s r).2.e = 0
  case neg =>
    have HE := Lib.hid he
    have he1 : ((rdInt s r).2.e == 0) = false := by rw [beq_eq_false_iff_ne]; exact he
    go_wp2_with (go_at_call 112; refine (readerInt_any n B s r _ hn hs H.out).mono ?_; rintro e w1 ⟨rfl, hr1, hs1⟩
                 have HR1 := Lib.hid hr1
                 have HS1 := Lib.hid hs1
                 obtain ⟨q1, hb1, -⟩ := hr1
                 have k2 := hb1.cell (i := 2) rfl
                 clear hb1 hs1)
    go_loopg [6, 7] 1 (fun g v i wr => g = 1 ∧ v = .slice none 0 0 ∧ i = .int .i64 0 ∧ wr = w1)
    case atStart => exact ⟨rfl, rfl, rfl, rfl⟩
    case round =>
      obtain ⟨-, rfl, rfl, rfl⟩ := hrel
      by_cases hpos : (0 : Int) < (rdInt s r).1
      all_goals
        go_wp2
        go_ret
        have e1 : itms s (rdLP s) r = ([], (rdInt s r).2) := by
          unfold itms cnt
          rw [if_neg (fun hh => HE.out hh.1)]
          exact rep_stop _ _ _ (.inr HE.out)
        rw [e1]
        exact ⟨_, rfl, Kd.R_nil _ _ _ _ _, HR1.out, HS1.out⟩
  by_cases hbad : (rdInt s r).1 < 0 ∨ (rdInt s r).1 > 48
  case pos =>
    have HE := Lib.hid he
    have HBAD := Lib.hid hbad
    have he1 : ((rdInt s r).2.e == 0) = true := by rw [beq_iff_eq]; exact he
    clear he
    have key : ∀ (b1 : Bool), decide ((rdInt s r).1 < 0) = b1 → (b1 = false → decide ((rdInt s r).1 > 48) = true) → True := fun _ _ _ => trivial
    clear key hbad
    rcases HBAD.out with hb0 | hb0
    all_goals
      have hb1 : decide ((rdInt s r).1 < 0) = decide ((rdInt s r).1 < 0) := rfl
      clear hb1
      go_wp2_with (go_at_call 112; refine (readerInt_any n B s r _ hn hs H.out).mono ?_; rintro e w1 ⟨rfl, hr1, hs1⟩
                   have HR1 := Lib.hid hr1
                   have HS1 := Lib.hid hs1
                   obtain ⟨q1, hb1, -⟩ := hr1
                   have k2 := hb1.cell (i := 2) rfl
                   have f2 := hb1.free 2
                   have lt2 := Out.lt hb1
                   have HB1 := Lib.hid hb1
                   clear hb1 hs1)
      have HB2 := Lib.hid (HB1.out.set 2 (.int .i64 6))
      have HS2 := Lib.hid (HS1.out.set hn 2 (.int .i64 6))
      have k3 := HB2.out.cell (i := 2) rfl
      clear k2 f2
      generalize w1.setCell ⟨B, 2, none⟩ (.int .i64 6) = w2 at *
      go_loopg [6, 7] 1 (fun g v i wr => g = 1 ∧ v = .slice none 0 0 ∧ i = .int .i64 0 ∧ wr = w2)
      case atStart => exact ⟨rfl, rfl, rfl, rfl⟩
      case round =>
        obtain ⟨-, rfl, rfl, rfl⟩ := hrel
        go_wp2
        go_ret
        have e1 : itms s (rdLP s) r = ([], ⟨0, 6⟩) := by
          unfold itms cnt
          rw [if_pos ⟨HE.out, HBAD.out⟩]
          exact rep_stop _ _ _ (.inl rfl)
        rw [e1]
        exact ⟨_, rfl, Kd.R_nil _ _ _ _ _, ⟨q1, HB2.out, fun h6 => by cases h6⟩, HS2.out⟩
  case neg =>
    obtain ⟨N, hN⟩ : ∃ N : Nat, (rdInt s r).1 = N := ⟨(rdInt s r).1.toNat, by omega⟩
    have hN48 : N ≤ 48 := by omega
    have HI := Lib.hid (show itms s (rdLP s) r = rep (rdLP s) N (rdInt s r).2 from by
      unfold itms cnt
      rw [if_neg (fun hh => hbad hh.2), hN]; rfl)
    have HN := Lib.hid hN
    have HE := Lib.hid he
    have hb1 : ¬ ((N : Int) < 0) := by omega
    have hb2 : ¬ ((N : Int) > 48) := by omega
    clear hbad hN he
    go_wp2_with (go_at_call 112; refine (readerInt_any n B s r _ hn hs H.out).mono ?_; rintro e w1 ⟨rfl, hr1, hs1⟩
                 rw [HN.out]
                 have HR1 := Lib.hid hr1
                 have HS1 := Lib.hid hs1
                 obtain ⟨q1, hb1, -⟩ := hr1
                 have k2 := hb1.cell (i := 2) rfl
                 rw [HE.out] at k2
                 clear hb1 hs1)
    clear k2 hb1 hb2
    go_loopg [6, 7] N (fun g v i wr => ∃ (xs : List PLP) (r' : Rd), g + xs.length = N ∧ i = .int .i64 xs.length ∧ kLP.R 41 wr w.heap.size (fun _ => True) v xs ∧ RdAt wr B s r' ∧ RStep n B w wr ∧
      itms s (rdLP s) r = (xs ++ (rep (rdLP s) (N - xs.length) r').1, (rep (rdLP s) (N - xs.length) r').2))
    case atStart => exact ⟨[], _, by simp, rfl, Kd.R_nil _ _ _ _ _, HR1.out, HS1.out, HI.out⟩
    case round =>
      clear HR1 HS1
      obtain ⟨xs, r', hk, rfl, hown, hrd, hst, hit⟩ := hrel
      have HOWN := Lib.hid hown
      have HRD := Lib.hid hrd
      have HST := Lib.hid hst
      have HIT := Lib.hid hit
      obtain ⟨q1, hb1, -⟩ := hrd
      have k2 := hb1.cell (i := 2) rfl
      obtain ⟨a0, c0, ev⟩ := Kd.R_slice hown
      subst ev
      have hsz := hst.size
      clear hb1 hown hst hit
      by_cases hgo : xs.length < N ∧ r'.e = 0
      case pos =>
        obtain ⟨hlt, he'⟩ := hgo
        rw [he'] at k2
        have HE' := Lib.hid he'
        clear he'
        have HSUC := Lib.hid (show N - xs.length = (N - (xs.length + 1)) + 1 by omega)
        go_wp2_with (first
          | (go_at_call 119
             refine (getLP_any n B s r' _ bx (fun W hW => HBX.out W (HST.out.trans hW)) hn hs HRD.out (Nat.le_trans hnw hsz)).mono ?_
             rintro e w2 ⟨v0, rfl, hv0, hrd2, hst2⟩
             obtain ⟨av, mv, cv, ev⟩ : ∃ a m c, v0 = .slice a m c := by obtain ⟨a, c, e⟩ := Kd.R_slice hv0; exact ⟨a, _, c, e⟩
             subst ev
             have HV0 := Lib.hid (Kd.R_lower hv0 hsz)
             clear hv0
             have HRD2 := Lib.hid hrd2
             have HST2 := Lib.hid hst2
             have HOWN2 := Lib.hid (R_rstep HOWN.out HRD.out (by decide) hst2)
             have hsz2 := hst2.size
             clear hrd2 hst2 k2)
          | (at_builtin; refine Kd.R_append kLP (w0 := w2) w.heap.size rfl _ _ 25 41 (.agg #[.int .i64 0, .slice none 0 0]) 32 rfl Try.underlying25 j41 rfl (by decide) (by omega) (.slice a0 xs.length c0) xs (rdLP s r').1 [.int .i64 (rdLP s r').1.prog, .slice av mv cv] (fun _ => True) (fun k => True ∧ some k ≠ (Value.slice a0 xs.length c0).ownBlock) rfl rfl (M_ne (d := kLP) (ok := fun _ => True) (kLP_mk HV0.out) HOWN2.out (by decide)) (fun k hk => ⟨trivial, hk.2⟩) (fun _ _ => trivial) HOWN2.out (Below.refl _ _) (Nat.le_trans hsz hsz2) (by omega) ?_
             intro v3 w3 hown3 hbel3 hgr3 hat3
             obtain ⟨a3, m3, c3, ev⟩ : ∃ a m c, v3 = .slice a m c := by obtain ⟨a, c, e⟩ := Kd.R_slice hown3; exact ⟨a, _, c, e⟩
             subst ev
             have HOWN3 := Lib.hid hown3
             have HRD3 := Lib.hid (RdAt.grown HRD2.out HOWN2.out (by decide) hgr3)
             obtain ⟨inner, ho⟩ := Kd.R_own HOWN2.out
             have HST3 := Lib.hid ((RStep.trans HST.out HST2.out).grown ho (Nat.le_refl _) hnw hgr3)
             clear hown3 hbel3 hgr3 hat3 ho inner))
        go_roundg (N - (xs.length + 1))
        case measure => omega
        case rel => exact ⟨xs ++ [(rdLP s r').1], (rdLP s r').2, by simp; omega, by simp, HOWN3.out, HRD3.out, HST3.out, by rw [HIT.out, HSUC.out, rep_go _ _ _ HE'.out]; simp⟩
      case neg =>
        have HSTOP := Lib.hid (rep_stop (rdLP s) (N - xs.length) r' (if h1 : xs.length < N then .inr (fun h2 => hgo ⟨h1, h2⟩) else .inl (by omega)))
        have hfin : itms s (rdLP s) r = (xs, r') := by rw [HIT.out, HSTOP.out]; simp
        have HFIN := Lib.hid hfin
        clear hfin
        by_cases hlt : xs.length < N
        case pos =>
          have he' : r'.e ≠ 0 := fun h2 => hgo ⟨hlt, h2⟩
          have he1 : (r'.e == 0) = false := by rw [beq_eq_false_iff_ne]; exact he'
          clear hgo he'
          go_wp2
          go_ret
          rw [HFIN.out]
          exact ⟨_, rfl, HOWN.out, HRD.out, HST.out⟩
        case neg =>
          clear hgo
          go_wp2
          go_ret
          rw [HFIN.out]
          exact ⟨_, rfl, HOWN.out, HRD.out, HST.out⟩

set_option maxHeartbeats 4000000 in
set_option maxRecDepth 100000 in
theorem getInit_any (n B : Nat) (s : ByteArray) (r : Rd) (w : World) (bx : Nat) (hbox : ∀ W, RStep n B w W → W.cell? ⟨bx, 0, none⟩ = some (.pointer (some ⟨B, 0, none⟩))) (hn : n ≤ B) (hs : s.size ≤ 1099511627776) (h : RdAt w B s r) (hnw : n ≤ w.heap.size) :
    Calls Try.prog 122 #[.pointer (some ⟨bx, 0, none⟩)] w fun e W => e = .returned (.agg #[.float .f64 (rdInit s r).1.t, .int .i64 (rdInit s r).1.dst, .int .i64 (rdInit s r).1.pay]) ∧ RdAt W B s (rdInit s r).2 ∧ RStep n B w W := by
  have hbl := h.lt
  have H := Lib.hid h
  have hbxl := lt_of_cell (hbox w (RStep.refl _ _ _))
  simp only [] at hbxl
  clear h
  have hg0 : Gr w (w.alloc (.cells #[.float .f64 0, .int .i64 0, .int .i64 0] 43)) := (Gr.refl w).alloc _
  have HBOX := Lib.hid hbox
  clear hbox
  have HS0 := Lib.hid (RStep.of_gr (B := B) hg0 hnw)
  have HZ0 := Lib.hid (Out.drew (Out.new (w := w) (T := 43) (cs := [.float .f64 0, .int .i64 0, .int .i64 0])))
  have KS := Lib.hid (fun (W : World) (g : RStep n B w W) => show (W.cell? ⟨bx, 0, none⟩ = some (.pointer (some ⟨B, 0, none⟩)) ∧ RStep n B w W) from ⟨HBOX.out W g, g⟩)
  have HRD0 := Lib.hid ((H.out.gr hg0).gr (Gr.refl _).drew)
  have HG0 := Lib.hid hg0
  clear hg0
  go_enter Try.func122, Try.ntmps122
  go_wp2_with fail
  go_region_held3 (fun W => (W.cell? ⟨bx, 0, none⟩ = some (.pointer (some ⟨B, 0, none⟩)) ∧ RStep n B w W))
    (exact KS.out _ (by repeat (first | exact HS0.out | with_reducible assumption | with_reducible exact And.right (by assumption) | with_reducible refine RStep.drew ?_ hnw | with_reducible refine RStep.alloc ?_ hnw _ | with_reducible refine RStep.setNew ?_ (Nat.le_refl _) hnw _ _)))
    (first
      | (go_at_call 113
         refine (readerFloat_any n B s r _ hn hs (by exact HRD0.out)).mono ?_
         rintro e w1 ⟨rfl, hr1, hs2⟩
         have hstw1 : RStep n B w w1 := RStep.trans (by repeat (first | exact HS0.out | with_reducible assumption | with_reducible exact And.right (by assumption) | with_reducible refine RStep.drew ?_ hnw | with_reducible refine RStep.alloc ?_ hnw _ | with_reducible refine RStep.setNew ?_ (Nat.le_refl _) hnw _ _)) hs2
         have hz : Out 43 w1 w.heap.size [.float .f64 0, .int .i64 0, .int .i64 0] := RStep.out hs2 (by first | exact HZ0.out | exact hz) (by omega)
         have k0 := hz.cell (i := 0) rfl
         have f0 := hz.free 0
         have k1 := hz.cell (i := 1) rfl
         have f1 := hz.free 1
         have k2 := hz.cell (i := 2) rfl
         have f2 := hz.free 2
         have ltz := Out.lt hz
         clear hs2)
      | (go_at_call 112
         refine (readerInt_any n B s (rdFloat s r).2 _ hn hs (by exact hr1)).mono ?_
         rintro e w2 ⟨rfl, hr2, hs2⟩
         have hstw2 : RStep n B w w2 := RStep.trans (by repeat (first | exact HS0.out | with_reducible assumption | with_reducible exact And.right (by assumption) | with_reducible refine RStep.drew ?_ hnw | with_reducible refine RStep.alloc ?_ hnw _ | with_reducible refine RStep.setNew ?_ (Nat.le_refl _) hnw _ _)) hs2
         have hz : Out 43 w2 w.heap.size [.float .f64 0, .int .i64 0, .int .i64 0] := RStep.out hs2 (by first | exact HZ0.out | exact hz) (by omega)
         have k0 := hz.cell (i := 0) rfl
         have f0 := hz.free 0
         have k1 := hz.cell (i := 1) rfl
         have f1 := hz.free 1
         have k2 := hz.cell (i := 2) rfl
         have f2 := hz.free 2
         have ltz := Out.lt hz
         clear hs2)
      | (go_at_call 112
         refine (readerInt_any n B s (rdInt s (rdFloat s r).2).2 _ hn hs (by exact hr2)).mono ?_
         rintro e w3 ⟨rfl, hr3, hs2⟩
         have hstw3 : RStep n B w w3 := RStep.trans (by repeat (first | exact HS0.out | with_reducible assumption | with_reducible exact And.right (by assumption) | with_reducible refine RStep.drew ?_ hnw | with_reducible refine RStep.alloc ?_ hnw _ | with_reducible refine RStep.setNew ?_ (Nat.le_refl _) hnw _ _)) hs2
         have hz : Out 43 w3 w.heap.size [.float .f64 0, .int .i64 0, .int .i64 0] := RStep.out hs2 (by first | exact HZ0.out | exact hz) (by omega)
         have k0 := hz.cell (i := 0) rfl
         have f0 := hz.free 0
         have k1 := hz.cell (i := 1) rfl
         have f1 := hz.free 1
         have k2 := hz.cell (i := 2) rfl
         have f2 := hz.free 2
         have ltz := Out.lt hz
         clear hs2))
  all_goals
    have HX := Lib.hid (((hstw3.setNew (O := w.heap.size) (Nat.le_refl _) hnw 0 (.float .f64 (rdFloat s r).1)).setNew (O := w.heap.size) (Nat.le_refl _) hnw 1 (.int .i64 (rdInt s (rdFloat s r).2).1)).setNew (O := w.heap.size) (Nat.le_refl _) hnw 2 (.int .i64 (rdInt s (rdInt s (rdFloat s r).2).2).1))
    have HRX := Lib.hid (((hr3.set_other (O := w.heap.size) (i := 0) (u := .float .f64 (rdFloat s r).1) (by omega)).set_other (O := w.heap.size) (i := 1) (u := .int .i64 (rdInt s (rdFloat s r).2).1) (by omega)).set_other (O := w.heap.size) (i := 2) (u := .int .i64 (rdInt s (rdInt s (rdFloat s r).2).2).1) (by omega))
    have HO := Lib.hid (show Out 43 (((w3.setCell ⟨w.heap.size, 0, none⟩ (.float .f64 (rdFloat s r).1)).setCell ⟨w.heap.size, 1, none⟩ (.int .i64 (rdInt s (rdFloat s r).2).1)).setCell ⟨w.heap.size, 2, none⟩ (.int .i64 (rdInt s (rdInt s (rdFloat s r).2).2).1)) w.heap.size [.float .f64 (rdFloat s r).1, .int .i64 (rdInt s (rdFloat s r).2).1, .int .i64 (rdInt s (rdInt s (rdFloat s r).2).2).1] from (((hz.set 0 (.float .f64 (rdFloat s r).1)).set 1 (.int .i64 (rdInt s (rdFloat s r).2).1)).set 2 (.int .i64 (rdInt s (rdInt s (rdFloat s r).2).2).1)))
    clear k0 f0 hz ltz hstw3
    generalize (((w3.setCell ⟨w.heap.size, 0, none⟩ (.float .f64 (rdFloat s r).1)).setCell ⟨w.heap.size, 1, none⟩ (.int .i64 (rdInt s (rdFloat s r).2).1)).setCell ⟨w.heap.size, 2, none⟩ (.int .i64 (rdInt s (rdInt s (rdFloat s r).2).2).1)) = W9 at *
    have z0 := HO.out.cell (i := 0) rfl
    have z1 := HO.out.cell (i := 1) rfl
    have z2 := HO.out.cell (i := 2) rfl
    go_wp2
    refine bodyPost_ret (v := .agg #[.float .f64 (rdFloat s r).1, .int .i64 (rdInt s (rdFloat s r).2).1, .int .i64 (rdInt s (rdInt s (rdFloat s r).2).2).1]) ?_ rfl ⟨rfl, HRX.out, HX.out⟩
    simp [results, Try.results122, go_sem, z0, z1, z2]

set_option maxHeartbeats 4000000 in
set_option maxRecDepth 100000 in
theorem itemsInit_any (n B : Nat) (s : ByteArray) (r : Rd) (w : World) (bx : Nat) (hbox : ∀ W, RStep n B w W → W.cell? ⟨bx, 0, none⟩ = some (.pointer (some ⟨B, 0, none⟩))) (hn : n ≤ B) (hs : s.size ≤ 1099511627776) (h : RdAt w B s r) (hnw : n ≤ w.heap.size) :
    Calls Try.prog 121 #[.pointer (some ⟨B, 0, none⟩), .func (.func 122) #[] #[.pointer (some ⟨bx, 0, none⟩)]] w fun e W => ∃ v, e = .returned v ∧ kInit.R 43 W w.heap.size (fun _ => True) v (itms s (rdInit s) r).1 ∧ RdAt W B s (itms s (rdInit s) r).2 ∧ RStep n B w W := by
  have H := Lib.hid h
  clear h
  have HBX := Lib.hid hbox
  clear hbox
  go_enter Try.func121, Try.ntmps121
  by_cases he : (rdInt s r).2.e = 0
  case neg =>
    have HE := Lib.hid he
    have he1 : ((rdInt s r).2.e == 0) = false := by rw [beq_eq_false_iff_ne]; exact he
    go_wp2_with (go_at_call 112; refine (readerInt_any n B s r _ hn hs H.out).mono ?_; rintro e w1 ⟨rfl, hr1, hs1⟩
                 have HR1 := Lib.hid hr1
                 have HS1 := Lib.hid hs1
                 obtain ⟨q1, hb1, -⟩ := hr1
                 have k2 := hb1.cell (i := 2) rfl
                 clear hb1 hs1)
    go_loopg [6, 7] 1 (fun g v i wr => g = 1 ∧ v = .slice none 0 0 ∧ i = .int .i64 0 ∧ wr = w1)
    case atStart => exact ⟨rfl, rfl, rfl, rfl⟩
    case round =>
      obtain ⟨-, rfl, rfl, rfl⟩ := hrel
      by_cases hpos : (0 : Int) < (rdInt s r).1
      all_goals
        go_wp2
        go_ret
        have e1 : itms s (rdInit s) r = ([], (rdInt s r).2) := by
          unfold itms cnt
          rw [if_neg (fun hh => HE.out hh.1)]
          exact rep_stop _ _ _ (.inr HE.out)
        rw [e1]
        exact ⟨_, rfl, Kd.R_nil _ _ _ _ _, HR1.out, HS1.out⟩
  by_cases hbad : (rdInt s r).1 < 0 ∨ (rdInt s r).1 > 48
  case pos =>
    have HE := Lib.hid he
    have HBAD := Lib.hid hbad
    have he1 : ((rdInt s r).2.e == 0) = true := by rw [beq_iff_eq]; exact he
    clear he
    have key : ∀ (b1 : Bool), decide ((rdInt s r).1 < 0) = b1 → (b1 = false → decide ((rdInt s r).1 > 48) = true) → True := fun _ _ _ => trivial
    clear key hbad
    rcases HBAD.out with hb0 | hb0
    all_goals
      have hb1 : decide ((rdInt s r).1 < 0) = decide ((rdInt s r).1 < 0) := rfl
      clear hb1
      go_wp2_with (go_at_call 112; refine (readerInt_any n B s r _ hn hs H.out).mono ?_; rintro e w1 ⟨rfl, hr1, hs1⟩
                   have HR1 := Lib.hid hr1
                   have HS1 := Lib.hid hs1
                   obtain ⟨q1, hb1, -⟩ := hr1
                   have k2 := hb1.cell (i := 2) rfl
                   have f2 := hb1.free 2
                   have lt2 := Out.lt hb1
                   have HB1 := Lib.hid hb1
                   clear hb1 hs1)
      have HB2 := Lib.hid (HB1.out.set 2 (.int .i64 6))
      have HS2 := Lib.hid (HS1.out.set hn 2 (.int .i64 6))
      have k3 := HB2.out.cell (i := 2) rfl
      clear k2 f2
      generalize w1.setCell ⟨B, 2, none⟩ (.int .i64 6) = w2 at *
      go_loopg [6, 7] 1 (fun g v i wr => g = 1 ∧ v = .slice none 0 0 ∧ i = .int .i64 0 ∧ wr = w2)
      case atStart => exact ⟨rfl, rfl, rfl, rfl⟩
      case round =>
        obtain ⟨-, rfl, rfl, rfl⟩ := hrel
        go_wp2
        go_ret
        have e1 : itms s (rdInit s) r = ([], ⟨0, 6⟩) := by
          unfold itms cnt
          rw [if_pos ⟨HE.out, HBAD.out⟩]
          exact rep_stop _ _ _ (.inl rfl)
        rw [e1]
        exact ⟨_, rfl, Kd.R_nil _ _ _ _ _, ⟨q1, HB2.out, fun h6 => by cases h6⟩, HS2.out⟩
  case neg =>
    obtain ⟨N, hN⟩ : ∃ N : Nat, (rdInt s r).1 = N := ⟨(rdInt s r).1.toNat, by omega⟩
    have hN48 : N ≤ 48 := by omega
    have HI := Lib.hid (show itms s (rdInit s) r = rep (rdInit s) N (rdInt s r).2 from by
      unfold itms cnt
      rw [if_neg (fun hh => hbad hh.2), hN]; rfl)
    have HN := Lib.hid hN
    have HE := Lib.hid he
    have hb1 : ¬ ((N : Int) < 0) := by omega
    have hb2 : ¬ ((N : Int) > 48) := by omega
    clear hbad hN he
    go_wp2_with (go_at_call 112; refine (readerInt_any n B s r _ hn hs H.out).mono ?_; rintro e w1 ⟨rfl, hr1, hs1⟩
                 rw [HN.out]
                 have HR1 := Lib.hid hr1
                 have HS1 := Lib.hid hs1
                 obtain ⟨q1, hb1, -⟩ := hr1
                 have k2 := hb1.cell (i := 2) rfl
                 rw [HE.out] at k2
                 clear hb1 hs1)
    clear k2 hb1 hb2
    go_loopg [6, 7] N (fun g v i wr => ∃ (xs : List PInit) (r' : Rd), g + xs.length = N ∧ i = .int .i64 xs.length ∧ kInit.R 43 wr w.heap.size (fun _ => True) v xs ∧ RdAt wr B s r' ∧ RStep n B w wr ∧
      itms s (rdInit s) r = (xs ++ (rep (rdInit s) (N - xs.length) r').1, (rep (rdInit s) (N - xs.length) r').2))
    case atStart => exact ⟨[], _, by simp, rfl, Kd.R_nil _ _ _ _ _, HR1.out, HS1.out, HI.out⟩
    case round =>
      clear HR1 HS1
      obtain ⟨xs, r', hk, rfl, hown, hrd, hst, hit⟩ := hrel
      have HOWN := Lib.hid hown
      have HRD := Lib.hid hrd
      have HST := Lib.hid hst
      have HIT := Lib.hid hit
      obtain ⟨q1, hb1, -⟩ := hrd
      have k2 := hb1.cell (i := 2) rfl
      obtain ⟨a0, c0, ev⟩ := Kd.R_slice hown
      subst ev
      have hsz := hst.size
      clear hb1 hown hst hit
      by_cases hgo : xs.length < N ∧ r'.e = 0
      case pos =>
        obtain ⟨hlt, he'⟩ := hgo
        rw [he'] at k2
        have HE' := Lib.hid he'
        clear he'
        have HSUC := Lib.hid (show N - xs.length = (N - (xs.length + 1)) + 1 by omega)
        go_wp2_with (first
          | (go_at_call 122
             refine (getInit_any n B s r' _ bx (fun W hW => HBX.out W (HST.out.trans hW)) hn hs HRD.out (Nat.le_trans hnw hsz)).mono ?_
             rintro e w2 ⟨rfl, hrd2, hst2⟩
             have HRD2 := Lib.hid hrd2
             have HST2 := Lib.hid hst2
             have HOWN2 := Lib.hid (R_rstep HOWN.out HRD.out (by decide) hst2)
             have hsz2 := hst2.size
             clear hrd2 hst2 k2)
          | (at_builtin; refine Kd.R_append kInit (w0 := w2) w.heap.size rfl _ _ 26 43 (.agg #[.float .f64 0, .int .i64 0, .int .i64 0]) 24 rfl Try.underlying26 j43 rfl (by decide) (by omega) (.slice a0 xs.length c0) xs (rdInit s r').1 [.float .f64 (rdInit s r').1.t, .int .i64 (rdInit s r').1.dst, .int .i64 (rdInit s r').1.pay] (fun _ => True) (fun k => True ∧ some k ≠ (Value.slice a0 xs.length c0).ownBlock) rfl rfl (kInit_mk _ _ _ _) (fun k hk => ⟨trivial, hk.2⟩) (fun _ _ => trivial) HOWN2.out (Below.refl _ _) (Nat.le_trans hsz hsz2) (by omega) ?_
             intro v3 w3 hown3 hbel3 hgr3 hat3
             obtain ⟨a3, m3, c3, ev⟩ : ∃ a m c, v3 = .slice a m c := by obtain ⟨a, c, e⟩ := Kd.R_slice hown3; exact ⟨a, _, c, e⟩
             subst ev
             have HOWN3 := Lib.hid hown3
             have HRD3 := Lib.hid (RdAt.grown HRD2.out HOWN2.out (by decide) hgr3)
             obtain ⟨inner, ho⟩ := Kd.R_own HOWN2.out
             have HST3 := Lib.hid ((RStep.trans HST.out HST2.out).grown ho (Nat.le_refl _) hnw hgr3)
             clear hown3 hbel3 hgr3 hat3 ho inner))
        go_roundg (N - (xs.length + 1))
        case measure => omega
        case rel => exact ⟨xs ++ [(rdInit s r').1], (rdInit s r').2, by simp; omega, by simp, HOWN3.out, HRD3.out, HST3.out, by rw [HIT.out, HSUC.out, rep_go _ _ _ HE'.out]; simp⟩
      case neg =>
        have HSTOP := Lib.hid (rep_stop (rdInit s) (N - xs.length) r' (if h1 : xs.length < N then .inr (fun h2 => hgo ⟨h1, h2⟩) else .inl (by omega)))
        have hfin : itms s (rdInit s) r = (xs, r') := by rw [HIT.out, HSTOP.out]; simp
        have HFIN := Lib.hid hfin
        clear hfin
        by_cases hlt : xs.length < N
        case pos =>
          have he' : r'.e ≠ 0 := fun h2 => hgo ⟨hlt, h2⟩
          have he1 : (r'.e == 0) = false := by rw [beq_eq_false_iff_ne]; exact he'
          clear hgo he'
          go_wp2
          go_ret
          rw [HFIN.out]
          exact ⟨_, rfl, HOWN.out, HRD.out, HST.out⟩
        case neg =>
          clear hgo
          go_wp2
          go_ret
          rw [HFIN.out]
          exact ⟨_, rfl, HOWN.out, HRD.out, HST.out⟩
end Go.Proofs.Ytkoopobfelcgpaa
end -- D3

section -- D4
/- layer 6: Get -/
set_option linter.unusedSimpArgs false
set_option linter.unusedVariables false
namespace Go.Proofs.Ytkoopobfelcgpaa
open Go.RowKit Go.Proofs.YtkoopobfelcgpaaW.PrintWords Go.Proofs.YtkoopobfelcgpaaW.PrintMore

def rA (s : ByteArray) : Int × Rd := rdInt s ⟨0, 0⟩
def rB (s : ByteArray) : Nat × Rd := rdFloat s (rA s).2
def rD (s : ByteArray) : List Nat × Rd := itms s (rdFloat s) (rB s).2
def rP (s : ByteArray) : List (List PIns) × Rd := itms s (rdProg s) (rD s).2
def rL (s : ByteArray) : List PLP × Rd := itms s (rdLP s) (rP s).2
def rI (s : ByteArray) : List PInit × Rd := itms s (rdInit s) (rL s).2
def rawM (s : ByteArray) : PModel := ⟨(rA s).1, (rB s).1, (rD s).1, (rP s).1, (rL s).1, (rI s).1⟩
def m0 : PModel := ⟨0, 0, [], [], [], []⟩
/-- what reading a model says -/
def getM (s : ByteArray) : PModel × Int :=
  if (rI s).2.e ≠ 0 then (m0, (rI s).2.e) else if (rI s).2.p < s.size then (m0, 6) else if checkB (rawM s) = true then (rawM s, 0) else (m0, 15)
abbrev zero28 : List Value := [.int .i64 0, .float .f64 0, .slice none 0 0, .slice none 0 0, .slice none 0 0, .slice none 0 0]
theorem m0_at (w : World) : ModelAt w (.slice none 0 0) (.slice none 0 0) (.slice none 0 0) (.slice none 0 0) m0 :=
  ⟨⟨none, 0, rfl, Nat.le_refl _, Nat.zero_le _, fun _ => rfl, fun i x h => by simp [m0] at h⟩, ⟨none, 0, rfl, Nat.le_refl _, Nat.zero_le _, fun _ => rfl, fun i x h => by simp [m0] at h⟩, ⟨none, 0, rfl, Nat.le_refl _, Nat.zero_le _, fun _ => rfl, fun i x h => by simp [m0] at h⟩, ⟨none, 0, rfl, Nat.le_refl _, Nat.zero_le _, fun _ => rfl, fun i x h => by simp [m0] at h⟩⟩

theorem Out.newAt {T : TypeId} {W : World} {O : Nat} {cs : List Value} (h : O = W.heap.size) : Out T (W.alloc (.cells cs.toArray T)) O cs := by subst h; exact Out.new
theorem Out.sixth {W : World} {O : Nat} {c0 c1 c2 c3 c4 c5 : Value} (h : Out 28 W O zero28) : Out 28 ((((((W.setCell ⟨O, 0, none⟩ c0).setCell ⟨O, 1, none⟩ c1).setCell ⟨O, 2, none⟩ c2).setCell ⟨O, 3, none⟩ c3).setCell ⟨O, 4, none⟩ c4).setCell ⟨O, 5, none⟩ c5) O [c0, c1, c2, c3, c4, c5] := by
  simpa using (((((h.set 0 c0).set 1 c1).set 2 c2).set 3 c3).set 4 c4).set 5 c5
theorem RStep.sixth {n B O : Nat} {a b : World} {c0 c1 c2 c3 c4 c5 : Value} (h : RStep n B a b) (hO : a.heap.size ≤ O) (hn : n ≤ a.heap.size) : RStep n B a ((((((b.setCell ⟨O, 0, none⟩ c0).setCell ⟨O, 1, none⟩ c1).setCell ⟨O, 2, none⟩ c2).setCell ⟨O, 3, none⟩ c3).setCell ⟨O, 4, none⟩ c4).setCell ⟨O, 5, none⟩ c5) :=
  (((((h.setNew hO hn 0 c0).setNew hO hn 1 c1).setNew hO hn 2 c2).setNew hO hn 3 c3).setNew hO hn 4 c4).setNew hO hn 5 c5
theorem RdAt.sixth {w : World} {B O : Nat} {s : ByteArray} {r : Rd} {c0 c1 c2 c3 c4 c5 : Value} (h : RdAt w B s r) (hne : B ≠ O) : RdAt ((((((w.setCell ⟨O, 0, none⟩ c0).setCell ⟨O, 1, none⟩ c1).setCell ⟨O, 2, none⟩ c2).setCell ⟨O, 3, none⟩ c3).setCell ⟨O, 4, none⟩ c4).setCell ⟨O, 5, none⟩ c5) B s r :=
  (((((h.set_other hne).set_other hne).set_other hne).set_other hne).set_other hne).set_other hne

theorem Gr.sixth {w W : World} {O : Nat} {c0 c1 c2 c3 c4 c5 : Value} (h : Gr w W) (ho : w.heap.size ≤ O) : Gr w ((((((W.setCell ⟨O, 0, none⟩ c0).setCell ⟨O, 1, none⟩ c1).setCell ⟨O, 2, none⟩ c2).setCell ⟨O, 3, none⟩ c3).setCell ⟨O, 4, none⟩ c4).setCell ⟨O, 5, none⟩ c5) :=
  (((((h.setCell (p := ⟨O, 0, none⟩) ho c0).setCell (p := ⟨O, 1, none⟩) ho c1).setCell (p := ⟨O, 2, none⟩) ho c2).setCell (p := ⟨O, 3, none⟩) ho c3).setCell (p := ⟨O, 4, none⟩) ho c4).setCell (p := ⟨O, 5, none⟩) ho c5
theorem R_sixth {α : Type} {d : Kd α} {e base O : Nat} {ok : Nat → Prop} {W : World} {v : Value} {xs : List α} {c0 c1 c2 c3 c4 c5 : Value} (h : d.R e W base ok v xs) (ho : Out 28 W O zero28) (ht : ∀ q, q ∈ e :: d.E → q ≠ 28) : d.R e ((((((W.setCell ⟨O, 0, none⟩ c0).setCell ⟨O, 1, none⟩ c1).setCell ⟨O, 2, none⟩ c2).setCell ⟨O, 3, none⟩ c3).setCell ⟨O, 4, none⟩ c4).setCell ⟨O, 5, none⟩ c5) base ok v xs :=
  Kd.R_set (Kd.R_set (Kd.R_set (Kd.R_set (Kd.R_set (Kd.R_set h (Out.is ho) ht 0 c0) (Out.is (ho.set 0 c0)) ht 1 c1) (Out.is ((ho.set 0 c0).set 1 c1)) ht 2 c2) (Out.is (((ho.set 0 c0).set 1 c1).set 2 c2)) ht 3 c3) (Out.is ((((ho.set 0 c0).set 1 c1).set 2 c2).set 3 c3)) ht 4 c4) (Out.is (((((ho.set 0 c0).set 1 c1).set 2 c2).set 3 c3).set 4 c4)) ht 5 c5
theorem getM_err {s : ByteArray} (h : (rI s).2.e ≠ 0) : getM s = (m0, (rI s).2.e) := by unfold getM; rw [if_pos h]
theorem getM_form {s : ByteArray} (h : (rI s).2.e = 0) (h2 : (rI s).2.p < s.size) : getM s = (m0, 6) := by unfold getM; rw [if_neg (by omega), if_pos h2]
theorem getM_bad {s : ByteArray} (h : (rI s).2.e = 0) (h2 : ¬ (rI s).2.p < s.size) (h3 : checkB (rawM s) = false) : getM s = (m0, 15) := by unfold getM; rw [if_neg (by omega), if_neg h2, if_neg (by simp [h3])]
theorem getM_ok {s : ByteArray} (h : (rI s).2.e = 0) (h2 : ¬ (rI s).2.p < s.size) (h3 : checkB (rawM s) = true) : getM s = (rawM s, 0) := by unfold getM; rw [if_neg (by omega), if_neg h2, if_pos h3]
theorem checkRaw_any (s : ByteArray) (v1 v2 v3 v4 : Value) (w : World) (h : ModelAt w v1 v2 v3 v4 (rawM s)) :
    Calls Try.prog 31 #[.agg #[.int .i64 (rA s).1, .float .f64 (rB s).1, v1, v2, v3, v4]] w fun e w' => e = .returned (.int .i64 (checkE (rawM s))) ∧ Gr w w' := Check_any (rawM s) v1 v2 v3 v4 w h

/-- where Get stands: the model that it fills lies at MB -/
def GetAt (s : ByteArray) (n B : Nat) (W2 : World) (r : Rd) (MB : Nat) (cs : List Value) (W : World) : Prop := W2.heap.size ≤ MB ∧ Out 28 W MB cs ∧ RdAt W B s r ∧ RStep n B W2 W

theorem readA_any (n B : Nat) (s : ByteArray) (w : World) (hn : n ≤ B) (hs : s.size ≤ 1099511627776) (h : RdAt w B s ⟨0, 0⟩) :
    Calls Try.prog 112 #[.pointer (some ⟨B, 0, none⟩)] w fun e W => e = .returned (.int .i64 (rA s).1) ∧ RdAt W B s (rA s).2 ∧ RStep n B w W := readerInt_any n B s ⟨0, 0⟩ w hn hs h
theorem readB_any (n B : Nat) (s : ByteArray) (w : World) (hn : n ≤ B) (hs : s.size ≤ 1099511627776) (h : RdAt w B s (rA s).2) :
    Calls Try.prog 113 #[.pointer (some ⟨B, 0, none⟩)] w fun e W => e = .returned (.float .f64 (rB s).1) ∧ RdAt W B s (rB s).2 ∧ RStep n B w W := readerFloat_any n B s (rA s).2 w hn hs h
theorem readD_any (n B : Nat) (s : ByteArray) (w : World) (hn : n ≤ B) (hs : s.size ≤ 1099511627776) (h : RdAt w B s (rB s).2) (hnw : n ≤ w.heap.size) :
    Calls Try.prog 114 #[.pointer (some ⟨B, 0, none⟩), .func (.func 113) #[.pointer (some ⟨B, 0, none⟩)] #[]] w fun e W => ∃ v, e = .returned v ∧ kF.R 22 W w.heap.size (fun _ => True) v (rD s).1 ∧ RdAt W B s (rD s).2 ∧ RStep n B w W := itemsF_any n B s (rB s).2 w hn hs h hnw
theorem readP_any (n B : Nat) (s : ByteArray) (w : World) (bx : Nat) (hbox : ∀ W, RStep n B w W → W.cell? ⟨bx, 0, none⟩ = some (.pointer (some ⟨B, 0, none⟩))) (bi : Nat) (hboi : ∀ W, RStep n B w W → W.cell? ⟨bi, 0, none⟩ = some (.func (.func 111) #[] #[.pointer (some ⟨bx, 0, none⟩)])) (hn : n ≤ B) (hs : s.size ≤ 1099511627776) (h : RdAt w B s (rD s).2) (hnw : n ≤ w.heap.size) :
    Calls Try.prog 115 #[.pointer (some ⟨B, 0, none⟩), .func (.func 116) #[] #[.pointer (some ⟨bx, 0, none⟩), .pointer (some ⟨bi, 0, none⟩)]] w fun e W => ∃ v, e = .returned v ∧ kProg.R 38 W w.heap.size (fun _ => True) v (rP s).1 ∧ RdAt W B s (rP s).2 ∧ RStep n B w W := itemsProg_any n B s (rD s).2 w bx hbox bi hboi hn hs h hnw
theorem readL_any (n B : Nat) (s : ByteArray) (w : World) (bx : Nat) (hbox : ∀ W, RStep n B w W → W.cell? ⟨bx, 0, none⟩ = some (.pointer (some ⟨B, 0, none⟩))) (hn : n ≤ B) (hs : s.size ≤ 1099511627776) (h : RdAt w B s (rP s).2) (hnw : n ≤ w.heap.size) :
    Calls Try.prog 118 #[.pointer (some ⟨B, 0, none⟩), .func (.func 119) #[] #[.pointer (some ⟨bx, 0, none⟩)]] w fun e W => ∃ v, e = .returned v ∧ kLP.R 41 W w.heap.size (fun _ => True) v (rL s).1 ∧ RdAt W B s (rL s).2 ∧ RStep n B w W := itemsLP_any n B s (rP s).2 w bx hbox hn hs h hnw
theorem readN_any (n B : Nat) (s : ByteArray) (w : World) (bx : Nat) (hbox : ∀ W, RStep n B w W → W.cell? ⟨bx, 0, none⟩ = some (.pointer (some ⟨B, 0, none⟩))) (hn : n ≤ B) (hs : s.size ≤ 1099511627776) (h : RdAt w B s (rL s).2) (hnw : n ≤ w.heap.size) :
    Calls Try.prog 121 #[.pointer (some ⟨B, 0, none⟩), .func (.func 122) #[] #[.pointer (some ⟨bx, 0, none⟩)]] w fun e W => ∃ v, e = .returned v ∧ kInit.R 43 W w.heap.size (fun _ => True) v (rI s).1 ∧ RdAt W B s (rI s).2 ∧ RStep n B w W := itemsInit_any n B s (rL s).2 w bx hbox hn hs h hnw
theorem getFin1 {s : ByteArray} {n B : Nat} {W2 w2 : World} {r : Rd} {c0 c1 c2 c3 c4 c5 : Value} (hr : RdAt w2 B s r) (hst : RStep n B W2 w2) (hn2 : n ≤ W2.heap.size) :
    ∃ MB, Value.pointer (some ⟨w2.heap.size, 0, none⟩) = .pointer (some ⟨MB, 0, none⟩) ∧ GetAt s n B W2 r MB [c0, c1, c2, c3, c4, c5] (w2.alloc (.cells #[c0, c1, c2, c3, c4, c5] 28)) :=
  ⟨_, rfl, hst.size, Out.newAt (cs := [c0, c1, c2, c3, c4, c5]) rfl, hr.gr ((Gr.refl _).alloc _), hst.alloc hn2 _⟩
theorem getFin2 {s : ByteArray} {n B O : Nat} {W2 w2 : World} {r : Rd} {c0 c1 c2 c3 c4 c5 : Value} (hr : RdAt w2 B s r) (hst : RStep n B W2 w2) (hn2 : n ≤ W2.heap.size) (hz : Out 28 w2 O zero28) (hO : W2.heap.size ≤ O) (hne : B ≠ O) :
    ∃ MB, Value.pointer (some ⟨O, 0, none⟩) = .pointer (some ⟨MB, 0, none⟩) ∧ GetAt s n B W2 r MB [c0, c1, c2, c3, c4, c5] ((((((w2.setCell ⟨O, 0, none⟩ c0).setCell ⟨O, 1, none⟩ c1).setCell ⟨O, 2, none⟩ c2).setCell ⟨O, 3, none⟩ c3).setCell ⟨O, 4, none⟩ c4).setCell ⟨O, 5, none⟩ c5) :=
  ⟨_, rfl, hO, hz.sixth, hr.sixth hne, hst.sixth hO hn2⟩

set_option maxHeartbeats 8000000 in
set_option maxRecDepth 100000 in
theorem Get_any (s : ByteArray) (w : World) (hs : s.size ≤ 1099511627776) :
    Calls Try.prog 42 #[.string s] w fun e W => ∃ v1 v2 v3 v4, e = .returned (.tuple #[.agg #[.int .i64 (getM s).1.seed, .float .f64 (getM s).1.fin, v1, v2, v3, v4], .int .i64 (getM s).2]) ∧ ModelAt W v1 v2 v3 v4 (getM s).1 ∧ Gr w W := by
  have hmf : ∀ (fn : Fn) (first cap : Array Value) (w : World), (Instr.makeFunc fn first cap).run Try.prog w = .ok (.func fn first cap) w := fun _ _ _ _ => rfl
  go_enter Try.func42, Try.ntmps42
  go_wp2_with fail
  obtain ⟨W2, hW2⟩ : ∃ W2, W2 = ((((w.alloc (.cells #[.int .i64 0, .float .f64 0, .slice none 0 0, .slice none 0 0, .slice none 0 0, .slice none 0 0] 28)).alloc (.cells #[.string s, .int .i64 0, .int .i64 0] 147)).alloc (.cells #[.pointer (some ⟨w.heap.size + 1, 0, none⟩)] 145)).alloc
    (.cells #[.func (.func 111) #[] #[.pointer (some ⟨w.heap.size + 1 + 1, 0, none⟩)]] 148)) := ⟨_, rfl⟩
  have hg2 : Gr w W2 := by rw [hW2]; exact ((((Gr.refl w).alloc _).alloc _).alloc _).alloc _
  have ho : Out 28 W2 w.heap.size zero28 := by rw [hW2]; exact ((Out.new.alloc _).alloc _).alloc _
  have hr : RdAt W2 (w.heap.size + 1) s ⟨0, 0⟩ := by rw [hW2]; exact ⟨0, ((Out.newAt (cs := [.string s, .int .i64 0, .int .i64 0]) (by simp)).alloc _).alloc _, fun _ => rfl⟩
  have hbx : W2.cell? ⟨w.heap.size + 1 + 1, 0, none⟩ = some (.pointer (some ⟨w.heap.size + 1, 0, none⟩)) := by rw [hW2]; exact ((Out.newAt (T := 145) (cs := [.pointer (some ⟨w.heap.size + 1, 0, none⟩)]) (by simp)).alloc _).cell rfl
  have hbi : W2.cell? ⟨w.heap.size + 1 + 1 + 1, 0, none⟩ = some (.func (.func 111) #[] #[.pointer (some ⟨w.heap.size + 1 + 1, 0, none⟩)]) := by rw [hW2]; exact (Out.newAt (T := 148) (cs := [.func (.func 111) #[] #[.pointer (some ⟨w.heap.size + 1 + 1, 0, none⟩)]]) (by simp)).cell rfl
  have hsz : W2.heap.size = w.heap.size + 1 + 1 + 1 + 1 := by rw [hW2]; simp
  rw [← hW2]
  clear hW2
  have hn2 : w.heap.size ≤ W2.heap.size := by omega
  have HSZ := Lib.hid hsz
  clear hsz
  have hB : w.heap.size ≤ w.heap.size + 1 := by omega
  have HBX := Lib.hid (fun (W : World) (g : RStep w.heap.size (w.heap.size + 1) W2 W) => show W.cell? ⟨w.heap.size + 1 + 1, 0, none⟩ = some (.pointer (some ⟨w.heap.size + 1, 0, none⟩)) from by
    rw [World.cell?_of_block (w := W2) (g.kept _ (by have := HSZ.out; show w.heap.size + 1 + 1 < _; omega) (by show w.heap.size + 1 + 1 ≠ _; omega))]; exact hbx)
  have HBI := Lib.hid (fun (W : World) (g : RStep w.heap.size (w.heap.size + 1) W2 W) => show W.cell? ⟨w.heap.size + 1 + 1 + 1, 0, none⟩ = some (.func (.func 111) #[] #[.pointer (some ⟨w.heap.size + 1 + 1, 0, none⟩)]) from by
    rw [World.cell?_of_block (w := W2) (g.kept _ (by have := HSZ.out; show w.heap.size + 1 + 1 + 1 < _; omega) (by show w.heap.size + 1 + 1 + 1 ≠ _; omega))]; exact hbi)
  have HO := Lib.hid (fun (W : World) (g : RStep w.heap.size (w.heap.size + 1) W2 W) => show Out 28 W w.heap.size zero28 from g.out ho (by omega))
  have HR := Lib.hid hr
  have HG2 := Lib.hid hg2
  have HRD0 := Lib.hid (hr.gr (Gr.refl _).drew)
  have HS0 := Lib.hid (RStep.refl w.heap.size (w.heap.size + 1) W2)
  have KS := Lib.hid (fun (W : World) (g : RStep w.heap.size (w.heap.size + 1) W2 W) => show (W.cell? ⟨w.heap.size + 1 + 1, 0, none⟩ = some (.pointer (some ⟨w.heap.size + 1, 0, none⟩)) ∧ RStep w.heap.size (w.heap.size + 1) W2 W) from ⟨HBX.out W g, g⟩)
  have hBlt : w.heap.size + 1 < W2.heap.size := by have := HSZ.out; omega
  clear hbx hbi ho hr hg2
  go_cut [6] from 12 to 16 (fun t6 W => ∃ MB, t6 = .pointer (some ⟨MB, 0, none⟩) ∧ GetAt s w.heap.size (w.heap.size + 1) W2 (rB s).2 MB [.int .i64 (rA s).1, .float .f64 (rB s).1, .slice none 0 0, .slice none 0 0, .slice none 0 0, .slice none 0 0] W)
  case first =>
    go_region_held3 (fun W => W.cell? ⟨w.heap.size + 1 + 1, 0, none⟩ = some (.pointer (some ⟨w.heap.size + 1, 0, none⟩)) ∧ RStep w.heap.size (w.heap.size + 1) W2 W)
      (exact KS.out _ (by repeat (first | with_reducible exact HS0.out | with_reducible assumption | with_reducible exact And.right (by assumption) | with_reducible refine RStep.drew ?_ hn2 | with_reducible refine RStep.alloc ?_ hn2 _ | with_reducible refine RStep.sixth ?_ (by omega) hn2 | with_reducible refine RStep.setNew ?_ (by omega) hn2 _ _)))
      (first
        | (go_at_call 112
           refine (readA_any w.heap.size (w.heap.size + 1) s _ hB hs (by repeat (first | with_reducible exact HRD0.out | (with_reducible refine RdAt.gr ?_ ((Gr.refl _).alloc _)) | (with_reducible refine RdAt.gr ?_ ((Gr.refl _).drew)) | with_reducible exact HR.out))).mono ?_
           rintro e w1 ⟨rfl, hr1, hs2⟩
           have hst1 : RStep w.heap.size (w.heap.size + 1) W2 w1 := RStep.trans (by repeat (first | with_reducible exact HS0.out | with_reducible assumption | with_reducible exact And.right (by assumption) | with_reducible refine RStep.drew ?_ hn2 | with_reducible refine RStep.alloc ?_ hn2 _ | with_reducible refine RStep.sixth ?_ (by omega) hn2 | with_reducible refine RStep.setNew ?_ (by omega) hn2 _ _)) hs2
           have hsz1 := hst1.size
           try (
             have hz : Out 28 w1 W2.heap.size zero28 := by
               refine RStep.out hs2 ?_ (by omega)
               first | with_reducible exact Out.newAt rfl | with_reducible exact Out.drew (Out.newAt rfl)
             have k0 := hz.cell (i := 0) rfl
             have f0 := hz.free 0
             have k1 := hz.cell (i := 1) rfl
             have f1 := hz.free 1
             have k2 := hz.cell (i := 2) rfl
             have f2 := hz.free 2
             have k3 := hz.cell (i := 3) rfl
             have f3 := hz.free 3
             have k4 := hz.cell (i := 4) rfl
             have f4 := hz.free 4
             have k5 := hz.cell (i := 5) rfl
             have f5 := hz.free 5
             have ltz := Out.lt hz)
           clear hs2)
        | (go_at_call 113
           refine (readB_any w.heap.size (w.heap.size + 1) s _ hB hs (by repeat (first | with_reducible exact hr1 | (with_reducible refine RdAt.gr ?_ ((Gr.refl _).alloc _)) | (with_reducible refine RdAt.gr ?_ ((Gr.refl _).drew))))).mono ?_
           rintro e w2 ⟨rfl, hr2, hs2⟩
           have hst2 : RStep w.heap.size (w.heap.size + 1) W2 w2 := RStep.trans (by repeat (first | with_reducible exact HS0.out | with_reducible assumption | with_reducible exact And.right (by assumption) | with_reducible refine RStep.drew ?_ hn2 | with_reducible refine RStep.alloc ?_ hn2 _ | with_reducible refine RStep.sixth ?_ (by omega) hn2 | with_reducible refine RStep.setNew ?_ (by omega) hn2 _ _)) hs2
           have hsz2 := hst2.size
           try (
             have hz2 : Out 28 w2 W2.heap.size zero28 := by
               refine RStep.out hs2 ?_ (by omega)
               with_reducible exact hz
             have k0 := hz2.cell (i := 0) rfl
             have f0 := hz2.free 0
             have k1 := hz2.cell (i := 1) rfl
             have f1 := hz2.free 1
             have k2 := hz2.cell (i := 2) rfl
             have f2 := hz2.free 2
             have k3 := hz2.cell (i := 3) rfl
             have f3 := hz2.free 3
             have k4 := hz2.cell (i := 4) rfl
             have f4 := hz2.free 4
             have k5 := hz2.cell (i := 5) rfl
             have f5 := hz2.free 5
             have ltz := Out.lt hz2)
           try (
             have hz2 : Out 28 w2 w1.heap.size zero28 := by
               refine RStep.out hs2 ?_ (by omega)
               with_reducible exact Out.newAt rfl
             have k0 := hz2.cell (i := 0) rfl
             have f0 := hz2.free 0
             have k1 := hz2.cell (i := 1) rfl
             have f1 := hz2.free 1
             have k2 := hz2.cell (i := 2) rfl
             have f2 := hz2.free 2
             have k3 := hz2.cell (i := 3) rfl
             have f3 := hz2.free 3
             have k4 := hz2.cell (i := 4) rfl
             have f4 := hz2.free 4
             have k5 := hz2.cell (i := 5) rfl
             have f5 := hz2.free 5
             have ltz := Out.lt hz2)
           clear hs2))
    all_goals (go_wp2; go_meet)
    all_goals
      case rel =>
        first
          | with_reducible exact getFin1 hr2 hst2 hn2
          | with_reducible exact getFin2 hr2 hst2 hn2 hz2 (by omega) (by omega)
  case rest =>
    by_cases he : (rI s).2.e = 0
    case neg =>
      have he1 : ((rI s).2.e != 0) = true := by rw [bne_iff_ne]; exact he
      have HE := Lib.hid he
      clear he
      obtain ⟨MB, rfl, hMB, hO, hr, hst⟩ := hcut
      have hMBne : MB ≠ w.heap.size + 1 := by omega
      have HS2 := Lib.hid hst
      have HO2 := Lib.hid hO
      have HR2 := Lib.hid hr
      have bx2 := HBX.out _ hst
      clear hO hr hst
      go_wp2_with (first
        | (go_at_call 114
           refine (readD_any w.heap.size (w.heap.size + 1) s _ hB hs HR2.out (Nat.le_trans hn2 HS2.out.size)).mono ?_
           rintro e w3 ⟨v3, rfl, hv3, hr3, hs3⟩
           obtain ⟨a3, m3, c3, ev⟩ : ∃ a m c, v3 = .slice a m c := by obtain ⟨a, c, e⟩ := Kd.R_slice hv3; exact ⟨a, _, c, e⟩
           subst ev
           have ho3 := RStep.out hs3 HO2.out hMBne
           have hst3 := RStep.trans HS2.out hs3
           have k2 := ho3.cell (i := 2) rfl
           have f2 := ho3.free 2
           have lt3 := Out.lt ho3
           have HS3 := Lib.hid (hst3.setNew hMB hn2 2 (.slice a3 m3 c3))
           have HO3 := Lib.hid (ho3.set 2 (.slice a3 m3 c3))
           have HR3 := Lib.hid (hr3.set_other (O := MB) (i := 2) (u := .slice a3 m3 c3) (fun e => hMBne e.symm))
           have HD_3 := Lib.hid (Kd.R_lower (Kd.R_set hv3 (Out.is ho3) (by decide) 2 (.slice a3 m3 c3)) (Nat.le_trans hn2 HS2.out.size))
           have bx3 := HBX.out _ HS3.out
           clear hv3 hr3 hs3 ho3 hst3 bx2)
        | (go_at_call 115
           refine (readP_any w.heap.size (w.heap.size + 1) s _ _ (fun W' h => HBX.out W' (HS3.out.trans h)) _ (fun W' h => HBI.out W' (HS3.out.trans h)) hB hs HR3.out (Nat.le_trans hn2 HS3.out.size)).mono ?_
           rintro e w4 ⟨v4, rfl, hv4, hr4, hs4⟩
           obtain ⟨a4, m4, c4, ev⟩ : ∃ a m c, v4 = .slice a m c := by obtain ⟨a, c, e⟩ := Kd.R_slice hv4; exact ⟨a, _, c, e⟩
           subst ev
           have ho4 := RStep.out hs4 HO3.out hMBne
           have hst4 := RStep.trans HS3.out hs4
           have k3 := ho4.cell (i := 3) rfl
           have f3 := ho4.free 3
           have lt4 := Out.lt ho4
           have HS4 := Lib.hid (hst4.setNew hMB hn2 3 (.slice a4 m4 c4))
           have HO4 := Lib.hid (ho4.set 3 (.slice a4 m4 c4))
           have HR4 := Lib.hid (hr4.set_other (O := MB) (i := 3) (u := .slice a4 m4 c4) (fun e => hMBne e.symm))
           have HP_4 := Lib.hid (Kd.R_lower (Kd.R_set hv4 (Out.is ho4) (by decide) 3 (.slice a4 m4 c4)) (Nat.le_trans hn2 HS3.out.size))
           have HD_4 := Lib.hid (Kd.R_set (R_rstep HD_3.out HR3.out (by decide) hs4) (Out.is ho4) (by decide) 3 (.slice a4 m4 c4))
           have bx4 := HBX.out _ HS4.out
           clear hv4 hr4 hs4 ho4 hst4 bx3)
        | (go_at_call 118
           refine (readL_any w.heap.size (w.heap.size + 1) s _ _ (fun W' h => HBX.out W' (HS4.out.trans h)) hB hs HR4.out (Nat.le_trans hn2 HS4.out.size)).mono ?_
           rintro e w5 ⟨v5, rfl, hv5, hr5, hs5⟩
           obtain ⟨a5, m5, c5, ev⟩ : ∃ a m c, v5 = .slice a m c := by obtain ⟨a, c, e⟩ := Kd.R_slice hv5; exact ⟨a, _, c, e⟩
           subst ev
           have ho5 := RStep.out hs5 HO4.out hMBne
           have hst5 := RStep.trans HS4.out hs5
           have k4 := ho5.cell (i := 4) rfl
           have f4 := ho5.free 4
           have lt5 := Out.lt ho5
           have HS5 := Lib.hid (hst5.setNew hMB hn2 4 (.slice a5 m5 c5))
           have HO5 := Lib.hid (ho5.set 4 (.slice a5 m5 c5))
           have HR5 := Lib.hid (hr5.set_other (O := MB) (i := 4) (u := .slice a5 m5 c5) (fun e => hMBne e.symm))
           have HL_5 := Lib.hid (Kd.R_lower (Kd.R_set hv5 (Out.is ho5) (by decide) 4 (.slice a5 m5 c5)) (Nat.le_trans hn2 HS4.out.size))
           have HD_5 := Lib.hid (Kd.R_set (R_rstep HD_4.out HR4.out (by decide) hs5) (Out.is ho5) (by decide) 4 (.slice a5 m5 c5))
           have HP_5 := Lib.hid (Kd.R_set (R_rstep HP_4.out HR4.out (by decide) hs5) (Out.is ho5) (by decide) 4 (.slice a5 m5 c5))
           have bx5 := HBX.out _ HS5.out
           clear hv5 hr5 hs5 ho5 hst5 bx4)
        | (go_at_call 121
           refine (readN_any w.heap.size (w.heap.size + 1) s _ _ (fun W' h => HBX.out W' (HS5.out.trans h)) hB hs HR5.out (Nat.le_trans hn2 HS5.out.size)).mono ?_
           rintro e w6 ⟨v6, rfl, hv6, hr6, hs6⟩
           obtain ⟨a6, m6, c6, ev⟩ : ∃ a m c, v6 = .slice a m c := by obtain ⟨a, c, e⟩ := Kd.R_slice hv6; exact ⟨a, _, c, e⟩
           subst ev
           have ho6 := RStep.out hs6 HO5.out hMBne
           have hst6 := RStep.trans HS5.out hs6
           have k5 := ho6.cell (i := 5) rfl
           have f5 := ho6.free 5
           have lt6 := Out.lt ho6
           have HS6 := Lib.hid (hst6.setNew hMB hn2 5 (.slice a6 m6 c6))
           have HO6 := Lib.hid (ho6.set 5 (.slice a6 m6 c6))
           have HR6 := Lib.hid (hr6.set_other (O := MB) (i := 5) (u := .slice a6 m6 c6) (fun e => hMBne e.symm))
           have HI_6 := Lib.hid (Kd.R_lower (Kd.R_set hv6 (Out.is ho6) (by decide) 5 (.slice a6 m6 c6)) (Nat.le_trans hn2 HS5.out.size))
           have HD_6 := Lib.hid (Kd.R_set (R_rstep HD_5.out HR5.out (by decide) hs6) (Out.is ho6) (by decide) 5 (.slice a6 m6 c6))
           have HP_6 := Lib.hid (Kd.R_set (R_rstep HP_5.out HR5.out (by decide) hs6) (Out.is ho6) (by decide) 5 (.slice a6 m6 c6))
           have HL_6 := Lib.hid (Kd.R_set (R_rstep HL_5.out HR5.out (by decide) hs6) (Out.is ho6) (by decide) 5 (.slice a6 m6 c6))
           have bx6 := HBX.out _ HS6.out
           clear hv6 hr6 hs6 ho6 hst6 bx5
           obtain ⟨q, hb6, hq6⟩ := HR6.out
           have r1 := hb6.cell (i := 1) rfl
           have r2 := hb6.cell (i := 2) rfl
           have HQ6 := Lib.hid hq6
           clear hb6 hq6
           have z0 := (HO.out _ HS6.out).cell (i := 0) rfl
           have g0 := (HO.out _ HS6.out).free 0
           have z1 := (HO.out _ HS6.out).cell (i := 1) rfl
           have g1 := (HO.out _ HS6.out).free 1
           have z2 := (HO.out _ HS6.out).cell (i := 2) rfl
           have g2 := (HO.out _ HS6.out).free 2
           have z3 := (HO.out _ HS6.out).cell (i := 3) rfl
           have g3 := (HO.out _ HS6.out).free 3
           have z4 := (HO.out _ HS6.out).cell (i := 4) rfl
           have g4 := (HO.out _ HS6.out).free 4
           have z5 := (HO.out _ HS6.out).cell (i := 5) rfl
           have g5 := (HO.out _ HS6.out).free 5
           have ltR := Out.lt (HO.out _ HS6.out)))
      have HOUT := Lib.hid (HO.out _ HS6.out)
      have HGW := Lib.hid (show Gr w (w6.setCell ⟨MB, 5, none⟩ (.slice a6 m6 c6)) from Below.trans HG2.out HS6.out.below)
      generalize (w6.setCell ⟨MB, 5, none⟩ (.slice a6 m6 c6)) = W at *
      go_region_with (fail)
      all_goals
        simp only [List.getElem_toArray, List.getElem_cons_succ, List.getElem_cons_zero, Act.put, List.setIfInBounds_toArray, List.set_cons_succ, List.set_cons_zero]
        go_wp2
        have HE2 := Lib.hid (getM_err HE.out)
        have HX := Lib.hid ((HOUT.out.sixth (c0 := .int .i64 0) (c1 := .float .f64 0) (c2 := .slice none 0 0) (c3 := .slice none 0 0) (c4 := .slice none 0 0) (c5 := .slice none 0 0)).drew)
        have HG := Lib.hid ((HGW.out.sixth (O := w.heap.size) (c0 := .int .i64 0) (c1 := .float .f64 0) (c2 := .slice none 0 0) (c3 := .slice none 0 0) (c4 := .slice none 0 0) (c5 := .slice none 0 0) (Nat.le_refl _)).drew)
        clear z0 z1 z2 z3 z4 z5
        have z0 := HX.out.cell (i := 0) rfl
        have z1 := HX.out.cell (i := 1) rfl
        have z2 := HX.out.cell (i := 2) rfl
        have z3 := HX.out.cell (i := 3) rfl
        have z4 := HX.out.cell (i := 4) rfl
        have z5 := HX.out.cell (i := 5) rfl
        try simp only [Exit.inBlock, Exit.then]
        refine bodyPost_ret (v := .tuple #[.agg #[.int .i64 0, .float .f64 0, .slice none 0 0, .slice none 0 0, .slice none 0 0, .slice none 0 0], .int .i64 (rI s).2.e]) ?_ rfl ⟨.slice none 0 0, .slice none 0 0, .slice none 0 0, .slice none 0 0, by rw [HE2.out]; rfl, by rw [HE2.out]; exact m0_at _, HG.out⟩
        simp [results, Try.results42, go_sem, z0, z1, z2, z3, z4, z5]
    case pos =>
      have HE := Lib.hid he
      clear he
      by_cases hp : (rI s).2.p < s.size
      case pos =>
        have HP := Lib.hid hp
        obtain ⟨MB, rfl, hMB, hO, hr, hst⟩ := hcut
        have hMBne : MB ≠ w.heap.size + 1 := by omega
        have HS2 := Lib.hid hst
        have HO2 := Lib.hid hO
        have HR2 := Lib.hid hr
        have bx2 := HBX.out _ hst
        clear hO hr hst
        go_wp2_with (first
          | (go_at_call 114
             refine (readD_any w.heap.size (w.heap.size + 1) s _ hB hs HR2.out (Nat.le_trans hn2 HS2.out.size)).mono ?_
             rintro e w3 ⟨v3, rfl, hv3, hr3, hs3⟩
             obtain ⟨a3, m3, c3, ev⟩ : ∃ a m c, v3 = .slice a m c := by obtain ⟨a, c, e⟩ := Kd.R_slice hv3; exact ⟨a, _, c, e⟩
             subst ev
             have ho3 := RStep.out hs3 HO2.out hMBne
             have hst3 := RStep.trans HS2.out hs3
             have k2 := ho3.cell (i := 2) rfl
             have f2 := ho3.free 2
             have lt3 := Out.lt ho3
             have HS3 := Lib.hid (hst3.setNew hMB hn2 2 (.slice a3 m3 c3))
             have HO3 := Lib.hid (ho3.set 2 (.slice a3 m3 c3))
             have HR3 := Lib.hid (hr3.set_other (O := MB) (i := 2) (u := .slice a3 m3 c3) (fun e => hMBne e.symm))
             have HD_3 := Lib.hid (Kd.R_lower (Kd.R_set hv3 (Out.is ho3) (by decide) 2 (.slice a3 m3 c3)) (Nat.le_trans hn2 HS2.out.size))
             have bx3 := HBX.out _ HS3.out
             clear hv3 hr3 hs3 ho3 hst3 bx2)
          | (go_at_call 115
             refine (readP_any w.heap.size (w.heap.size + 1) s _ _ (fun W' h => HBX.out W' (HS3.out.trans h)) _ (fun W' h => HBI.out W' (HS3.out.trans h)) hB hs HR3.out (Nat.le_trans hn2 HS3.out.size)).mono ?_
             rintro e w4 ⟨v4, rfl, hv4, hr4, hs4⟩
             obtain ⟨a4, m4, c4, ev⟩ : ∃ a m c, v4 = .slice a m c := by obtain ⟨a, c, e⟩ := Kd.R_slice hv4; exact ⟨a, _, c, e⟩
             subst ev
             have ho4 := RStep.out hs4 HO3.out hMBne
             have hst4 := RStep.trans HS3.out hs4
             have k3 := ho4.cell (i := 3) rfl
             have f3 := ho4.free 3
             have lt4 := Out.lt ho4
             have HS4 := Lib.hid (hst4.setNew hMB hn2 3 (.slice a4 m4 c4))
             have HO4 := Lib.hid (ho4.set 3 (.slice a4 m4 c4))
             have HR4 := Lib.hid (hr4.set_other (O := MB) (i := 3) (u := .slice a4 m4 c4) (fun e => hMBne e.symm))
             have HP_4 := Lib.hid (Kd.R_lower (Kd.R_set hv4 (Out.is ho4) (by decide) 3 (.slice a4 m4 c4)) (Nat.le_trans hn2 HS3.out.size))
             have HD_4 := Lib.hid (Kd.R_set (R_rstep HD_3.out HR3.out (by decide) hs4) (Out.is ho4) (by decide) 3 (.slice a4 m4 c4))
             have bx4 := HBX.out _ HS4.out
             clear hv4 hr4 hs4 ho4 hst4 bx3)
          | (go_at_call 118
             refine (readL_any w.heap.size (w.heap.size + 1) s _ _ (fun W' h => HBX.out W' (HS4.out.trans h)) hB hs HR4.out (Nat.le_trans hn2 HS4.out.size)).mono ?_
             rintro e w5 ⟨v5, rfl, hv5, hr5, hs5⟩
             obtain ⟨a5, m5, c5, ev⟩ : ∃ a m c, v5 = .slice a m c := by obtain ⟨a, c, e⟩ := Kd.R_slice hv5; exact ⟨a, _, c, e⟩
             subst ev
             have ho5 := RStep.out hs5 HO4.out hMBne
             have hst5 := RStep.trans HS4.out hs5
             have k4 := ho5.cell (i := 4) rfl
             have f4 := ho5.free 4
             have lt5 := Out.lt ho5
             have HS5 := Lib.hid (hst5.setNew hMB hn2 4 (.slice a5 m5 c5))
             have HO5 := Lib.hid (ho5.set 4 (.slice a5 m5 c5))
             have HR5 := Lib.hid (hr5.set_other (O := MB) (i := 4) (u := .slice a5 m5 c5) (fun e => hMBne e.symm))
             have HL_5 := Lib.hid (Kd.R_lower (Kd.R_set hv5 (Out.is ho5) (by decide) 4 (.slice a5 m5 c5)) (Nat.le_trans hn2 HS4.out.size))
             have HD_5 := Lib.hid (Kd.R_set (R_rstep HD_4.out HR4.out (by decide) hs5) (Out.is ho5) (by decide) 4 (.slice a5 m5 c5))
             have HP_5 := Lib.hid (Kd.R_set (R_rstep HP_4.out HR4.out (by decide) hs5) (Out.is ho5) (by decide) 4 (.slice a5 m5 c5))
             have bx5 := HBX.out _ HS5.out
             clear hv5 hr5 hs5 ho5 hst5 bx4)
          | (go_at_call 121
             refine (readN_any w.heap.size (w.heap.size + 1) s _ _ (fun W' h => HBX.out W' (HS5.out.trans h)) hB hs HR5.out (Nat.le_trans hn2 HS5.out.size)).mono ?_
             rintro e w6 ⟨v6, rfl, hv6, hr6, hs6⟩
             obtain ⟨a6, m6, c6, ev⟩ : ∃ a m c, v6 = .slice a m c := by obtain ⟨a, c, e⟩ := Kd.R_slice hv6; exact ⟨a, _, c, e⟩
             subst ev
             have ho6 := RStep.out hs6 HO5.out hMBne
             have hst6 := RStep.trans HS5.out hs6
             have k5 := ho6.cell (i := 5) rfl
             have f5 := ho6.free 5
             have lt6 := Out.lt ho6
             have HS6 := Lib.hid (hst6.setNew hMB hn2 5 (.slice a6 m6 c6))
             have HO6 := Lib.hid (ho6.set 5 (.slice a6 m6 c6))
             have HR6 := Lib.hid (hr6.set_other (O := MB) (i := 5) (u := .slice a6 m6 c6) (fun e => hMBne e.symm))
             have HI_6 := Lib.hid (Kd.R_lower (Kd.R_set hv6 (Out.is ho6) (by decide) 5 (.slice a6 m6 c6)) (Nat.le_trans hn2 HS5.out.size))
             have HD_6 := Lib.hid (Kd.R_set (R_rstep HD_5.out HR5.out (by decide) hs6) (Out.is ho6) (by decide) 5 (.slice a6 m6 c6))
             have HP_6 := Lib.hid (Kd.R_set (R_rstep HP_5.out HR5.out (by decide) hs6) (Out.is ho6) (by decide) 5 (.slice a6 m6 c6))
             have HL_6 := Lib.hid (Kd.R_set (R_rstep HL_5.out HR5.out (by decide) hs6) (Out.is ho6) (by decide) 5 (.slice a6 m6 c6))
             have bx6 := HBX.out _ HS6.out
             clear hv6 hr6 hs6 ho6 hst6 bx5
             obtain ⟨q, hb6, hq6⟩ := HR6.out
             have r1 := hb6.cell (i := 1) rfl
             have r2 := hb6.cell (i := 2) rfl
             rw [hq6 HE.out] at r1
             rw [HE.out] at r2
             clear hb6 hq6
             have z0 := (HO.out _ HS6.out).cell (i := 0) rfl
             have g0 := (HO.out _ HS6.out).free 0
             have z1 := (HO.out _ HS6.out).cell (i := 1) rfl
             have g1 := (HO.out _ HS6.out).free 1
             have z2 := (HO.out _ HS6.out).cell (i := 2) rfl
             have g2 := (HO.out _ HS6.out).free 2
             have z3 := (HO.out _ HS6.out).cell (i := 3) rfl
             have g3 := (HO.out _ HS6.out).free 3
             have z4 := (HO.out _ HS6.out).cell (i := 4) rfl
             have g4 := (HO.out _ HS6.out).free 4
             have z5 := (HO.out _ HS6.out).cell (i := 5) rfl
             have g5 := (HO.out _ HS6.out).free 5
             have ltR := Out.lt (HO.out _ HS6.out)))
        have HOUT := Lib.hid (HO.out _ HS6.out)
        have HGW := Lib.hid (show Gr w (w6.setCell ⟨MB, 5, none⟩ (.slice a6 m6 c6)) from Below.trans HG2.out HS6.out.below)
        generalize (w6.setCell ⟨MB, 5, none⟩ (.slice a6 m6 c6)) = W at *
        all_goals
            have HE2 := Lib.hid (getM_form HE.out HP.out)
            have HX := Lib.hid ((HOUT.out.sixth (c0 := .int .i64 0) (c1 := .float .f64 0) (c2 := .slice none 0 0) (c3 := .slice none 0 0) (c4 := .slice none 0 0) (c5 := .slice none 0 0)))
            have HG := Lib.hid ((HGW.out.sixth (O := w.heap.size) (c0 := .int .i64 0) (c1 := .float .f64 0) (c2 := .slice none 0 0) (c3 := .slice none 0 0) (c4 := .slice none 0 0) (c5 := .slice none 0 0) (Nat.le_refl _)))
            clear z0 z1 z2 z3 z4 z5
            have z0 := HX.out.cell (i := 0) rfl
            have z1 := HX.out.cell (i := 1) rfl
            have z2 := HX.out.cell (i := 2) rfl
            have z3 := HX.out.cell (i := 3) rfl
            have z4 := HX.out.cell (i := 4) rfl
            have z5 := HX.out.cell (i := 5) rfl
            try simp only [Exit.inBlock, Exit.then]
            refine bodyPost_ret (v := .tuple #[.agg #[.int .i64 0, .float .f64 0, .slice none 0 0, .slice none 0 0, .slice none 0 0, .slice none 0 0], .int .i64 6]) ?_ rfl ⟨.slice none 0 0, .slice none 0 0, .slice none 0 0, .slice none 0 0, by rw [HE2.out]; rfl, by rw [HE2.out]; exact m0_at _, HG.out⟩
            simp [results, Try.results42, go_sem, z0, z1, z2, z3, z4, z5]
      case neg =>
        have HP := Lib.hid hp
        cases hc : checkB (rawM s)
        case false =>
          have HC := Lib.hid hc
          have HCE := Lib.hid (show checkE (rawM s) = 15 by simp [checkE, hc])
          clear hc
          obtain ⟨MB, rfl, hMB, hO, hr, hst⟩ := hcut
          have hMBne : MB ≠ w.heap.size + 1 := by omega
          have HS2 := Lib.hid hst
          have HO2 := Lib.hid hO
          have HR2 := Lib.hid hr
          have bx2 := HBX.out _ hst
          clear hO hr hst
          go_wp2_with (first
            | (go_at_call 114
               refine (readD_any w.heap.size (w.heap.size + 1) s _ hB hs HR2.out (Nat.le_trans hn2 HS2.out.size)).mono ?_
               rintro e w3 ⟨v3, rfl, hv3, hr3, hs3⟩
               obtain ⟨a3, m3, c3, ev⟩ : ∃ a m c, v3 = .slice a m c := by obtain ⟨a, c, e⟩ := Kd.R_slice hv3; exact ⟨a, _, c, e⟩
               subst ev
               have ho3 := RStep.out hs3 HO2.out hMBne
               have hst3 := RStep.trans HS2.out hs3
               have k2 := ho3.cell (i := 2) rfl
               have f2 := ho3.free 2
               have lt3 := Out.lt ho3
               have HS3 := Lib.hid (hst3.setNew hMB hn2 2 (.slice a3 m3 c3))
               have HO3 := Lib.hid (ho3.set 2 (.slice a3 m3 c3))
               have HR3 := Lib.hid (hr3.set_other (O := MB) (i := 2) (u := .slice a3 m3 c3) (fun e => hMBne e.symm))
               have HD_3 := Lib.hid (Kd.R_lower (Kd.R_set hv3 (Out.is ho3) (by decide) 2 (.slice a3 m3 c3)) (Nat.le_trans hn2 HS2.out.size))
               have bx3 := HBX.out _ HS3.out
               clear hv3 hr3 hs3 ho3 hst3 bx2)
            | (go_at_call 115
               refine (readP_any w.heap.size (w.heap.size + 1) s _ _ (fun W' h => HBX.out W' (HS3.out.trans h)) _ (fun W' h => HBI.out W' (HS3.out.trans h)) hB hs HR3.out (Nat.le_trans hn2 HS3.out.size)).mono ?_
               rintro e w4 ⟨v4, rfl, hv4, hr4, hs4⟩
               obtain ⟨a4, m4, c4, ev⟩ : ∃ a m c, v4 = .slice a m c := by obtain ⟨a, c, e⟩ := Kd.R_slice hv4; exact ⟨a, _, c, e⟩
               subst ev
               have ho4 := RStep.out hs4 HO3.out hMBne
               have hst4 := RStep.trans HS3.out hs4
               have k3 := ho4.cell (i := 3) rfl
               have f3 := ho4.free 3
               have lt4 := Out.lt ho4
               have HS4 := Lib.hid (hst4.setNew hMB hn2 3 (.slice a4 m4 c4))
               have HO4 := Lib.hid (ho4.set 3 (.slice a4 m4 c4))
               have HR4 := Lib.hid (hr4.set_other (O := MB) (i := 3) (u := .slice a4 m4 c4) (fun e => hMBne e.symm))
               have HP_4 := Lib.hid (Kd.R_lower (Kd.R_set hv4 (Out.is ho4) (by decide) 3 (.slice a4 m4 c4)) (Nat.le_trans hn2 HS3.out.size))
               have HD_4 := Lib.hid (Kd.R_set (R_rstep HD_3.out HR3.out (by decide) hs4) (Out.is ho4) (by decide) 3 (.slice a4 m4 c4))
               have bx4 := HBX.out _ HS4.out
               clear hv4 hr4 hs4 ho4 hst4 bx3)
            | (go_at_call 118
               refine (readL_any w.heap.size (w.heap.size + 1) s _ _ (fun W' h => HBX.out W' (HS4.out.trans h)) hB hs HR4.out (Nat.le_trans hn2 HS4.out.size)).mono ?_
               rintro e w5 ⟨v5, rfl, hv5, hr5, hs5⟩
               obtain ⟨a5, m5, c5, ev⟩ : ∃ a m c, v5 = .slice a m c := by obtain ⟨a, c, e⟩ := Kd.R_slice hv5; exact ⟨a, _, c, e⟩
               subst ev
               have ho5 := RStep.out hs5 HO4.out hMBne
               have hst5 := RStep.trans HS4.out hs5
               have k4 := ho5.cell (i := 4) rfl
               have f4 := ho5.free 4
               have lt5 := Out.lt ho5
               have HS5 := Lib.hid (hst5.setNew hMB hn2 4 (.slice a5 m5 c5))
               have HO5 := Lib.hid (ho5.set 4 (.slice a5 m5 c5))
               have HR5 := Lib.hid (hr5.set_other (O := MB) (i := 4) (u := .slice a5 m5 c5) (fun e => hMBne e.symm))
               have HL_5 := Lib.hid (Kd.R_lower (Kd.R_set hv5 (Out.is ho5) (by decide) 4 (.slice a5 m5 c5)) (Nat.le_trans hn2 HS4.out.size))
               have HD_5 := Lib.hid (Kd.R_set (R_rstep HD_4.out HR4.out (by decide) hs5) (Out.is ho5) (by decide) 4 (.slice a5 m5 c5))
               have HP_5 := Lib.hid (Kd.R_set (R_rstep HP_4.out HR4.out (by decide) hs5) (Out.is ho5) (by decide) 4 (.slice a5 m5 c5))
               have bx5 := HBX.out _ HS5.out
               clear hv5 hr5 hs5 ho5 hst5 bx4)
            | (go_at_call 121
               refine (readN_any w.heap.size (w.heap.size + 1) s _ _ (fun W' h => HBX.out W' (HS5.out.trans h)) hB hs HR5.out (Nat.le_trans hn2 HS5.out.size)).mono ?_
               rintro e w6 ⟨v6, rfl, hv6, hr6, hs6⟩
               obtain ⟨a6, m6, c6, ev⟩ : ∃ a m c, v6 = .slice a m c := by obtain ⟨a, c, e⟩ := Kd.R_slice hv6; exact ⟨a, _, c, e⟩
               subst ev
               have ho6 := RStep.out hs6 HO5.out hMBne
               have hst6 := RStep.trans HS5.out hs6
               have k5 := ho6.cell (i := 5) rfl
               have f5 := ho6.free 5
               have lt6 := Out.lt ho6
               have HS6 := Lib.hid (hst6.setNew hMB hn2 5 (.slice a6 m6 c6))
               have HO6 := Lib.hid (ho6.set 5 (.slice a6 m6 c6))
               have HR6 := Lib.hid (hr6.set_other (O := MB) (i := 5) (u := .slice a6 m6 c6) (fun e => hMBne e.symm))
               have HI_6 := Lib.hid (Kd.R_lower (Kd.R_set hv6 (Out.is ho6) (by decide) 5 (.slice a6 m6 c6)) (Nat.le_trans hn2 HS5.out.size))
               have HD_6 := Lib.hid (Kd.R_set (R_rstep HD_5.out HR5.out (by decide) hs6) (Out.is ho6) (by decide) 5 (.slice a6 m6 c6))
               have HP_6 := Lib.hid (Kd.R_set (R_rstep HP_5.out HR5.out (by decide) hs6) (Out.is ho6) (by decide) 5 (.slice a6 m6 c6))
               have HL_6 := Lib.hid (Kd.R_set (R_rstep HL_5.out HR5.out (by decide) hs6) (Out.is ho6) (by decide) 5 (.slice a6 m6 c6))
               have bx6 := HBX.out _ HS6.out
               clear hv6 hr6 hs6 ho6 hst6 bx5
               obtain ⟨q, hb6, hq6⟩ := HR6.out
               have r1 := hb6.cell (i := 1) rfl
               have r2 := hb6.cell (i := 2) rfl
               rw [hq6 HE.out] at r1
               rw [HE.out] at r2
               have y0 := HO6.out.cell (i := 0) rfl
               have y1 := HO6.out.cell (i := 1) rfl
               have y2 := HO6.out.cell (i := 2) rfl
               have y3 := HO6.out.cell (i := 3) rfl
               have y4 := HO6.out.cell (i := 4) rfl
               have y5 := HO6.out.cell (i := 5) rfl
               clear hb6 hq6)
            | (go_at_call 31
               have HM := Lib.hid (show ModelAt (w6.setCell ⟨MB, 5, none⟩ (.slice a6 m6 c6)) (.slice a3 m3 c3) (.slice a4 m4 c4) (.slice a5 m5 c5) (.slice a6 m6 c6) (rawM s) from by
                 have e3 := kF_sl HD_6.out
                 have e4 := kProg_sl HP_6.out
                 have e5 := kLP_sl HL_6.out
                 have e6 := kInit_sl HI_6.out
                 exact ⟨e3, e4, e5, e6⟩)
               refine (Calls.to (checkRaw_any s _ _ _ _ _ HM.out) (intv HCE.out)).mono ?_
               rintro e w7 ⟨rfl, hg7⟩
               have HG7 := Lib.hid hg7
               have HOUT := Lib.hid (Out.gr (HO.out _ HS6.out) hg7)
               have HMB7 := Lib.hid (Out.gr HO6.out hg7)
               have z0 := HOUT.out.cell (i := 0) rfl
               have z1 := HOUT.out.cell (i := 1) rfl
               have z2 := HOUT.out.cell (i := 2) rfl
               have z3 := HOUT.out.cell (i := 3) rfl
               have z4 := HOUT.out.cell (i := 4) rfl
               have z5 := HOUT.out.cell (i := 5) rfl
               have g0 := HOUT.out.free 0
               have g1 := HOUT.out.free 1
               have g2 := HOUT.out.free 2
               have g3 := HOUT.out.free 3
               have g4 := HOUT.out.free 4
               have g5 := HOUT.out.free 5
               have x0 := HMB7.out.cell (i := 0) rfl
               have x1 := HMB7.out.cell (i := 1) rfl
               have x2 := HMB7.out.cell (i := 2) rfl
               have x3 := HMB7.out.cell (i := 3) rfl
               have x4 := HMB7.out.cell (i := 4) rfl
               have x5 := HMB7.out.cell (i := 5) rfl
               have ltR := Out.lt HOUT.out
               clear hg7 y0 y1 y2 y3 y4 y5))
          have HGW := Lib.hid (show Gr w w7 from Gr.trans (Below.trans HG2.out HS6.out.below) HG7.out)
          have HE2 := Lib.hid (getM_bad HE.out (Int.not_lt.mpr HP.out) HC.out)
          have HX := Lib.hid ((HOUT.out.sixth (c0 := .int .i64 0) (c1 := .float .f64 0) (c2 := .slice none 0 0) (c3 := .slice none 0 0) (c4 := .slice none 0 0) (c5 := .slice none 0 0)))
          have HG := Lib.hid ((HGW.out.sixth (O := w.heap.size) (c0 := .int .i64 0) (c1 := .float .f64 0) (c2 := .slice none 0 0) (c3 := .slice none 0 0) (c4 := .slice none 0 0) (c5 := .slice none 0 0) (Nat.le_refl _)))
          clear z0 z1 z2 z3 z4 z5
          have z0 := HX.out.cell (i := 0) rfl
          have z1 := HX.out.cell (i := 1) rfl
          have z2 := HX.out.cell (i := 2) rfl
          have z3 := HX.out.cell (i := 3) rfl
          have z4 := HX.out.cell (i := 4) rfl
          have z5 := HX.out.cell (i := 5) rfl
          try simp only [Exit.inBlock, Exit.then]
          refine bodyPost_ret (v := .tuple #[.agg #[.int .i64 0, .float .f64 0, .slice none 0 0, .slice none 0 0, .slice none 0 0, .slice none 0 0], .int .i64 15]) ?_ rfl ⟨.slice none 0 0, .slice none 0 0, .slice none 0 0, .slice none 0 0, by rw [HE2.out]; rfl, by rw [HE2.out]; exact m0_at _, HG.out⟩
          simp [results, Try.results42, go_sem, z0, z1, z2, z3, z4, z5]
        case true =>
          have HC := Lib.hid hc
          have HCE := Lib.hid (show checkE (rawM s) = 0 by simp [checkE, hc])
          clear hc
          obtain ⟨MB, rfl, hMB, hO, hr, hst⟩ := hcut
          have hMBne : MB ≠ w.heap.size + 1 := by omega
          have HS2 := Lib.hid hst
          have HO2 := Lib.hid hO
          have HR2 := Lib.hid hr
          have bx2 := HBX.out _ hst
          clear hO hr hst
          go_wp2_with (first
            | (go_at_call 114
               refine (readD_any w.heap.size (w.heap.size + 1) s _ hB hs HR2.out (Nat.le_trans hn2 HS2.out.size)).mono ?_
               rintro e w3 ⟨v3, rfl, hv3, hr3, hs3⟩
               obtain ⟨a3, m3, c3, ev⟩ : ∃ a m c, v3 = .slice a m c := by obtain ⟨a, c, e⟩ := Kd.R_slice hv3; exact ⟨a, _, c, e⟩
               subst ev
               have ho3 := RStep.out hs3 HO2.out hMBne
               have hst3 := RStep.trans HS2.out hs3
               have k2 := ho3.cell (i := 2) rfl
               have f2 := ho3.free 2
               have lt3 := Out.lt ho3
               have HS3 := Lib.hid (hst3.setNew hMB hn2 2 (.slice a3 m3 c3))
               have HO3 := Lib.hid (ho3.set 2 (.slice a3 m3 c3))
               have HR3 := Lib.hid (hr3.set_other (O := MB) (i := 2) (u := .slice a3 m3 c3) (fun e => hMBne e.symm))
               have HD_3 := Lib.hid (Kd.R_lower (Kd.R_set hv3 (Out.is ho3) (by decide) 2 (.slice a3 m3 c3)) (Nat.le_trans hn2 HS2.out.size))
               have bx3 := HBX.out _ HS3.out
               clear hv3 hr3 hs3 ho3 hst3 bx2)
            | (go_at_call 115
               refine (readP_any w.heap.size (w.heap.size + 1) s _ _ (fun W' h => HBX.out W' (HS3.out.trans h)) _ (fun W' h => HBI.out W' (HS3.out.trans h)) hB hs HR3.out (Nat.le_trans hn2 HS3.out.size)).mono ?_
               rintro e w4 ⟨v4, rfl, hv4, hr4, hs4⟩
               obtain ⟨a4, m4, c4, ev⟩ : ∃ a m c, v4 = .slice a m c := by obtain ⟨a, c, e⟩ := Kd.R_slice hv4; exact ⟨a, _, c, e⟩
               subst ev
               have ho4 := RStep.out hs4 HO3.out hMBne
               have hst4 := RStep.trans HS3.out hs4
               have k3 := ho4.cell (i := 3) rfl
               have f3 := ho4.free 3
               have lt4 := Out.lt ho4
               have HS4 := Lib.hid (hst4.setNew hMB hn2 3 (.slice a4 m4 c4))
               have HO4 := Lib.hid (ho4.set 3 (.slice a4 m4 c4))
               have HR4 := Lib.hid (hr4.set_other (O := MB) (i := 3) (u := .slice a4 m4 c4) (fun e => hMBne e.symm))
               have HP_4 := Lib.hid (Kd.R_lower (Kd.R_set hv4 (Out.is ho4) (by decide) 3 (.slice a4 m4 c4)) (Nat.le_trans hn2 HS3.out.size))
               have HD_4 := Lib.hid (Kd.R_set (R_rstep HD_3.out HR3.out (by decide) hs4) (Out.is ho4) (by decide) 3 (.slice a4 m4 c4))
               have bx4 := HBX.out _ HS4.out
               clear hv4 hr4 hs4 ho4 hst4 bx3)
            | (go_at_call 118
               refine (readL_any w.heap.size (w.heap.size + 1) s _ _ (fun W' h => HBX.out W' (HS4.out.trans h)) hB hs HR4.out (Nat.le_trans hn2 HS4.out.size)).mono ?_
               rintro e w5 ⟨v5, rfl, hv5, hr5, hs5⟩
               obtain ⟨a5, m5, c5, ev⟩ : ∃ a m c, v5 = .slice a m c := by obtain ⟨a, c, e⟩ := Kd.R_slice hv5; exact ⟨a, _, c, e⟩
               subst ev
               have ho5 := RStep.out hs5 HO4.out hMBne
               have hst5 := RStep.trans HS4.out hs5
               have k4 := ho5.cell (i := 4) rfl
               have f4 := ho5.free 4
               have lt5 := Out.lt ho5
               have HS5 := Lib.hid (hst5.setNew hMB hn2 4 (.slice a5 m5 c5))
               have HO5 := Lib.hid (ho5.set 4 (.slice a5 m5 c5))
               have HR5 := Lib.hid (hr5.set_other (O := MB) (i := 4) (u := .slice a5 m5 c5) (fun e => hMBne e.symm))
               have HL_5 := Lib.hid (Kd.R_lower (Kd.R_set hv5 (Out.is ho5) (by decide) 4 (.slice a5 m5 c5)) (Nat.le_trans hn2 HS4.out.size))
               have HD_5 := Lib.hid (Kd.R_set (R_rstep HD_4.out HR4.out (by decide) hs5) (Out.is ho5) (by decide) 4 (.slice a5 m5 c5))
               have HP_5 := Lib.hid (Kd.R_set (R_rstep HP_4.out HR4.out (by decide) hs5) (Out.is ho5) (by decide) 4 (.slice a5 m5 c5))
               have bx5 := HBX.out _ HS5.out
               clear hv5 hr5 hs5 ho5 hst5 bx4)
            | (go_at_call 121
               refine (readN_any w.heap.size (w.heap.size + 1) s _ _ (fun W' h => HBX.out W' (HS5.out.trans h)) hB hs HR5.out (Nat.le_trans hn2 HS5.out.size)).mono ?_
               rintro e w6 ⟨v6, rfl, hv6, hr6, hs6⟩
               obtain ⟨a6, m6, c6, ev⟩ : ∃ a m c, v6 = .slice a m c := by obtain ⟨a, c, e⟩ := Kd.R_slice hv6; exact ⟨a, _, c, e⟩
               subst ev
               have ho6 := RStep.out hs6 HO5.out hMBne
               have hst6 := RStep.trans HS5.out hs6
               have k5 := ho6.cell (i := 5) rfl
               have f5 := ho6.free 5
               have lt6 := Out.lt ho6
               have HS6 := Lib.hid (hst6.setNew hMB hn2 5 (.slice a6 m6 c6))
               have HO6 := Lib.hid (ho6.set 5 (.slice a6 m6 c6))
               have HR6 := Lib.hid (hr6.set_other (O := MB) (i := 5) (u := .slice a6 m6 c6) (fun e => hMBne e.symm))
               have HI_6 := Lib.hid (Kd.R_lower (Kd.R_set hv6 (Out.is ho6) (by decide) 5 (.slice a6 m6 c6)) (Nat.le_trans hn2 HS5.out.size))
               have HD_6 := Lib.hid (Kd.R_set (R_rstep HD_5.out HR5.out (by decide) hs6) (Out.is ho6) (by decide) 5 (.slice a6 m6 c6))
               have HP_6 := Lib.hid (Kd.R_set (R_rstep HP_5.out HR5.out (by decide) hs6) (Out.is ho6) (by decide) 5 (.slice a6 m6 c6))
               have HL_6 := Lib.hid (Kd.R_set (R_rstep HL_5.out HR5.out (by decide) hs6) (Out.is ho6) (by decide) 5 (.slice a6 m6 c6))
               have bx6 := HBX.out _ HS6.out
               clear hv6 hr6 hs6 ho6 hst6 bx5
               obtain ⟨q, hb6, hq6⟩ := HR6.out
               have r1 := hb6.cell (i := 1) rfl
               have r2 := hb6.cell (i := 2) rfl
               rw [hq6 HE.out] at r1
               rw [HE.out] at r2
               have y0 := HO6.out.cell (i := 0) rfl
               have y1 := HO6.out.cell (i := 1) rfl
               have y2 := HO6.out.cell (i := 2) rfl
               have y3 := HO6.out.cell (i := 3) rfl
               have y4 := HO6.out.cell (i := 4) rfl
               have y5 := HO6.out.cell (i := 5) rfl
               clear hb6 hq6)
            | (go_at_call 31
               have HM := Lib.hid (show ModelAt (w6.setCell ⟨MB, 5, none⟩ (.slice a6 m6 c6)) (.slice a3 m3 c3) (.slice a4 m4 c4) (.slice a5 m5 c5) (.slice a6 m6 c6) (rawM s) from by
                 have e3 := kF_sl HD_6.out
                 have e4 := kProg_sl HP_6.out
                 have e5 := kLP_sl HL_6.out
                 have e6 := kInit_sl HI_6.out
                 exact ⟨e3, e4, e5, e6⟩)
               refine (Calls.to (checkRaw_any s _ _ _ _ _ HM.out) (intv HCE.out)).mono ?_
               rintro e w7 ⟨rfl, hg7⟩
               have HG7 := Lib.hid hg7
               have HOUT := Lib.hid (Out.gr (HO.out _ HS6.out) hg7)
               have HMB7 := Lib.hid (Out.gr HO6.out hg7)
               have z0 := HOUT.out.cell (i := 0) rfl
               have z1 := HOUT.out.cell (i := 1) rfl
               have z2 := HOUT.out.cell (i := 2) rfl
               have z3 := HOUT.out.cell (i := 3) rfl
               have z4 := HOUT.out.cell (i := 4) rfl
               have z5 := HOUT.out.cell (i := 5) rfl
               have g0 := HOUT.out.free 0
               have g1 := HOUT.out.free 1
               have g2 := HOUT.out.free 2
               have g3 := HOUT.out.free 3
               have g4 := HOUT.out.free 4
               have g5 := HOUT.out.free 5
               have x0 := HMB7.out.cell (i := 0) rfl
               have x1 := HMB7.out.cell (i := 1) rfl
               have x2 := HMB7.out.cell (i := 2) rfl
               have x3 := HMB7.out.cell (i := 3) rfl
               have x4 := HMB7.out.cell (i := 4) rfl
               have x5 := HMB7.out.cell (i := 5) rfl
               have ltR := Out.lt HOUT.out
               clear hg7 y0 y1 y2 y3 y4 y5))
          have HGW := Lib.hid (show Gr w w7 from Gr.trans (Below.trans HG2.out HS6.out.below) HG7.out)
          have HE2 := Lib.hid (getM_ok HE.out (Int.not_lt.mpr HP.out) HC.out)
          have HX := Lib.hid (HOUT.out.sixth (c0 := .int .i64 (rA s).1) (c1 := .float .f64 (rB s).1) (c2 := .slice a3 m3 c3) (c3 := .slice a4 m4 c4) (c4 := .slice a5 m5 c5) (c5 := .slice a6 m6 c6))
          have HG := Lib.hid (HGW.out.sixth (O := w.heap.size) (c0 := .int .i64 (rA s).1) (c1 := .float .f64 (rB s).1) (c2 := .slice a3 m3 c3) (c3 := .slice a4 m4 c4) (c4 := .slice a5 m5 c5) (c5 := .slice a6 m6 c6) (Nat.le_refl _))
          have e3 := kF_sl (R_sixth (O := w.heap.size) (c0 := .int .i64 (rA s).1) (c1 := .float .f64 (rB s).1) (c2 := .slice a3 m3 c3) (c3 := .slice a4 m4 c4) (c4 := .slice a5 m5 c5) (c5 := .slice a6 m6 c6) (Kd.R_below HD_6.out HG7.out) HOUT.out (by decide))
          have e4 := kProg_sl (R_sixth (O := w.heap.size) (c0 := .int .i64 (rA s).1) (c1 := .float .f64 (rB s).1) (c2 := .slice a3 m3 c3) (c3 := .slice a4 m4 c4) (c4 := .slice a5 m5 c5) (c5 := .slice a6 m6 c6) (Kd.R_below HP_6.out HG7.out) HOUT.out (by decide))
          have e5 := kLP_sl (R_sixth (O := w.heap.size) (c0 := .int .i64 (rA s).1) (c1 := .float .f64 (rB s).1) (c2 := .slice a3 m3 c3) (c3 := .slice a4 m4 c4) (c4 := .slice a5 m5 c5) (c5 := .slice a6 m6 c6) (Kd.R_below HL_6.out HG7.out) HOUT.out (by decide))
          have e6 := kInit_sl (R_sixth (O := w.heap.size) (c0 := .int .i64 (rA s).1) (c1 := .float .f64 (rB s).1) (c2 := .slice a3 m3 c3) (c3 := .slice a4 m4 c4) (c4 := .slice a5 m5 c5) (c5 := .slice a6 m6 c6) (Kd.R_below HI_6.out HG7.out) HOUT.out (by decide))
          have HM9 := Lib.hid (show ModelAt _ (.slice a3 m3 c3) (.slice a4 m4 c4) (.slice a5 m5 c5) (.slice a6 m6 c6) (rawM s) from ⟨e3, e4, e5, e6⟩)
          clear z0 z1 z2 z3 z4 z5 e3 e4 e5 e6
          have z0 := HX.out.cell (i := 0) rfl
          have z1 := HX.out.cell (i := 1) rfl
          have z2 := HX.out.cell (i := 2) rfl
          have z3 := HX.out.cell (i := 3) rfl
          have z4 := HX.out.cell (i := 4) rfl
          have z5 := HX.out.cell (i := 5) rfl
          try simp only [Exit.inBlock, Exit.then]
          refine bodyPost_ret (v := .tuple #[.agg #[.int .i64 (rA s).1, .float .f64 (rB s).1, .slice a3 m3 c3, .slice a4 m4 c4, .slice a5 m5 c5, .slice a6 m6 c6], .int .i64 0]) ?_ rfl ⟨.slice a3 m3 c3, .slice a4 m4 c4, .slice a5 m5 c5, .slice a6 m6 c6, by rw [HE2.out]; rfl, by rw [HE2.out]; exact HM9.out, HG.out⟩
          simp [results, Try.results42, go_sem, z0, z1, z2, z3, z4, z5]
end Go.Proofs.Ytkoopobfelcgpaa
end -- D4
