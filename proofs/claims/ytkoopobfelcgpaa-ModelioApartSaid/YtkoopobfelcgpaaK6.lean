/- K6: the texts F1 F2 F3 F4 F5 G1 G2, merged by tools/merge.py -/
import Derived.Test.YtkoopobfelcgpaaK4
import Derived.Test.YtkoopobfelcgpaaK2
import Derived.Test.YtkoopobfelcgpaaK5
import Derived.Test.YtkoopobfelcgpaaK1

section -- F1
/- layer 6: the plain law: what was put is got as it was -/
set_option linter.unusedSimpArgs false
set_option linter.unusedVariables false
namespace Go.Proofs.Ytkoopobfelcgpaa
open Go.RowKit Go.Proofs.YtkoopobfelcgpaaW.PrintWords Go.Proofs.YtkoopobfelcgpaaW.PrintMore

/-- from p on, s holds the bytes l -/
def Rds (s : ByteArray) (p : Nat) (l : List Int) : Prop := ∃ pre, s = S8 (pre ++ l) ∧ pre.length = p ∧ OkBytes (pre ++ l)
theorem Rds.size {s : ByteArray} {p : Nat} {l : List Int} (h : Rds s p l) : s.size = p + l.length := by
  obtain ⟨pre, rfl, rfl, -⟩ := h
  rw [strOfNums_size, List.length_append]
theorem Rds.next {s : ByteArray} {p : Nat} {a l : List Int} (h : Rds s p (a ++ l)) : Rds s (p + a.length) l := by
  obtain ⟨pre, rfl, rfl, ok⟩ := h
  exact ⟨pre ++ a, by rw [List.append_assoc], by rw [List.length_append], by rw [List.append_assoc]; exact ok⟩
theorem bt_S8 (l : List Int) (ok : OkBytes l) (i : Nat) (x : Int) (h : l[i]? = some x) : bt (S8 l) i = x := by
  have hi : i < l.length := by
    rcases Nat.lt_or_ge i l.length with g | g
    · exact g
    · rw [List.getElem?_eq_none g] at h; cases h
  have hx := ok x (List.mem_of_getElem? h)
  have hs : i < (S8 l).size := by rw [strOfNums_size]; exact hi
  unfold bt
  rw [dif_pos (by simpa using hs)]
  have e : ((S8 l)[((i : Int)).toNat]'(by simpa using hs)) = UInt8.ofNat x.toNat := by
    show (strOfNums l).data[((i : Int)).toNat]'_ = _
    simp only [strOfNums, List.getElem_toArray, List.getElem_map]
    congr 2
    rw [List.getElem?_eq_getElem hi] at h
    injection h with h
  rw [e]
  simp only [UInt8.toNat_ofNat']
  omega
theorem Rds.bt {s : ByteArray} {p : Nat} {l : List Int} (h : Rds s p l) (i : Nat) (x : Int) (hx : l[i]? = some x) : bt s ((p : Int) + i) = x := by
  obtain ⟨pre, rfl, rfl, ok⟩ := h
  have := bt_S8 (pre ++ l) ok (pre.length + i) x (by rw [List.getElem?_append_right (by omega), Nat.add_sub_cancel_left]; exact hx)
  rw [← this]
  congr 1
theorem be8_sum (x : Int) (h0 : 0 ≤ x) (h1 : x < 18446744073709551616) : ((((((x / 72057594037927936 % 256 * 256 + x / 281474976710656 % 256) * 256 + x / 1099511627776 % 256) * 256 + x / 4294967296 % 256) * 256 + x / 16777216 % 256) * 256 + x / 65536 % 256) * 256 + x / 256 % 256) * 256 + x % 256 = x := by omega
theorem Rds.readU {s : ByteArray} {p : Nat} {x : Int} {l : List Int} (h : Rds s p (be8 x ++ l)) (h0 : 0 ≤ x) (h1 : x < 18446744073709551616) : readU s p = (x, (p : Int) + 8, 0) := by
  have hs := h.size
  rw [List.length_append, be8_len] at hs
  unfold Go.Proofs.Ytkoopobfelcgpaa.readU
  rw [if_neg (by omega), if_neg (by omega)]
  have e : rdU s p = x := by
    have b0 := h.bt 0 _ rfl
    have b1 := h.bt 1 _ rfl
    have b2 := h.bt 2 _ rfl
    have b3 := h.bt 3 _ rfl
    have b4 := h.bt 4 _ rfl
    have b5 := h.bt 5 _ rfl
    have b6 := h.bt 6 _ rfl
    have b7 := h.bt 7 _ rfl
    unfold rdU
    simp only [Int.natCast_zero, Int.add_zero] at b0
    have c1 : ((1 : Nat) : Int) = 1 := rfl
    rw [b0, show (p : Int) + 1 = (p : Int) + (1 : Nat) from rfl, b1, show (p : Int) + 2 = (p : Int) + (2 : Nat) from rfl, b2, show (p : Int) + 3 = (p : Int) + (3 : Nat) from rfl, b3, show (p : Int) + 4 = (p : Int) + (4 : Nat) from rfl, b4, show (p : Int) + 5 = (p : Int) + (5 : Nat) from rfl, b5,
      show (p : Int) + 6 = (p : Int) + (6 : Nat) from rfl, b6, show (p : Int) + 7 = (p : Int) + (7 : Nat) from rfl, b7]
    exact be8_sum x h0 h1
  rw [e]
def I64 (n : Int) : Prop := -9223372036854775808 ≤ n ∧ n ≤ 9223372036854775807
theorem Rds.int {s : ByteArray} {p : Nat} {n : Int} {l : List Int} (h : Rds s p (encI n ++ l)) (hn : I64 n) : rdInt s ⟨p, 0⟩ = (n, ⟨((p + 8 : Nat) : Int), 0⟩) := by
  unfold I64 at hn
  have hu := Rds.readU (x := (n + 9223372036854775808) % 18446744073709551616) h (by omega) (by omega)
  unfold rdInt readI
  rw [if_pos rfl]
  dsimp only
  rw [hu, if_pos rfl]
  dsimp only
  congr 1
  omega
theorem Rds.float {s : ByteArray} {p : Nat} {x : Nat} {l : List Int} (h : Rds s p (be8 x ++ l)) (hx : x < 18446744073709551616) : rdFloat s ⟨p, 0⟩ = (x, ⟨((p + 8 : Nat) : Int), 0⟩) := by
  have hu := Rds.readU (x := (x : Int)) h (by omega) (by omega)
  unfold rdFloat
  rw [if_pos rfl]
  dsimp only
  rw [hu]
  rfl
/-- one reads what f lays -/
def Lays {α : Type} (s : ByteArray) (one : Rd → α × Rd) (f : α → List Int) (x : α) : Prop := ∀ (p : Nat) l, Rds s p (f x ++ l) → one ⟨p, 0⟩ = (x, ⟨((p + (f x).length : Nat) : Int), 0⟩)
theorem rep_lays {α : Type} {s : ByteArray} {one : Rd → α × Rd} {f : α → List Int} : ∀ (xs : List α), (∀ x ∈ xs, Lays s one f x) → ∀ (p : Nat) l, Rds s p (xs.flatMap f ++ l) → rep one xs.length ⟨p, 0⟩ = (xs, ⟨((p + (xs.flatMap f).length : Nat) : Int), 0⟩)
  | [], _, p, l, _ => by simp [rep]
  | x :: xs, h, p, l, hr => by
    rw [List.flatMap_cons, List.append_assoc] at hr
    have h1 := h x (by simp) p _ hr
    have h2 := rep_lays xs (fun y hy => h y (by simp [hy])) _ _ hr.next
    rw [List.length_cons, rep_go _ _ _ rfl, h1]
    dsimp only
    rw [h2, List.flatMap_cons, List.length_append]
    simp only [Nat.add_assoc]
theorem itms_lays {α : Type} {s : ByteArray} {one : Rd → α × Rd} {f : α → List Int} {xs : List α} (h : ∀ x ∈ xs, Lays s one f x) (hn : xs.length ≤ 48) {p : Nat} {l : List Int} (hr : Rds s p (encA f xs ++ l)) :
    itms s one ⟨p, 0⟩ = (xs, ⟨((p + (encA f xs).length : Nat) : Int), 0⟩) := by
  unfold encA at hr ⊢
  rw [List.append_assoc] at hr
  have h1 := hr.int (by unfold I64; omega)
  have h2 := hr.next
  rw [encI_len] at h2
  have h3 := rep_lays xs h _ _ h2
  have e : cnt s ⟨p, 0⟩ = ((xs.length : Int), ⟨((p + 8 : Nat) : Int), 0⟩) := by
    unfold cnt
    rw [h1, if_neg (by dsimp only; omega)]
  unfold itms
  rw [e]
  dsimp only
  rw [Int.toNat_natCast, h3, List.length_append, encI_len]
  simp only [Nat.add_assoc]

def PIns.w (x : PIns) : Prop := I64 x.op ∧ I64 x.a ∧ I64 x.b ∧ I64 x.c
def PLP.w (x : PLP) : Prop := I64 x.prog ∧ ∀ n ∈ x.words, I64 n
def PInit.w (x : PInit) : Prop := x.t < 18446744073709551616 ∧ I64 x.dst ∧ I64 x.pay
structure PModel.w (m : PModel) : Prop where
  seed : I64 m.seed
  fin : m.fin < 18446744073709551616
  delays : ∀ x ∈ m.delays, x < 18446744073709551616
  programs : ∀ p ∈ m.programs, ∀ x ∈ p, x.w
  lps : ∀ x ∈ m.lps, x.w
  init : ∀ x ∈ m.init, x.w
theorem lays_int (s : ByteArray) {x : Int} (h : I64 x) : Lays s (rdInt s) encI x := fun p l hr => hr.int h
theorem lays_float (s : ByteArray) {x : Nat} (h : x < 18446744073709551616) : Lays s (rdFloat s) encF x := fun p l hr => hr.float h
theorem lays_ins (s : ByteArray) {x : PIns} (h : x.w) : Lays s (rdIns s) encIns x := fun p l hr => by
  have e : encIns x ++ l = encI x.op ++ (encI x.a ++ (encI x.b ++ (encI x.c ++ l))) := by simp [encIns, encL]
  rw [e] at hr
  have h1 := hr.int h.1
  have r2 := hr.next
  rw [encI_len] at r2
  have h2 := r2.int h.2.1
  have r3 := r2.next
  rw [encI_len] at r3
  have h3 := r3.int h.2.2.1
  have r4 := r3.next
  rw [encI_len] at r4
  have h4 := r4.int h.2.2.2
  unfold rdIns
  rw [h1]; dsimp only
  rw [h2]; dsimp only
  rw [h3]; dsimp only
  rw [h4, encIns_len]
theorem lays_prog (s : ByteArray) {p : List PIns} (h : ∀ x ∈ p, x.w) (hn : p.length ≤ 48) : Lays s (rdProg s) encProg p := fun q l hr => itms_lays (fun x hx => lays_ins s (h x hx)) hn hr
theorem lays_lp (s : ByteArray) {x : PLP} (h : x.w) (hn : x.words.length ≤ 48) : Lays s (rdLP s) encLP x := fun p l hr => by
  unfold encLP at hr ⊢
  rw [List.append_assoc] at hr
  have h1 := hr.int h.1
  have r2 := hr.next
  rw [encI_len] at r2
  have h2 := itms_lays (fun y hy => lays_int s (h.2 y hy)) hn r2
  unfold rdLP
  rw [h1]; dsimp only
  rw [h2, List.length_append, encI_len]
  simp only [Nat.add_assoc]
theorem lays_init (s : ByteArray) {x : PInit} (h : x.w) : Lays s (rdInit s) encInit x := fun p l hr => by
  have e : encInit x ++ l = be8 x.t ++ (encI x.dst ++ (encI x.pay ++ l)) := by simp [encInit, encL]
  rw [e] at hr
  have h1 := hr.float h.1
  have r2 := hr.next
  rw [be8_len] at r2
  have h2 := r2.int h.2.1
  have r3 := r2.next
  rw [encI_len] at r3
  have h3 := r3.int h.2.2
  unfold rdInit
  rw [h1]; dsimp only
  rw [h2]; dsimp only
  rw [h3, encInit_len]

theorem okA {a b : List Int} (ha : OkBytes a) (hb : OkBytes b) : OkBytes (a ++ b) := fun x hx => by
  rcases List.mem_append.1 hx with h | h
  · exact ha x h
  · exact hb x h
theorem okF {α : Type} {f : α → List Int} (h : ∀ x, OkBytes (f x)) (l : List α) : OkBytes (l.flatMap f) := fun x hx => by
  obtain ⟨y, _, hy⟩ := List.mem_flatMap.1 hx
  exact h y x hy
theorem okL (l : List Int) : OkBytes (encL l) := okF encI_ok l
theorem okE {α : Type} {f : α → List Int} (h : ∀ x, OkBytes (f x)) (l : List α) : OkBytes (encA f l) := okA (encI_ok _) (okF h l)
theorem lay_ok (m : PModel) : OkBytes (lay m) :=
  okA (okA (okA (okA (okA (encI_ok _) (be8_ok _)) (okE (fun x => be8_ok _) _)) (okE (fun x => okE (fun y => okL _) _) _)) (okE (fun x => okA (encI_ok _) (okE encI_ok _)) _)) (okE (fun x => okA (be8_ok _) (okL _)) _)

theorem lay_right (m : PModel) : lay m = encI m.seed ++ (be8 m.fin ++ (encA encF m.delays ++ (encA encProg m.programs ++ (encA encLP m.lps ++ (encA encInit m.init ++ []))))) := by
  unfold lay
  generalize encA encF m.delays = a
  generalize encA encProg m.programs = b
  generalize encA encLP m.lps = c
  generalize encA encInit m.init = d
  generalize encI m.seed = x
  generalize be8 (m.fin : Int) = y
  simp
/-- what was put is got as it was -/
theorem get_lay (m : PModel) (hw : m.w) (hc : checkB m = true) : getM (S8 (lay m)) = (m, 0) := by
  have hz := sized_of hc
  obtain ⟨s, hs⟩ : ∃ s, s = S8 (lay m) := ⟨_, rfl⟩
  rw [← hs]
  have r0 : Rds s 0 (encI m.seed ++ (be8 m.fin ++ (encA encF m.delays ++ (encA encProg m.programs ++ (encA encLP m.lps ++ (encA encInit m.init ++ [])))))) := by
    have e := lay_right m
    refine ⟨[], ?_, rfl, ?_⟩
    · rw [hs, e, List.nil_append]
    · rw [List.nil_append, ← e]; exact lay_ok m
  have h1 := r0.int hw.seed
  have r1 := r0.next; rw [encI_len] at r1
  have h2 := r1.float hw.fin
  have r2 := r1.next; rw [be8_len] at r2
  have h3 := itms_lays (fun x hx => lays_float s (hw.delays x hx)) (by have := hz.d; omega) r2
  have r3 := r2.next
  have h4 := itms_lays (fun p hp => lays_prog s (hw.programs p hp) (hz.code p hp)) (by have := hz.p; omega) r3
  have r4 := r3.next
  have h5 := itms_lays (fun x hx => lays_lp s (hw.lps x hx) (by have := hz.words x hx; omega)) (by have := hz.l; omega) r4
  have r5 := r4.next
  have h6 := itms_lays (fun x hx => lays_init s (hw.init x hx)) (by have := hz.i; omega) r5
  rw [Int.natCast_zero] at h1
  have e1 : rA s = (m.seed, ⟨((0 + 8 : Nat) : Int), 0⟩) := by unfold rA; exact h1
  have e2 : rB s = (m.fin, ⟨((0 + 8 + 8 : Nat) : Int), 0⟩) := by unfold rB; rw [e1]; exact h2
  have e3 : rD s = itms s (rdFloat s) (rB s).2 := rfl
  rw [e2] at e3; dsimp only at e3; rw [h3] at e3
  have e4 : rP s = itms s (rdProg s) (rD s).2 := rfl
  rw [e3] at e4; dsimp only at e4; rw [h4] at e4
  have e5 : rL s = itms s (rdLP s) (rP s).2 := rfl
  rw [e4] at e5; dsimp only at e5; rw [h5] at e5
  have e6 : rI s = itms s (rdInit s) (rL s).2 := rfl
  rw [e5] at e6; dsimp only at e6; rw [h6] at e6
  have em : rawM s = m := by unfold rawM; rw [e1, e2, e3, e4, e5, e6]
  have hsz := r5.next.size
  rw [getM_ok (by rw [e6]) (by rw [e6]; dsimp only; rw [hsz]; simp) (by rw [em]; exact hc), em]
end Go.Proofs.Ytkoopobfelcgpaa
end -- F1

section -- F2
/- layer 6: light, awake -/
set_option linter.unusedSimpArgs false
set_option linter.unusedVariables false
namespace Go.Proofs.Ytkoopobfelcgpaa
open Go.RowKit

set_option maxHeartbeats 1000000 in
theorem light6_any (m : PModel) (vd vp vl vi : Value) (w : World) (h : ModelAt w vd vp vl vi m) :
    Calls Try.prog 38 #[.agg #[.int .i64 m.seed, .float .f64 m.fin, vd, vp, vl, vi]] w fun e w' => e = .returned (.bool (lightB 10 20 60 60 100 60 m)) ∧ Gr w w' := by
  obtain ⟨ad, cd, rfl, -⟩ := h.delays
  obtain ⟨ap, cp, rfl, hpc, hpm, -, hp⟩ := h.programs
  obtain ⟨al, cl, rfl, hlc, hlm, -, hl⟩ := h.lps
  obtain ⟨ai, ci, rfl, -⟩ := h.init
  clear h
  unfold maxLen at hpm hlm
  have HP := Lib.hid hp; clear hp
  have HL := Lib.hid hl; clear hl
  go_enter Try.func38, Try.ntmps38
  go_wp2
  all_goals (try (go_ret; exact ⟨ret_bool (by grind [lightB]), (Gr.refl _).alloc _⟩))
  have C0 := Lib.hid (show (m.programs.length ≤ 10 ∧ m.lps.length ≤ 20) ∧ m.delays.length ≤ 60 ∧ m.init.length ≤ 60 by omega)
  go_loopg [3] m.programs.length (fun g i wr => ∃ k : Nat, g + k = m.programs.length ∧ i = .int .i64 k ∧ (m.programs.take k).all (fun p => decide (p.length ≤ 100)) = true ∧
    Gr (w.alloc (.cells #[.int .i64 m.seed, .float .f64 m.fin, .slice ad m.delays.length cd, .slice ap m.programs.length cp, .slice al m.lps.length cl, .slice ai m.init.length ci] 28)) wr)
  case atStart => exact ⟨0, by omega, rfl, by simp, Gr.refl _⟩
  case round =>
    obtain ⟨k, hk, rfl, hall, hg⟩ := hrel
    have HA := Lib.hid hall; clear hall
    have hcp : wr.cell? ⟨w.heap.size, 3, none⟩ = some (.slice ap m.programs.length cp) := hg.cell (by simp)
    have hcl : wr.cell? ⟨w.heap.size, 4, none⟩ = some (.slice al m.lps.length cl) := hg.cell (by simp)
    have hg0 : Gr w wr := Gr.trans ((Gr.refl w).alloc _) hg
    by_cases hlt : k < m.programs.length
    · obtain ⟨b, o, rfl, v, hv, a', c', rfl, -⟩ := HP.out k m.programs[k] (by simp [hlt])
      rw [Nat.mul_one] at hv
      have hv' := hg0.cell hv
      clear hv
      go_wp2
      · have hb : decide (m.programs[k].length ≤ 100) = false := by grind
        go_ret
        exact ⟨ret_bool (by have := all_false (fun p : List PIns => decide (p.length ≤ 100)) m.programs k m.programs[k] (by simp [hlt]) hb; simp [lightB, this]), hg0⟩
      · have hb : decide (m.programs[k].length ≤ 100) = true := by grind
        go_roundg (gk - 1)
        case measure => omega
        case rel => exact ⟨k + 1, by omega, by go_num, all_take_succ _ m.programs k m.programs[k] (by simp [hlt]) HA.out hb, hg⟩
    · have hw := all_whole _ m.programs k (by omega) HA.out
      have HW := Lib.hid hw; clear hw
      go_wp2
      go_loopg [4] m.lps.length (fun g i wr => ∃ k : Nat, g + k = m.lps.length ∧ i = .int .i64 k ∧ (m.lps.take k).all (fun x => decide (x.words.length ≤ 60)) = true ∧
        Gr (w.alloc (.cells #[.int .i64 m.seed, .float .f64 m.fin, .slice ad m.delays.length cd, .slice ap m.programs.length cp, .slice al m.lps.length cl, .slice ai m.init.length ci] 28)) wr)
      case atStart => exact ⟨0, by omega, rfl, by simp, hg⟩
      case round =>
        clear hg hg0 hcp hcl
        obtain ⟨j, hj, rfl, hall, hg⟩ := hrel
        have HB := Lib.hid hall; clear hall
        have hcl : wr.cell? ⟨w.heap.size, 4, none⟩ = some (.slice al m.lps.length cl) := hg.cell (by simp)
        have hg0 : Gr w wr := Gr.trans ((Gr.refl w).alloc _) hg
        by_cases hlt : j < m.lps.length
        · obtain ⟨b, o, rfl, hpr, v, hv, a', c', rfl, -⟩ := HL.out j m.lps[j] (by simp [hlt])
          have hv' := hg0.cell hv
          clear hv hpr
          go_wp2
          · have hb : decide (m.lps[j].words.length ≤ 60) = false := by grind
            go_ret
            exact ⟨ret_bool (by have := all_false (fun x : PLP => decide (x.words.length ≤ 60)) m.lps j m.lps[j] (by simp [hlt]) hb; simp [lightB, this]), hg0⟩
          · have hb : decide (m.lps[j].words.length ≤ 60) = true := by grind
            go_roundg (gk - 1)
            case measure => omega
            case rel => exact ⟨j + 1, by omega, by go_num, all_take_succ _ m.lps j m.lps[j] (by simp [hlt]) HB.out hb, hg⟩
        · have hw := all_whole _ m.lps j (by omega) HB.out
          have HW2 := Lib.hid hw; clear hw
          go_wp2
          go_ret
          exact ⟨ret_bool (by rw [lightB, HW.out, HW2.out]; have := C0.out; simp; omega), hg0⟩

def a6 : PModel := ⟨5, 4621819117588971520, [4607182418800017408], [[⟨0, 0, 0, 0⟩]], [⟨0, [7]⟩], []⟩
theorem a6_ok : checkB a6 = true := by decide +kernel
theorem a6_w : a6.w := by
  refine ⟨by unfold a6 I64; decide, by decide, by decide, ?_, ?_, fun x hx => by simp [a6] at hx⟩
  · intro p hp x hx
    simp [a6] at hp
    subst hp
    simp at hx
    subst hx
    unfold PIns.w I64; decide
  · intro x hx
    simp [a6] at hx
    subst hx
    unfold PLP.w I64
    refine ⟨by decide, fun n hn => ?_⟩
    simp at hn
    subst hn
    decide
theorem a6_put : putS a6 = S8 (lay a6) := by unfold putS; rw [if_pos a6_ok]
theorem a6_get : getM (S8 (lay a6)) = (a6, 0) := get_lay a6 a6_w a6_ok
theorem a6_size : (S8 (lay a6)).size = 120 := by decide +kernel
theorem a6_head (w : World) : (Instr.slice 9 (.string (S8 (lay a6))) none (some (.int .i64 8)) none).run Try.prog w = .ok (.string (S8 (encI 5))) w := by kernel_rfl

theorem a6_at (w : World) (b0 b1 b2 b3 b4 : Nat) (h0 : w.cell? ⟨b0, 0, none⟩ = some (.float .f64 4607182418800017408)) (h1 : w.cell? ⟨b1, 0, none⟩ = some (.int .i64 0)) (h2 : w.cell? ⟨b1, 1, none⟩ = some (.int .i64 0))
    (h3 : w.cell? ⟨b1, 2, none⟩ = some (.int .i64 0)) (h4 : w.cell? ⟨b1, 3, none⟩ = some (.int .i64 0)) (h5 : w.cell? ⟨b2, 0, none⟩ = some (.slice (some ⟨b1, 0, none⟩) 1 1))
    (h6 : w.cell? ⟨b4, 0, none⟩ = some (.int .i64 0)) (h7 : w.cell? ⟨b4, 1, none⟩ = some (.slice (some ⟨b3, 0, none⟩) 1 1)) (h8 : w.cell? ⟨b3, 0, none⟩ = some (.int .i64 7)) :
    ModelAt w (.slice (some ⟨b0, 0, none⟩) 1 1) (.slice (some ⟨b2, 0, none⟩) 1 1) (.slice (some ⟨b4, 0, none⟩) 1 1) (.slice none 0 0) a6 :=
  ⟨Sl_one h0, Sl_one ⟨_, h5, Sl_one ⟨h1, h2, h3, h4⟩⟩, Sl_one ⟨h6, _, h7, Sl_one h8⟩, Sl_nil⟩
theorem putA6_any (v1 v2 v3 v4 : Value) (w : World) (h : ModelAt w v1 v2 v3 v4 a6) : Calls Try.prog 40 #[.agg #[.int .i64 5, .float .f64 4621819117588971520, v1, v2, v3, v4]] w fun e w' => e = .returned (.tuple #[.string (S8 (lay a6)), .int .i64 0]) ∧ Gr w w' := by
  have h1 := Put_any a6 v1 v2 v3 v4 w h
  rw [a6_put, show checkE a6 = 0 by simp [checkE, a6_ok]] at h1
  exact h1
theorem getA6_any (w : World) : Calls Try.prog 42 #[.string (S8 (lay a6))] w fun e W => ∃ v1 v2 v3 v4, e = .returned (.tuple #[.agg #[.int .i64 5, .float .f64 4621819117588971520, v1, v2, v3, v4], .int .i64 0]) ∧ ModelAt W v1 v2 v3 v4 a6 ∧ Gr w W := by
  have h1 := Get_any (S8 (lay a6)) w (by rw [a6_size]; omega)
  rw [a6_get] at h1
  exact h1
theorem sameA6_any (v1 v2 v3 v4 u1 u2 u3 u4 : Value) (w : World) (h : ModelAt w v1 v2 v3 v4 a6) (h' : ModelAt w u1 u2 u3 u4 a6) :
    Calls Try.prog 36 #[.agg #[.int .i64 5, .float .f64 4621819117588971520, v1, v2, v3, v4], .agg #[.int .i64 5, .float .f64 4621819117588971520, u1, u2, u3, u4]] w fun e w' => e = .returned (.bool true) ∧ Gr w w' := by
  have h1 := RSame_any a6 a6 v1 v2 v3 v4 u1 u2 u3 u4 w h h'
  rw [sameB_refl] at h1
  exact h1

set_option maxHeartbeats 4000000 in
set_option maxRecDepth 100000 in
theorem awake6_any (w : World) : Calls Try.prog 39 #[] w fun e w' => e = .returned (.bool true) ∧ Gr w w' := by
  have hsize := a6_size
  have hhead := a6_head
  go_enter Try.func39, Try.ntmps39
  go_wp2_with fail
  have HM0 := Lib.hid (a6_at (((((((w.alloc (.cells #[.float .f64 4607182418800017408] 22)).alloc (.cells #[.int .i64 0, .int .i64 0, .int .i64 0, .int .i64 0] 34)).alloc (.cells #[.slice (some ⟨w.heap.size + 1, 0, none⟩) 1 1] 38)).alloc (.cells #[.int .i64 7] 3)).alloc
    (.cells #[.int .i64 0, .slice (some ⟨w.heap.size + 1 + 1 + 1, 0, none⟩) 1 1] 41)).alloc (.cells #[.int .i64 5, .float .f64 4621819117588971520, .slice (some ⟨w.heap.size, 0, none⟩) 1 1, .slice (some ⟨w.heap.size + 1 + 1, 0, none⟩) 1 1, .slice (some ⟨w.heap.size + 1 + 1 + 1 + 1, 0, none⟩) 1 1, .slice none 0 0] 28)))
    w.heap.size (w.heap.size + 1) (w.heap.size + 1 + 1) (w.heap.size + 1 + 1 + 1) (w.heap.size + 1 + 1 + 1 + 1) (by go_cell) (by go_cell) (by go_cell) (by go_cell) (by go_cell) (by go_cell) (by go_cell) (by go_cell) (by go_cell))
  obtain ⟨X, hX⟩ : ∃ X, X = (((((w.alloc (.cells #[.float .f64 4607182418800017408] 22)).alloc (.cells #[.int .i64 0, .int .i64 0, .int .i64 0, .int .i64 0] 34)).alloc (.cells #[.slice (some ⟨w.heap.size + 1, 0, none⟩) 1 1] 38)).alloc (.cells #[.int .i64 7] 3)).alloc
    (.cells #[.int .i64 0, .slice (some ⟨w.heap.size + 1 + 1 + 1, 0, none⟩) 1 1] 41)) := ⟨_, rfl⟩
  have hgX : Gr w X := by rw [hX]; exact (((((Gr.refl w).alloc _).alloc _).alloc _).alloc _).alloc _
  have hsX : X.heap.size = w.heap.size + 1 + 1 + 1 + 1 + 1 := by rw [hX]; simp
  rw [← hX] at HM0 ⊢
  rw [← hsX]
  clear hX
  have HGX := Lib.hid hgX
  have HSX := Lib.hid hsX
  clear hgX hsX
  refine (putA6_any _ _ _ _ _ HM0.out).mono ?_
  rintro e W ⟨rfl, hW⟩
  have HW := Lib.hid hW
  clear hW
  go_wp2_with fail
  refine (getA6_any _).mono ?_
  rintro e W2 ⟨v1, v2, v3, v4, rfl, hm, hg2⟩
  have HM2 := Lib.hid hm
  obtain ⟨a1, c1, rfl, -⟩ := hm.delays
  obtain ⟨a2, c2, rfl, -⟩ := hm.programs
  obtain ⟨a3, c3, rfl, -⟩ := hm.lps
  obtain ⟨a4, c4, rfl, -⟩ := hm.init
  have HG2 := Lib.hid hg2
  clear hm hg2
  go_wp2_with fail
  have hb := Gr.refl (W2.alloc (.cells #[.int .i64 5, .float .f64 4621819117588971520, .slice a1 a6.delays.length c1, .slice a2 a6.programs.length c2, .slice a3 a6.lps.length c3, .slice a4 a6.init.length c4] 28))
  obtain ⟨K, q0, q1, q2, q3, q4, q5⟩ := After.box6 hb
  have hW' := HW.out.trans (HG2.out.trans ((Gr.refl W2).alloc (.cells #[.int .i64 5, .float .f64 4621819117588971520, .slice a1 a6.delays.length c1, .slice a2 a6.programs.length c2, .slice a3 a6.lps.length c3, .slice a4 a6.init.length c4] 28)))
  obtain ⟨K', r0, r1, r2, r3, r4, r5⟩ := After.box6 hW'
  have HK := Lib.hid K
  have HK' := Lib.hid K'
  have HW2 := Lib.hid hW'
  clear K K' hW'
  refine wp_region_grow _ hb mixed (by kernel_rfl) ?_
  repeat (go_big_quiet_step (first
    | (go_at_call 95; exact After.calls (refI_any _ _))
    | (go_at_call 36; with_reducible exact After.calls (sameA6_any _ _ _ _ _ _ _ _ _ (HM2.out.gr (HK.out _)) (HM0.out.gr (HW2.out.trans (After.h _)))))))
  refine wpQuiet_nil ?_
  intro _ hw'
  obtain ⟨x, rfl⟩ := hw'
  go_wp2
  go_ret
  exact ⟨by simp, HGX.out.trans (HK'.out x)⟩
end Go.Proofs.Ytkoopobfelcgpaa
end -- F2

section -- F3
/- layer 6: the laws' walks: ModelioPuts -/
set_option linter.unusedSimpArgs false
set_option linter.unusedVariables false
namespace Go.Proofs.Ytkoopobfelcgpaa
open Go.RowKit

theorem putBad_any (m : PModel) (vd vp vl vi : Value) (w : World) (h : ModelAt w vd vp vl vi m) (hc : checkB m = false) :
    Calls Try.prog 40 #[.agg #[.int .i64 m.seed, .float .f64 m.fin, vd, vp, vl, vi]] w fun e w' => e = .returned (.tuple #[.string ⟨#[]⟩, .int .i64 15]) ∧ Gr w w' := by
  have h1 := Put_any m vd vp vl vi w h
  rw [show putS m = ⟨#[]⟩ by simp [putS, hc], show checkE m = 15 by simp [checkE, hc]] at h1
  exact h1
theorem putOk_any (m : PModel) (vd vp vl vi : Value) (w : World) (h : ModelAt w vd vp vl vi m) (hc : checkB m = true) :
    Calls Try.prog 40 #[.agg #[.int .i64 m.seed, .float .f64 m.fin, vd, vp, vl, vi]] w fun e w' => e = .returned (.tuple #[.string (S8 (lay m)), .int .i64 0]) ∧ Gr w w' := by
  have h1 := Put_any m vd vp vl vi w h
  rw [show putS m = S8 (lay m) by simp [putS, hc], show checkE m = 0 by simp [checkE, hc]] at h1
  exact h1
theorem rcheckIs_any (m : PModel) (vd vp vl vi : Value) (w : World) (h : ModelAt w vd vp vl vi m) (k : Int) (hk : checkE m = k) :
    Calls Try.prog 32 #[.agg #[.int .i64 m.seed, .float .f64 m.fin, vd, vp, vl, vi]] w fun e w' => e = .returned (.int .i64 k) ∧ Gr w w' := by
  have h1 := RCheck_any m vd vp vl vi w h
  rw [hk] at h1
  exact h1

set_option maxHeartbeats 4000000 in
set_option maxRecDepth 100000 in
theorem ModelioPuts_any (m : PModel) (vd vp vl vi : Value) (w : World) (h : ModelAt w vd vp vl vi m) :
    Calls Try.prog 8 #[.agg #[.int .i64 m.seed, .float .f64 m.fin, vd, vp, vl, vi]] w fun e w' => e = .returned (.bool true) ∧ Gr w w' := by
  have Q := Lib.hid h
  obtain ⟨ad, cd, rfl, -⟩ := h.delays
  obtain ⟨ap, cp, rfl, -⟩ := h.programs
  obtain ⟨al, cl, rfl, -⟩ := h.lps
  obtain ⟨ai, ci, rfl, -⟩ := h.init
  clear h
  have hb := Gr.refl (w.alloc (.cells #[.int .i64 m.seed, .float .f64 m.fin, .slice ad m.delays.length cd, .slice ap m.programs.length cp, .slice al m.lps.length cl, .slice ai m.init.length ci] 28))
  obtain ⟨K, q0, q1, q2, q3, q4, q5⟩ := After.box6 hb
  have HK := Lib.hid K
  clear K
  cases hl : lightB 10 20 60 60 100 60 m
  case false =>
    have HL := Lib.hid hl
    clear hl
    go_enter Try.func8, Try.ntmps8
    go_wp2_with (first
      | (go_at_call 38; refine (Calls.to (light6_any m _ _ _ _ _ (Q.out.gr (HK.out ⟨_, hb⟩))) (boolv HL.out)).mono ?_; rintro e w' ⟨rfl, hg⟩)
      | (go_at_call 39; refine (awake6_any _).mono ?_; rintro e w'' ⟨rfl, hg'⟩))
    go_ret
    exact ⟨rfl, (HK.out ⟨_, hg⟩).trans hg'⟩
  case true =>
    have HL := Lib.hid hl
    clear hl
    cases hc : checkB m
    case false =>
      have HC := Lib.hid hc
      have HE := Lib.hid (show checkE m = 15 by simp [checkE, hc])
      clear hc
      go_enter Try.func8, Try.ntmps8
      go_wp2_with (first
        | (go_at_call 38; refine (Calls.to (light6_any m _ _ _ _ _ (Q.out.gr (HK.out ⟨_, hb⟩))) (boolv HL.out)).mono ?_; rintro e w' ⟨rfl, hg⟩
           have HG1 := Lib.hid hg
           have z0 : w'.cell? ⟨w.heap.size, 0, none⟩ = some (.int .i64 m.seed) := q0 ⟨_, hg⟩
           have z1 : w'.cell? ⟨w.heap.size, 1, none⟩ = some (.float .f64 m.fin) := q1 ⟨_, hg⟩
           have z2 : w'.cell? ⟨w.heap.size, 2, none⟩ = some (.slice ad m.delays.length cd) := q2 ⟨_, hg⟩
           have z3 : w'.cell? ⟨w.heap.size, 3, none⟩ = some (.slice ap m.programs.length cp) := q3 ⟨_, hg⟩
           have z4 : w'.cell? ⟨w.heap.size, 4, none⟩ = some (.slice al m.lps.length cl) := q4 ⟨_, hg⟩
           have z5 : w'.cell? ⟨w.heap.size, 5, none⟩ = some (.slice ai m.init.length ci) := q5 ⟨_, hg⟩
           clear hg)
        | (go_at_call 40; refine (putBad_any m _ _ _ _ _ (Q.out.gr (HK.out ⟨_, HG1.out⟩)) HC.out).mono ?_; rintro e w2 ⟨rfl, hg⟩
           have HG2 := Lib.hid (HG1.out.trans hg)
           have z0 : w2.cell? ⟨w.heap.size, 0, none⟩ = some (.int .i64 m.seed) := q0 ⟨_, HG2.out⟩
           have z1 : w2.cell? ⟨w.heap.size, 1, none⟩ = some (.float .f64 m.fin) := q1 ⟨_, HG2.out⟩
           have z2 : w2.cell? ⟨w.heap.size, 2, none⟩ = some (.slice ad m.delays.length cd) := q2 ⟨_, HG2.out⟩
           have z3 : w2.cell? ⟨w.heap.size, 3, none⟩ = some (.slice ap m.programs.length cp) := q3 ⟨_, HG2.out⟩
           have z4 : w2.cell? ⟨w.heap.size, 4, none⟩ = some (.slice al m.lps.length cl) := q4 ⟨_, HG2.out⟩
           have z5 : w2.cell? ⟨w.heap.size, 5, none⟩ = some (.slice ai m.init.length ci) := q5 ⟨_, HG2.out⟩
           clear hg)
        | (go_at_call 32; refine (rcheckIs_any m _ _ _ _ _ (Q.out.gr (HK.out ⟨_, HG2.out⟩)) 15 HE.out).mono ?_; rintro e w3 ⟨rfl, hg⟩
           have HG3 := Lib.hid (HG2.out.trans hg)
           clear hg)
        | (go_at_call 39; refine (awake6_any _).mono ?_; rintro e w4 ⟨rfl, hg⟩
           have HG4 := Lib.hid (HG3.out.trans hg)
           clear hg))
      go_ret
      exact ⟨by simp, HK.out ⟨_, HG4.out⟩⟩
    case true =>
      have HC := Lib.hid hc
      have HE := Lib.hid (show checkE m = 0 by simp [checkE, hc])
      clear hc
      go_enter Try.func8, Try.ntmps8
      go_wp2_with (first
        | (go_at_call 38; refine (Calls.to (light6_any m _ _ _ _ _ (Q.out.gr (HK.out ⟨_, hb⟩))) (boolv HL.out)).mono ?_; rintro e w' ⟨rfl, hg⟩
           have HG1 := Lib.hid hg
           have z0 : w'.cell? ⟨w.heap.size, 0, none⟩ = some (.int .i64 m.seed) := q0 ⟨_, hg⟩
           have z1 : w'.cell? ⟨w.heap.size, 1, none⟩ = some (.float .f64 m.fin) := q1 ⟨_, hg⟩
           have z2 : w'.cell? ⟨w.heap.size, 2, none⟩ = some (.slice ad m.delays.length cd) := q2 ⟨_, hg⟩
           have z3 : w'.cell? ⟨w.heap.size, 3, none⟩ = some (.slice ap m.programs.length cp) := q3 ⟨_, hg⟩
           have z4 : w'.cell? ⟨w.heap.size, 4, none⟩ = some (.slice al m.lps.length cl) := q4 ⟨_, hg⟩
           have z5 : w'.cell? ⟨w.heap.size, 5, none⟩ = some (.slice ai m.init.length ci) := q5 ⟨_, hg⟩
           clear hg)
        | (go_at_call 40; refine (putOk_any m _ _ _ _ _ (Q.out.gr (HK.out ⟨_, HG1.out⟩)) HC.out).mono ?_; rintro e w2 ⟨rfl, hg⟩
           have HG2 := Lib.hid (HG1.out.trans hg)
           have z0 : w2.cell? ⟨w.heap.size, 0, none⟩ = some (.int .i64 m.seed) := q0 ⟨_, HG2.out⟩
           have z1 : w2.cell? ⟨w.heap.size, 1, none⟩ = some (.float .f64 m.fin) := q1 ⟨_, HG2.out⟩
           have z2 : w2.cell? ⟨w.heap.size, 2, none⟩ = some (.slice ad m.delays.length cd) := q2 ⟨_, HG2.out⟩
           have z3 : w2.cell? ⟨w.heap.size, 3, none⟩ = some (.slice ap m.programs.length cp) := q3 ⟨_, HG2.out⟩
           have z4 : w2.cell? ⟨w.heap.size, 4, none⟩ = some (.slice al m.lps.length cl) := q4 ⟨_, HG2.out⟩
           have z5 : w2.cell? ⟨w.heap.size, 5, none⟩ = some (.slice ai m.init.length ci) := q5 ⟨_, HG2.out⟩
           clear hg)
        | (go_at_call 32; refine (rcheckIs_any m _ _ _ _ _ (Q.out.gr (HK.out ⟨_, HG2.out⟩)) 0 HE.out).mono ?_; rintro e w3 ⟨rfl, hg⟩
           have HG3 := Lib.hid (HG2.out.trans hg)
           clear hg)
        | (go_at_call 39; refine (awake6_any _).mono ?_; rintro e w4 ⟨rfl, hg⟩
           have HG4 := Lib.hid (HG3.out.trans hg)
           have z0 : w4.cell? ⟨w.heap.size, 0, none⟩ = some (.int .i64 m.seed) := q0 ⟨_, HG4.out⟩
           have z1 : w4.cell? ⟨w.heap.size, 1, none⟩ = some (.float .f64 m.fin) := q1 ⟨_, HG4.out⟩
           have z2 : w4.cell? ⟨w.heap.size, 2, none⟩ = some (.slice ad m.delays.length cd) := q2 ⟨_, HG4.out⟩
           have z3 : w4.cell? ⟨w.heap.size, 3, none⟩ = some (.slice ap m.programs.length cp) := q3 ⟨_, HG4.out⟩
           have z4 : w4.cell? ⟨w.heap.size, 4, none⟩ = some (.slice al m.lps.length cl) := q4 ⟨_, HG4.out⟩
           have z5 : w4.cell? ⟨w.heap.size, 5, none⟩ = some (.slice ai m.init.length ci) := q5 ⟨_, HG4.out⟩
           clear hg)
        | (go_at_call 41; refine (Lay_any m _ _ _ _ _ (Q.out.gr (HK.out ⟨_, HG4.out⟩)) (sized_of HC.out)).mono ?_; rintro e w5 ⟨rfl, hg⟩
           have HG5 := Lib.hid (HG4.out.trans hg)
           clear hg))
      go_ret
      exact ⟨by simp, HK.out ⟨_, HG5.out⟩⟩
end Go.Proofs.Ytkoopobfelcgpaa
end -- F3

section -- F4
/- layer 6: the laws' walks: ModelioGets, ModelioBack -/
set_option linter.unusedSimpArgs false
set_option linter.unusedVariables false
namespace Go.Proofs.Ytkoopobfelcgpaa
open Go.RowKit

theorem rsameSelf_any (m : PModel) (v1 v2 v3 v4 u1 u2 u3 u4 : Value) (w : World) (h : ModelAt w v1 v2 v3 v4 m) (h' : ModelAt w u1 u2 u3 u4 m) :
    Calls Try.prog 36 #[.agg #[.int .i64 m.seed, .float .f64 m.fin, v1, v2, v3, v4], .agg #[.int .i64 m.seed, .float .f64 m.fin, u1, u2, u3, u4]] w fun e w' => e = .returned (.bool true) ∧ Gr w w' := by
  have h1 := RSame_any m m v1 v2 v3 v4 u1 u2 u3 u4 w h h'
  rw [sameB_refl] at h1
  exact h1
set_option maxHeartbeats 4000000 in
set_option maxRecDepth 100000 in
theorem ModelioGets_any (s : ByteArray) (w : World) : Calls Try.prog 9 #[.string s] w fun e w' => e = .returned (.bool true) ∧ Gr w w' := by
  by_cases hsz : 9000 < s.size
  · go_enter Try.func9, Try.ntmps9
    go_wp2_with (go_at_call 39; refine (awake6_any _).mono ?_; rintro e w'' ⟨rfl, hg'⟩)
    go_ret
    exact ⟨rfl, hg'⟩
  · have hs : s.size ≤ 1099511627776 := by omega
    go_enter Try.func9, Try.ntmps9
    go_wp2_with (first
      | (go_at_call 42
         refine (Get_any s _ hs).mono ?_
         rintro e w1 ⟨v1, v2, v3, v4, rfl, hm, hg⟩
         have HM1 := Lib.hid hm
         obtain ⟨a1, c1, rfl, -⟩ := hm.delays
         obtain ⟨a2, c2, rfl, -⟩ := hm.programs
         obtain ⟨a3, c3, rfl, -⟩ := hm.lps
         obtain ⟨a4, c4, rfl, -⟩ := hm.init
         have HG1 := Lib.hid hg
         have HO1 := Lib.hid (Out.new (w := w1) (T := 28) (cs := [.int .i64 (getM s).1.seed, .float .f64 (getM s).1.fin, .slice a1 (getM s).1.delays.length c1, .slice a2 (getM s).1.programs.length c2, .slice a3 (getM s).1.lps.length c3, .slice a4 (getM s).1.init.length c4]))
         clear hm hg)
      | (go_at_call 43
         refine (RGet_any s _ hs).mono ?_
         rintro e w2 ⟨v1, v2, v3, v4, rfl, hm, hg⟩
         have HM2 := Lib.hid hm
         obtain ⟨b1, d1, rfl, -⟩ := hm.delays
         obtain ⟨b2, d2, rfl, -⟩ := hm.programs
         obtain ⟨b3, d3, rfl, -⟩ := hm.lps
         obtain ⟨b4, d4, rfl, -⟩ := hm.init
         have HG2 := Lib.hid hg
         have HO2 := Lib.hid (Out.new (w := w2) (T := 28) (cs := [.int .i64 (getM s).1.seed, .float .f64 (getM s).1.fin, .slice b1 (getM s).1.delays.length d1, .slice b2 (getM s).1.programs.length d2, .slice b3 (getM s).1.lps.length d3, .slice b4 (getM s).1.init.length d4]))
         have HO1b := Lib.hid ((Out.gr HO1.out hg).alloc (.cells #[.int .i64 (getM s).1.seed, .float .f64 (getM s).1.fin, .slice b1 (getM s).1.delays.length d1, .slice b2 (getM s).1.programs.length d2, .slice b3 (getM s).1.lps.length d3, .slice b4 (getM s).1.init.length d4] 28))
         clear hm hg)
      | (go_at_call 39
         refine (awake6_any _).mono ?_
         rintro e w3 ⟨rfl, hg⟩
         have HG3 := Lib.hid (show Gr w2 w3 from ((Gr.refl w2).alloc _).trans hg)
         have HO1c := Lib.hid (Out.gr HO1b.out hg)
         have HO2c := Lib.hid (Out.gr HO2.out hg)
         have x0 : w3.cell? ⟨w1.heap.size, 0, none⟩ = some (.int .i64 (getM s).1.seed) := HO1c.out.cell (i := 0) rfl
         have x1 : w3.cell? ⟨w1.heap.size, 1, none⟩ = some (.float .f64 (getM s).1.fin) := HO1c.out.cell (i := 1) rfl
         have x2 : w3.cell? ⟨w1.heap.size, 2, none⟩ = some (.slice a1 (getM s).1.delays.length c1) := HO1c.out.cell (i := 2) rfl
         have x3 : w3.cell? ⟨w1.heap.size, 3, none⟩ = some (.slice a2 (getM s).1.programs.length c2) := HO1c.out.cell (i := 3) rfl
         have x4 : w3.cell? ⟨w1.heap.size, 4, none⟩ = some (.slice a3 (getM s).1.lps.length c3) := HO1c.out.cell (i := 4) rfl
         have x5 : w3.cell? ⟨w1.heap.size, 5, none⟩ = some (.slice a4 (getM s).1.init.length c4) := HO1c.out.cell (i := 5) rfl
         have y0 : w3.cell? ⟨w2.heap.size, 0, none⟩ = some (.int .i64 (getM s).1.seed) := HO2c.out.cell (i := 0) rfl
         have y1 : w3.cell? ⟨w2.heap.size, 1, none⟩ = some (.float .f64 (getM s).1.fin) := HO2c.out.cell (i := 1) rfl
         have y2 : w3.cell? ⟨w2.heap.size, 2, none⟩ = some (.slice b1 (getM s).1.delays.length d1) := HO2c.out.cell (i := 2) rfl
         have y3 : w3.cell? ⟨w2.heap.size, 3, none⟩ = some (.slice b2 (getM s).1.programs.length d2) := HO2c.out.cell (i := 3) rfl
         have y4 : w3.cell? ⟨w2.heap.size, 4, none⟩ = some (.slice b3 (getM s).1.lps.length d3) := HO2c.out.cell (i := 4) rfl
         have y5 : w3.cell? ⟨w2.heap.size, 5, none⟩ = some (.slice b4 (getM s).1.init.length d4) := HO2c.out.cell (i := 5) rfl
         clear hg)
      | (go_at_call 36
         refine (rsameSelf_any (getM s).1 _ _ _ _ _ _ _ _ _ (HM1.out.gr ((((Gr.refl w1).alloc _).trans HG2.out).trans HG3.out)) (HM2.out.gr HG3.out)).mono ?_
         rintro e w4 ⟨rfl, hg⟩
         have HG4 := Lib.hid hg
         clear hg))
    go_ret
    exact ⟨by simp, ((((HG1.out.alloc _).trans HG2.out).trans HG3.out).trans HG4.out)⟩
end Go.Proofs.Ytkoopobfelcgpaa
end -- F4

section -- F5
/- layer 6: the laws' walks: ModelioBack; an argument that is a string -/
set_option linter.unusedSimpArgs false
set_option linter.unusedVariables false
namespace Go.Proofs.Ytkoopobfelcgpaa
open Go.ChangeShapes Go.WideShapes Go.ChangeAt Go.RowKit Go.Deep

set_option maxRecDepth 100000
section
variable {H : Type} {enc : TypeId × Value → H} {w : World} {base : Nat} {spare : Nat → Bool} {held : Bool}
theorem arg_string {r : Reach} {b0 : Nat} {v : Value} {d : DataW H} {p : List MemPlace} (hv : Value.okWide Try.prog w r b0 9 v) (h : DataW.Trod enc Try.prog w base spare held 9 v d p) : ∃ s : ByteArray, v = .string s ∧ s.size ≤ maxLen := by
  obtain ⟨s, rfl⟩ := okWide_string Try.underlying9 hv
  obtain ⟨fuel, hf⟩ := h
  obtain ⟨s', e, -, hs⟩ := DataW.trod_string Try.underlying9 hf
  simp [Value.cells] at e
  subst e
  exact ⟨s, rfl, hs⟩
end
theorem w_of {m : PModel} (h : m.wf) : m.w := by
  obtain ⟨h1, h2, h3, h4, h5, h6⟩ := h
  exact ⟨h1, h2, h3, h4, h5, h6⟩
theorem getBack_any (m : PModel) (hw : m.w) (hc : checkB m = true) (w : World) : Calls Try.prog 42 #[.string (S8 (lay m))] w fun e W => ∃ v1 v2 v3 v4, e = .returned (.tuple #[.agg #[.int .i64 m.seed, .float .f64 m.fin, v1, v2, v3, v4], .int .i64 0]) ∧ ModelAt W v1 v2 v3 v4 m ∧ Gr w W := by
  have hz := lay_sizes (sized_of hc)
  have h1 := Get_any (S8 (lay m)) w (by
    rw [strOfNums_size]
    have := hz.d; have := hz.p; have := hz.l; have := hz.i
    simp only [lay, List.length_append, encA_len, encI_len, be8_len]; omega)
  rw [get_lay m hw hc] at h1
  exact h1
theorem rsameOne_any (m : PModel) (v1 v2 v3 v4 u1 u2 u3 u4 : Value) (w : World) (h : ModelAt w v1 v2 v3 v4 m) (h' : ModelAt w u1 u2 u3 u4 m) :
    Calls Try.prog 36 #[.agg #[.int .i64 m.seed, .float .f64 m.fin, v1, v2, v3, v4], .agg #[.int .i64 m.seed, .float .f64 m.fin, u1, u2, u3, u4]] w fun e w' => e = .returned (.bool true) ∧ Gr w w' := by
  have h1 := RSame_any m m v1 v2 v3 v4 u1 u2 u3 u4 w h h'
  rw [sameB_refl] at h1
  exact h1
set_option maxHeartbeats 4000000 in
set_option maxRecDepth 100000 in
theorem ModelioBack_any (m : PModel) (vd vp vl vi : Value) (w : World) (h : ModelAt w vd vp vl vi m) (hw : m.w) :
    Calls Try.prog 10 #[.agg #[.int .i64 m.seed, .float .f64 m.fin, vd, vp, vl, vi]] w fun e w' => e = .returned (.bool true) ∧ Gr w w' := by
  have Q := Lib.hid h
  have HWF := Lib.hid hw
  obtain ⟨ad, cd, rfl, -⟩ := h.delays
  obtain ⟨ap, cp, rfl, -⟩ := h.programs
  obtain ⟨al, cl, rfl, -⟩ := h.lps
  obtain ⟨ai, ci, rfl, -⟩ := h.init
  clear h hw
  have hb := Gr.refl (w.alloc (.cells #[.int .i64 m.seed, .float .f64 m.fin, .slice ad m.delays.length cd, .slice ap m.programs.length cp, .slice al m.lps.length cl, .slice ai m.init.length ci] 28))
  obtain ⟨K, q0, q1, q2, q3, q4, q5⟩ := After.box6 hb
  have HK := Lib.hid K
  clear K
  cases hl : lightB 10 20 60 60 100 60 m
  case false =>
    have HL := Lib.hid hl
    clear hl
    go_enter Try.func10, Try.ntmps10
    go_wp2_with (first
      | (go_at_call 38; refine (Calls.to (light6_any m _ _ _ _ _ (Q.out.gr (HK.out ⟨_, hb⟩))) (boolv HL.out)).mono ?_; rintro e w' ⟨rfl, hg⟩)
      | (go_at_call 39; refine (awake6_any _).mono ?_; rintro e w'' ⟨rfl, hg'⟩))
    go_ret
    exact ⟨rfl, (HK.out ⟨_, hg⟩).trans hg'⟩
  case true =>
    have HL := Lib.hid hl
    clear hl
    cases hc : checkB m
    case false =>
      have HC := Lib.hid hc
      clear hc
      go_enter Try.func10, Try.ntmps10
      go_wp2_with (first
        | (go_at_call 38; refine (Calls.to (light6_any m _ _ _ _ _ (Q.out.gr (HK.out ⟨_, hb⟩))) (boolv HL.out)).mono ?_; rintro e w' ⟨rfl, hg⟩
           have HG1 := Lib.hid hg
           have z0 : w'.cell? ⟨w.heap.size, 0, none⟩ = some (.int .i64 m.seed) := q0 ⟨_, hg⟩
           have z1 : w'.cell? ⟨w.heap.size, 1, none⟩ = some (.float .f64 m.fin) := q1 ⟨_, hg⟩
           have z2 : w'.cell? ⟨w.heap.size, 2, none⟩ = some (.slice ad m.delays.length cd) := q2 ⟨_, hg⟩
           have z3 : w'.cell? ⟨w.heap.size, 3, none⟩ = some (.slice ap m.programs.length cp) := q3 ⟨_, hg⟩
           have z4 : w'.cell? ⟨w.heap.size, 4, none⟩ = some (.slice al m.lps.length cl) := q4 ⟨_, hg⟩
           have z5 : w'.cell? ⟨w.heap.size, 5, none⟩ = some (.slice ai m.init.length ci) := q5 ⟨_, hg⟩
           clear hg)
        | (go_at_call 40; refine (putBad_any m _ _ _ _ _ (Q.out.gr (HK.out ⟨_, HG1.out⟩)) HC.out).mono ?_; rintro e w2 ⟨rfl, hg⟩
           have HG2 := Lib.hid (HG1.out.trans hg)
           clear hg)
        | (go_at_call 39; refine (awake6_any _).mono ?_; rintro e w4 ⟨rfl, hg⟩
           have HG4 := Lib.hid (HG2.out.trans hg)
           clear hg))
      go_ret
      exact ⟨by simp, HK.out ⟨_, HG4.out⟩⟩
    case true =>
      have HC := Lib.hid hc
      clear hc
      go_enter Try.func10, Try.ntmps10
      go_wp2_with (first
        | (go_at_call 38; refine (Calls.to (light6_any m _ _ _ _ _ (Q.out.gr (HK.out ⟨_, hb⟩))) (boolv HL.out)).mono ?_; rintro e w' ⟨rfl, hg⟩
           have HG1 := Lib.hid hg
           have z0 : w'.cell? ⟨w.heap.size, 0, none⟩ = some (.int .i64 m.seed) := q0 ⟨_, hg⟩
           have z1 : w'.cell? ⟨w.heap.size, 1, none⟩ = some (.float .f64 m.fin) := q1 ⟨_, hg⟩
           have z2 : w'.cell? ⟨w.heap.size, 2, none⟩ = some (.slice ad m.delays.length cd) := q2 ⟨_, hg⟩
           have z3 : w'.cell? ⟨w.heap.size, 3, none⟩ = some (.slice ap m.programs.length cp) := q3 ⟨_, hg⟩
           have z4 : w'.cell? ⟨w.heap.size, 4, none⟩ = some (.slice al m.lps.length cl) := q4 ⟨_, hg⟩
           have z5 : w'.cell? ⟨w.heap.size, 5, none⟩ = some (.slice ai m.init.length ci) := q5 ⟨_, hg⟩
           clear hg)
        | (go_at_call 40; refine (putOk_any m _ _ _ _ _ (Q.out.gr (HK.out ⟨_, HG1.out⟩)) HC.out).mono ?_; rintro e w2 ⟨rfl, hg⟩
           have HG2 := Lib.hid (HG1.out.trans hg)
           clear hg)
        | (go_at_call 42; refine (getBack_any m HWF.out HC.out _).mono ?_; rintro e w3 ⟨v1, v2, v3, v4, rfl, hm, hg⟩
           have HM := Lib.hid hm
           obtain ⟨a1, c1, rfl, -⟩ := hm.delays
           obtain ⟨a2, c2, rfl, -⟩ := hm.programs
           obtain ⟨a3, c3, rfl, -⟩ := hm.lps
           obtain ⟨a4, c4, rfl, -⟩ := hm.init
           have HG3 := Lib.hid (HG2.out.trans hg)
           have HO := Lib.hid (Out.new (w := w3) (T := 28) (cs := [.int .i64 m.seed, .float .f64 m.fin, .slice a1 m.delays.length c1, .slice a2 m.programs.length c2, .slice a3 m.lps.length c3, .slice a4 m.init.length c4]))
           clear hm hg)
        | (go_at_call 39; refine (awake6_any _).mono ?_; rintro e w4 ⟨rfl, hg⟩
           have HG34 := Lib.hid (show Gr w3 w4 from ((Gr.refl w3).alloc _).trans hg)
           have HG4 := Lib.hid (HG3.out.trans HG34.out)
           have HO4 := Lib.hid (Out.gr HO.out hg)
           have z0 : w4.cell? ⟨w.heap.size, 0, none⟩ = some (.int .i64 m.seed) := q0 ⟨_, HG4.out⟩
           have z1 : w4.cell? ⟨w.heap.size, 1, none⟩ = some (.float .f64 m.fin) := q1 ⟨_, HG4.out⟩
           have z2 : w4.cell? ⟨w.heap.size, 2, none⟩ = some (.slice ad m.delays.length cd) := q2 ⟨_, HG4.out⟩
           have z3 : w4.cell? ⟨w.heap.size, 3, none⟩ = some (.slice ap m.programs.length cp) := q3 ⟨_, HG4.out⟩
           have z4 : w4.cell? ⟨w.heap.size, 4, none⟩ = some (.slice al m.lps.length cl) := q4 ⟨_, HG4.out⟩
           have z5 : w4.cell? ⟨w.heap.size, 5, none⟩ = some (.slice ai m.init.length ci) := q5 ⟨_, HG4.out⟩
           have x0 : w4.cell? ⟨w3.heap.size, 0, none⟩ = some (.int .i64 m.seed) := HO4.out.cell (i := 0) rfl
           have x1 : w4.cell? ⟨w3.heap.size, 1, none⟩ = some (.float .f64 m.fin) := HO4.out.cell (i := 1) rfl
           have x2 : w4.cell? ⟨w3.heap.size, 2, none⟩ = some (.slice a1 m.delays.length c1) := HO4.out.cell (i := 2) rfl
           have x3 : w4.cell? ⟨w3.heap.size, 3, none⟩ = some (.slice a2 m.programs.length c2) := HO4.out.cell (i := 3) rfl
           have x4 : w4.cell? ⟨w3.heap.size, 4, none⟩ = some (.slice a3 m.lps.length c3) := HO4.out.cell (i := 4) rfl
           have x5 : w4.cell? ⟨w3.heap.size, 5, none⟩ = some (.slice a4 m.init.length c4) := HO4.out.cell (i := 5) rfl
           clear hg)
        | (go_at_call 36; refine (rsameOne_any m _ _ _ _ _ _ _ _ _ (HM.out.gr HG34.out) (Q.out.gr (HK.out ⟨_, HG4.out⟩))).mono ?_; rintro e w5 ⟨rfl, hg⟩
           have HG5 := Lib.hid (HG4.out.trans hg)
           clear hg))
      go_ret
      exact ⟨by simp, HK.out ⟨_, HG5.out⟩⟩
end Go.Proofs.Ytkoopobfelcgpaa
end -- F5

section -- G1
/- layer 6: the plain law: what is got puts to the same bytes -/
set_option linter.unusedSimpArgs false
set_option linter.unusedVariables false
namespace Go.Proofs.Ytkoopobfelcgpaa
open Go.RowKit Go.Proofs.YtkoopobfelcgpaaW.PrintWords Go.Proofs.YtkoopobfelcgpaaW.PrintMore

theorem bt_range (s : ByteArray) (i : Int) : 0 ≤ bt s i ∧ bt s i ≤ 255 := by
  unfold bt
  split
  · have := (s[i.toNat]).toNat_lt; constructor <;> omega
  · decide
theorem be8_of (a b c d e f g h : Int) (ha : 0 ≤ a ∧ a ≤ 255) (hb : 0 ≤ b ∧ b ≤ 255) (hc : 0 ≤ c ∧ c ≤ 255) (hd : 0 ≤ d ∧ d ≤ 255) (he : 0 ≤ e ∧ e ≤ 255) (hf : 0 ≤ f ∧ f ≤ 255) (hg : 0 ≤ g ∧ g ≤ 255) (hh : 0 ≤ h ∧ h ≤ 255) :
    be8 (((((((a * 256 + b) * 256 + c) * 256 + d) * 256 + e) * 256 + f) * 256 + g) * 256 + h) = [a, b, c, d, e, f, g, h] := by
  unfold be8
  simp only [List.cons.injEq, and_true]
  refine ⟨?_, ?_, ?_, ?_, ?_, ?_, ?_, ?_⟩ <;> omega
/-- from p on, s has the bytes l -/
def Has (s : ByteArray) (p : Nat) (l : List Int) : Prop := p + l.length ≤ s.size ∧ ∀ i x, l[i]? = some x → bt s ((p : Int) + (i : Nat)) = x
theorem Has.append {s : ByteArray} {p : Nat} {a b : List Int} (h : Has s p a) (k : Has s (p + a.length) b) : Has s p (a ++ b) := by
  refine ⟨by have := k.1; rw [List.length_append]; omega, fun i x hx => ?_⟩
  rcases Nat.lt_or_ge i a.length with g | g
  · rw [List.getElem?_append_left g] at hx; exact h.2 i x hx
  · rw [List.getElem?_append_right g] at hx
    have := k.2 _ x hx
    rw [← this]
    congr 1
    omega
theorem Has.nil {s : ByteArray} {p : Nat} (h : p ≤ s.size) : Has s p [] := ⟨by simpa using h, fun i x hx => by simp at hx⟩
theorem rdU_be8 (s : ByteArray) (p : Nat) (h : p + 8 ≤ s.size) : Has s p (be8 (rdU s p)) := by
  unfold rdU
  rw [be8_of _ _ _ _ _ _ _ _ (bt_range s _) (bt_range s _) (bt_range s _) (bt_range s _) (bt_range s _) (bt_range s _) (bt_range s _) (bt_range s _)]
  refine ⟨by simpa using h, fun i x hx => ?_⟩
  match i, hx with
  | 0, hx => simpa using hx
  | 1, hx => simpa using hx
  | 2, hx => simpa using hx
  | 3, hx => simpa using hx
  | 4, hx => simpa using hx
  | 5, hx => simpa using hx
  | 6, hx => simpa using hx
  | 7, hx => simpa using hx
  | i + 8, hx => simp at hx
theorem readU_ok (s : ByteArray) (p : Nat) (h : (readU s p).2.2 = 0) : p + 8 ≤ s.size ∧ readU s p = (rdU s p, (p : Int) + 8, 0) := by
  unfold readU at h ⊢
  by_cases h1 : (p : Int) < 0 ∨ (s.size : Int) < p
  · rw [if_pos h1] at h; cases h
  · rw [if_neg h1] at h ⊢
    by_cases h2 : (s.size : Int) - p < 8
    · rw [if_pos h2] at h; cases h
    · rw [if_neg h2]; exact ⟨by omega, rfl⟩
/-- what one reads well is what f lays; a reader in error stays so -/
structure Takes {α : Type} (s : ByteArray) (one : Rd → α × Rd) (f : α → List Int) (P : α → Prop) : Prop where
  ok : ∀ p : Nat, (one ⟨p, 0⟩).2.e = 0 → (one ⟨p, 0⟩).2.p = ((p + (f (one ⟨p, 0⟩).1).length : Nat) : Int) ∧ Has s p (f (one ⟨p, 0⟩).1) ∧ P (one ⟨p, 0⟩).1
  stick : ∀ r, r.e ≠ 0 → (one r).2.e ≠ 0
theorem Rd.is {r : Rd} {q : Int} (h : r.p = q) (he : r.e = 0) : r = ⟨q, 0⟩ := by cases r; simp_all
theorem takes_int (s : ByteArray) : Takes s (rdInt s) encI I64 where
  ok p h := by
    unfold rdInt at h ⊢
    rw [if_pos rfl] at h ⊢
    dsimp only at h ⊢
    unfold readI at h ⊢
    by_cases hu : (readU s p).2.2 = 0
    · rw [if_pos hu]
      obtain ⟨h8, e⟩ := readU_ok s p hu
      rw [e]
      dsimp only
      have hr := rdU_range s p
      have e2 : encI (rdU s p - 9223372036854775808) = be8 (rdU s p) := by
        unfold encI
        congr 1
        omega
      rw [e2]
      exact ⟨by rw [be8_len]; omega, rdU_be8 s p h8, by unfold I64; omega⟩
    · rw [if_neg hu] at h; exact absurd h hu
  stick r h := by unfold rdInt; rw [if_neg h]; exact h
theorem takes_float (s : ByteArray) : Takes s (rdFloat s) encF (· < 18446744073709551616) where
  ok p h := by
    unfold rdFloat at h ⊢
    rw [if_pos rfl] at h ⊢
    dsimp only at h ⊢
    obtain ⟨h8, e⟩ := readU_ok s p h
    rw [e]
    dsimp only
    have hr := rdU_range s p
    have e2 : encF (rdU s p).toNat = be8 (rdU s p) := by
      unfold encF
      congr 1
      omega
    rw [e2]
    exact ⟨by rw [be8_len]; omega, rdU_be8 s p h8, by omega⟩
  stick r h := by unfold rdFloat; rw [if_neg h]; exact h
/-- one reading after another -/
theorem Takes.two {α β : Type} {s : ByteArray} {o1 : Rd → α × Rd} {o2 : Rd → β × Rd} {f1 : α → List Int} {f2 : β → List Int} {P1 : α → Prop} {P2 : β → Prop} (t1 : Takes s o1 f1 P1) (t2 : Takes s o2 f2 P2) :
    Takes s (fun r => (((o1 r).1, (o2 (o1 r).2).1), (o2 (o1 r).2).2)) (fun x => f1 x.1 ++ f2 x.2) (fun x => P1 x.1 ∧ P2 x.2) where
  ok p h := by
    dsimp only at h ⊢
    have h1 : (o1 ⟨p, 0⟩).2.e = 0 := Classical.byContradiction fun g => t2.stick _ g h
    obtain ⟨a1, a2, a3⟩ := t1.ok p h1
    have e := Rd.is a1 h1
    rw [e] at h ⊢
    obtain ⟨b1, b2, b3⟩ := t2.ok _ h
    exact ⟨by rw [b1, List.length_append]; omega, a2.append b2, a3, b3⟩
  stick r h := t2.stick _ (t1.stick _ h)
theorem Takes.map {α β : Type} {s : ByteArray} {o : Rd → α × Rd} {f : α → List Int} {P : α → Prop} (t : Takes s o f P) (g : α → β) {o' : Rd → β × Rd} {f' : β → List Int} {Q : β → Prop}
    (ho : ∀ r, o' r = (g (o r).1, (o r).2)) (hf : ∀ x, f' (g x) = f x) (hQ : ∀ x, P x → Q (g x)) : Takes s o' f' Q where
  ok p h := by
    rw [ho] at h ⊢
    obtain ⟨a1, a2, a3⟩ := t.ok p h
    dsimp only
    rw [hf]
    exact ⟨a1, a2, hQ _ a3⟩
  stick r h := by rw [ho]; exact t.stick r h
theorem rep_takes {α : Type} {s : ByteArray} {one : Rd → α × Rd} {f : α → List Int} {P : α → Prop} (t : Takes s one f P) : ∀ (k p : Nat), p ≤ s.size → (rep one k ⟨p, 0⟩).2.e = 0 →
    (rep one k ⟨p, 0⟩).1.length = k ∧ (rep one k ⟨p, 0⟩).2.p = ((p + ((rep one k ⟨p, 0⟩).1.flatMap f).length : Nat) : Int) ∧ Has s p ((rep one k ⟨p, 0⟩).1.flatMap f) ∧ ∀ x ∈ (rep one k ⟨p, 0⟩).1, P x
  | 0, p, hp, _ => ⟨rfl, by simp [rep], Has.nil hp, by simp [rep]⟩
  | k + 1, p, hp, h => by
    rw [rep_go _ _ _ rfl] at h ⊢
    dsimp only at h ⊢
    have h1 : (one ⟨p, 0⟩).2.e = 0 := Classical.byContradiction fun g => by rw [rep_stop _ _ _ (.inr g)] at h; exact g h
    obtain ⟨a1, a2, a3⟩ := t.ok p h1
    have e := Rd.is a1 h1
    rw [e] at h ⊢
    obtain ⟨b0, b1, b2, b3⟩ := rep_takes t k _ a2.1 h
    refine ⟨by rw [List.length_cons, b0], ?_, ?_, ?_⟩
    · rw [b1, List.flatMap_cons, List.length_append]; omega
    · rw [List.flatMap_cons]; exact a2.append b2
    · intro x hx
      rcases List.mem_cons.mp hx with rfl | hx
      · exact a3
      · exact b3 x hx
theorem rep_stick {α : Type} {one : Rd → α × Rd} (k : Nat) (r : Rd) (h : r.e ≠ 0) : (rep one k r).2.e ≠ 0 := by rw [rep_stop _ _ _ (.inr h)]; exact h
theorem takes_itms {α : Type} {s : ByteArray} {one : Rd → α × Rd} {f : α → List Int} {P : α → Prop} (t : Takes s one f P) : Takes s (itms s one) (encA f) (fun l => l.length ≤ 48 ∧ ∀ x ∈ l, P x) where
  ok p h := by
    unfold itms at h ⊢
    have h1 : (cnt s ⟨p, 0⟩).2.e = 0 := Classical.byContradiction fun g => rep_stick _ _ g h
    have hc : ¬ ((rdInt s ⟨p, 0⟩).2.e = 0 ∧ ((rdInt s ⟨p, 0⟩).1 < 0 ∨ (rdInt s ⟨p, 0⟩).1 > 48)) := fun g => by unfold cnt at h1; rw [if_pos g] at h1; cases h1
    have ec : cnt s ⟨p, 0⟩ = rdInt s ⟨p, 0⟩ := by unfold cnt; rw [if_neg hc]
    rw [ec] at h h1 ⊢
    obtain ⟨a1, a2, a3⟩ := (takes_int s).ok p h1
    have e := Rd.is a1 h1
    have hn : 0 ≤ (rdInt s ⟨p, 0⟩).1 ∧ (rdInt s ⟨p, 0⟩).1 ≤ 48 := by
      have := fun g => hc ⟨h1, g⟩
      omega
    rw [e] at h ⊢
    obtain ⟨b0, b1, b2, b3⟩ := rep_takes t _ _ a2.1 h
    have el : (((rep one (rdInt s ⟨p, 0⟩).1.toNat ⟨((p + (encI (rdInt s ⟨p, 0⟩).1).length : Nat) : Int), 0⟩).1.length : Nat) : Int) = (rdInt s ⟨p, 0⟩).1 := by rw [b0]; omega
    unfold encA
    rw [el]
    exact ⟨by rw [b1, List.length_append]; omega, a2.append b2, by omega, b3⟩
  stick r h := rep_stick _ _ (by
    unfold cnt
    have := (takes_int s).stick r h
    rw [if_neg (fun g => this g.1)]; exact this)
theorem takes_ins (s : ByteArray) : Takes s (rdIns s) encIns PIns.w :=
  ((takes_int s).two ((takes_int s).two ((takes_int s).two (takes_int s)))).map (fun x => ⟨x.1, x.2.1, x.2.2.1, x.2.2.2⟩) (fun r => rfl) (fun x => by simp [encIns, encL]) (fun x h => ⟨h.1, h.2.1, h.2.2.1, h.2.2.2⟩)
theorem takes_prog (s : ByteArray) : Takes s (rdProg s) encProg (fun l => l.length ≤ 48 ∧ ∀ x ∈ l, PIns.w x) := takes_itms (takes_ins s)
theorem takes_lp (s : ByteArray) : Takes s (rdLP s) encLP PLP.w :=
  ((takes_int s).two (takes_itms (takes_int s))).map (fun x => ⟨x.1, x.2⟩) (fun r => rfl) (fun x => rfl) (fun x h => ⟨h.1, h.2.2⟩)
theorem takes_init (s : ByteArray) : Takes s (rdInit s) encInit PInit.w :=
  ((takes_float s).two ((takes_int s).two (takes_int s))).map (fun x => ⟨x.1, x.2.1, x.2.2⟩) (fun r => rfl) (fun x => by simp [encInit, encL, encF]) (fun x h => ⟨h.1, h.2.1, h.2.2⟩)
theorem Has.all {s : ByteArray} {l : List Int} (h : Has s 0 l) (hl : l.length = s.size) : S8 l = s := by
  have e : (S8 l).data = s.data := by
    refine Array.ext ?_ ?_
    · show (S8 l).size = s.size; rw [strOfNums_size, hl]
    · intro i h1 h2
      have hi : i < l.length := by rw [hl]; exact h2
      have hx := h.2 i l[i] (List.getElem?_eq_getElem hi)
      have hb : bt s ((0 : Nat) + (i : Nat) : Int) = (s.data[i].toNat : Int) := by
        have e0 : ((0 : Nat) + (i : Nat) : Int) = (i : Int) := by omega
        rw [e0]
        unfold bt
        rw [dif_pos (by simpa using h2)]
        rfl
      rw [hb] at hx
      have e1 : (S8 l).data = (l.map fun n => UInt8.ofNat n.toNat).toArray := rfl
      simp only [e1, List.getElem_toArray, List.getElem_map]
      rw [← hx]
      simp
  calc S8 l = ⟨(S8 l).data⟩ := rfl
    _ = ⟨s.data⟩ := by rw [e]
    _ = s := rfl
theorem get_bytes (s : ByteArray) (m : PModel) (h : getM s = (m, 0)) : S8 (lay m) = s ∧ checkB m = true ∧ m.w := by
  unfold getM at h
  by_cases he : (rI s).2.e ≠ 0
  · rw [if_pos he] at h; injection h with _ h; exact absurd h he
  rw [if_neg he] at h
  have he : (rI s).2.e = 0 := by simpa using he
  by_cases hp : (rI s).2.p < s.size
  · rw [if_pos hp] at h; injection h with _ h; cases h
  rw [if_neg hp] at h
  by_cases hc : ¬ checkB (rawM s) = true
  · rw [if_neg hc] at h; injection h with _ h; cases h
  have hc : checkB (rawM s) = true := by simpa using hc
  rw [if_pos hc] at h
  injection h with h _
  subst h
  have T := (takes_int s).two ((takes_float s).two ((takes_itms (takes_float s)).two ((takes_itms (takes_prog s)).two ((takes_itms (takes_lp s)).two (takes_itms (takes_init s))))))
  obtain ⟨a1, a2, a3, a4, a5, a6, a7, a8⟩ := T.ok 0 he
  dsimp only at a1 a2
  have el : ∀ l, l = lay (rawM s) → Has s 0 l → (rI s).2.p = ((0 + l.length : Nat) : Int) → S8 (lay (rawM s)) = s := by
    intro l e h1 h2
    subst e
    refine h1.all ?_
    have := h1.1
    omega
  refine ⟨el _ ?_ a2 a1, hc, ?_⟩
  · unfold lay
    simp only [List.append_assoc]
    rfl
  · exact ⟨a3, a4, a5.2, fun p hp x hx => (a6.2 p hp).2 x hx, a7.2, a8.2⟩
end Go.Proofs.Ytkoopobfelcgpaa
end -- G1

section -- G2
/- layer 6: the laws' walks: ModelioOnce -/
set_option linter.unusedSimpArgs false
set_option linter.unusedVariables false
namespace Go.Proofs.Ytkoopobfelcgpaa
open Go.RowKit

theorem getIs_any (s : ByteArray) (m : PModel) (x : Int) (hm : getM s = (m, x)) (w : World) (hs : s.size ≤ 1099511627776) :
    Calls Try.prog 42 #[.string s] w fun e W => ∃ v1 v2 v3 v4, e = .returned (.tuple #[.agg #[.int .i64 m.seed, .float .f64 m.fin, v1, v2, v3, v4], .int .i64 x]) ∧ ModelAt W v1 v2 v3 v4 m ∧ Gr w W := by
  have h := Get_any s w hs
  rw [hm] at h
  exact h
theorem getM_off (s : ByteArray) (x : Int) (h : (getM s).2 = x) (hx : x ≠ 0) : getM s = (m0, x) := by
  subst h
  unfold getM at hx ⊢
  by_cases he : (rI s).2.e ≠ 0
  · rw [if_pos he]
  rw [if_neg he] at hx ⊢
  by_cases hp : (rI s).2.p < s.size
  · rw [if_pos hp]
  rw [if_neg hp] at hx ⊢
  by_cases hc : checkB (rawM s) = true
  · rw [if_pos hc] at hx; exact absurd rfl hx
  · rw [if_neg hc]
theorem putBack_any (s : ByteArray) (m : PModel) (vd vp vl vi : Value) (w : World) (h : ModelAt w vd vp vl vi m) (hm : getM s = (m, 0)) :
    Calls Try.prog 40 #[.agg #[.int .i64 m.seed, .float .f64 m.fin, vd, vp, vl, vi]] w fun e w' => e = .returned (.tuple #[.string s, .int .i64 0]) ∧ Gr w w' := by
  have h1 := Put_any m vd vp vl vi w h
  obtain ⟨e1, e2, -⟩ := get_bytes s m hm
  have e3 : putS m = s := by unfold putS; rw [if_pos e2, e1]
  have e4 : checkE m = 0 := by unfold checkE; rw [if_pos e2]
  rw [e3, e4] at h1
  exact h1
theorem rsameZero_any (v1 v2 v3 v4 : Value) (w : World) (h : ModelAt w v1 v2 v3 v4 m0) :
    Calls Try.prog 36 #[.agg #[.int .i64 0, .float .f64 0, v1, v2, v3, v4], .agg #[.int .i64 0, .float .f64 0, .slice none 0 0, .slice none 0 0, .slice none 0 0, .slice none 0 0]] w fun e w' => e = .returned (.bool true) ∧ Gr w w' :=
  rsameSelf_any m0 v1 v2 v3 v4 _ _ _ _ w h (m0_at w)
set_option maxHeartbeats 4000000 in
set_option maxRecDepth 100000 in
theorem ModelioOnce_any (s : ByteArray) (w : World) : Calls Try.prog 11 #[.string s] w fun e w' => e = .returned (.bool true) ∧ Gr w w' := by
  by_cases hsz : 9000 < s.size
  · go_enter Try.func11, Try.ntmps11
    go_wp2_with (go_at_call 39; refine (awake6_any _).mono ?_; rintro e w'' ⟨rfl, hg'⟩)
    go_ret
    exact ⟨rfl, hg'⟩
  · have hs : s.size ≤ 1099511627776 := by omega
    by_cases hx : (getM s).2 = 0
    · obtain ⟨m, hm⟩ : ∃ m, getM s = (m, 0) := ⟨(getM s).1, by rw [← hx]⟩
      have HMM := Lib.hid hm
      clear hx hm
      go_enter Try.func11, Try.ntmps11
      go_wp2_with (first
        | (go_at_call 42
           refine (getIs_any s m 0 HMM.out _ hs).mono ?_
           rintro e w1 ⟨v1, v2, v3, v4, rfl, hm, hg⟩
           have HM1 := Lib.hid hm
           obtain ⟨a1, c1, rfl, -⟩ := hm.delays
           obtain ⟨a2, c2, rfl, -⟩ := hm.programs
           obtain ⟨a3, c3, rfl, -⟩ := hm.lps
           obtain ⟨a4, c4, rfl, -⟩ := hm.init
           have HG1 := Lib.hid hg
           clear hm hg)
        | (go_at_call 40
           refine (putBack_any s m _ _ _ _ _ (HM1.out.gr ((Gr.refl w1).alloc _)) HMM.out).mono ?_
           rintro e w2 ⟨rfl, hg⟩
           have HG2 := Lib.hid ((HG1.out.alloc _).trans hg)
           clear hg)
        | (go_at_call 39
           refine (awake6_any _).mono ?_
           rintro e w3 ⟨rfl, hg⟩
           have HG3 := Lib.hid (HG2.out.trans hg)
           clear hg))
      go_ret
      exact ⟨by simp, HG3.out⟩
    · have hm := getM_off s _ rfl hx
      generalize (getM s).2 = x at hm hx
      have HMM := Lib.hid hm
      clear hm
      go_enter Try.func11, Try.ntmps11
      go_wp2_with (first
        | (go_at_call 42
           refine (getIs_any s m0 x HMM.out _ hs).mono ?_
           rintro e w1 ⟨v1, v2, v3, v4, rfl, hm, hg⟩
           have HM1 := Lib.hid hm
           obtain ⟨a1, c1, rfl, -⟩ := hm.delays
           obtain ⟨a2, c2, rfl, -⟩ := hm.programs
           obtain ⟨a3, c3, rfl, -⟩ := hm.lps
           obtain ⟨a4, c4, rfl, -⟩ := hm.init
           have HG1 := Lib.hid hg
           have HO1 := Lib.hid (Out.new (w := w1) (T := 28) (cs := [.int .i64 m0.seed, .float .f64 m0.fin, .slice a1 m0.delays.length c1, .slice a2 m0.programs.length c2, .slice a3 m0.lps.length c3, .slice a4 m0.init.length c4]))
           clear hm hg)
        | (go_at_call 39
           refine (awake6_any _).mono ?_
           rintro e w3 ⟨rfl, hg⟩
           have HG3 := Lib.hid (show Gr w1 w3 from ((Gr.refl w1).alloc _).trans hg)
           have HO3 := Lib.hid (Out.gr HO1.out hg)
           have x0 : w3.cell? ⟨w1.heap.size, 0, none⟩ = some (.int .i64 0) := HO3.out.cell (i := 0) rfl
           have x1 : w3.cell? ⟨w1.heap.size, 1, none⟩ = some (.float .f64 0) := HO3.out.cell (i := 1) rfl
           have x2 : w3.cell? ⟨w1.heap.size, 2, none⟩ = some (.slice a1 0 c1) := HO3.out.cell (i := 2) rfl
           have x3 : w3.cell? ⟨w1.heap.size, 3, none⟩ = some (.slice a2 0 c2) := HO3.out.cell (i := 3) rfl
           have x4 : w3.cell? ⟨w1.heap.size, 4, none⟩ = some (.slice a3 0 c3) := HO3.out.cell (i := 4) rfl
           have x5 : w3.cell? ⟨w1.heap.size, 5, none⟩ = some (.slice a4 0 c4) := HO3.out.cell (i := 5) rfl
           clear hg)
        | (go_at_call 36
           refine (rsameZero_any _ _ _ _ _ (HM1.out.gr HG3.out)).mono ?_
           rintro e w4 ⟨rfl, hg⟩
           have HG4 := Lib.hid ((HG1.out.trans HG3.out).trans hg)
           clear hg))
      go_ret
      exact ⟨by simp, HG4.out⟩
end Go.Proofs.Ytkoopobfelcgpaa
end -- G2
