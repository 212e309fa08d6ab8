/- layer 5: lists held against each other -/
import Derived.Test.YtkoopobfelcgpaaA7
namespace Go.Proofs.Ytkoopobfelcgpaa
open Go.RowKit

def eqL {α : Type} (p : α → α → Bool) (l r : List α) : Bool := decide (l.length = r.length) && (l.zip r).all (fun q => p q.1 q.2)
def intEq (a b : Int) : Bool := decide (a = b)
def insEq (a b : PIns) : Bool := decide (a = b)
def lpSame (a b : PLP) : Bool := decide (a.prog = b.prog) && eqL intEq a.words b.words
def initSame (a b : PInit) : Bool := fsame a.t b.t && (decide (a.dst = b.dst) && decide (a.pay = b.pay))
def sameB (a b : PModel) : Bool := decide (a.seed = b.seed) && (fsame a.fin b.fin && (eqL fsame a.delays b.delays && (eqL initSame a.init b.init && (eqL (eqL insEq) a.programs b.programs && eqL lpSame a.lps b.lps))))

theorem eqL_len {α : Type} (p : α → α → Bool) (l r : List α) (h : l.length ≠ r.length) : eqL p l r = false := by simp [eqL, h]
theorem eqL_at {α : Type} (p : α → α → Bool) (l r : List α) (k : Nat) (x y : α) (hx : l[k]? = some x) (hy : r[k]? = some y) (h : p x y = false) : eqL p l r = false := by
  rw [eqL, all_false (fun q : α × α => p q.1 q.2) (l.zip r) k (x, y) (by rw [List.getElem?_zip_eq_some]; exact ⟨hx, hy⟩) h]; simp
theorem eqL_step {α : Type} (p : α → α → Bool) (l r : List α) (k : Nat) (x y : α) (hx : l[k]? = some x) (hy : r[k]? = some y) (h1 : ((l.zip r).take k).all (fun q => p q.1 q.2) = true) (h : p x y = true) :
    ((l.zip r).take (k + 1)).all (fun q => p q.1 q.2) = true :=
  all_take_succ _ _ k (x, y) (by rw [List.getElem?_zip_eq_some]; exact ⟨hx, hy⟩) h1 h
theorem eqL_end {α : Type} (p : α → α → Bool) (l r : List α) (k : Nat) (hl : l.length = r.length) (hk : l.length ≤ k) (h1 : ((l.zip r).take k).all (fun q => p q.1 q.2) = true) : eqL p l r = true := by
  rw [eqL, all_whole _ _ k (by simp; omega) h1]; simp [hl]

theorem float_any2 (x y : Nat) (w : World) : Calls Try.prog 86 #[.float .f64 x, .float .f64 y] w fun e w' => e = .returned (.bool (fsame x y)) ∧ Gr w w' :=
  (float_any x y w).mono fun _ _ ⟨h1, h2⟩ => ⟨h1, h2 ▸ Gr.refl _⟩

set_option maxHeartbeats 2000000 in
theorem EqualFloats_any (l r : List Nat) (v u : Value) (w : World) (h : Sl 1 FloatAt w v l) (h' : Sl 1 FloatAt w u r) :
    Calls Try.prog 87 #[v, u, .func (.func 86) #[] #[]] w fun e w' => e = .returned (.bool (eqL fsame l r)) ∧ Gr w w' := by
  obtain ⟨a, cap, rfl, hlc, hcm, -, hel⟩ := h
  obtain ⟨a', cap', rfl, hlc', hcm', -, hel'⟩ := h'
  unfold maxLen at hcm hcm'
  have H := Lib.hid hel; clear hel
  have H' := Lib.hid hel'; clear hel'
  by_cases hn : l.length = r.length
  case neg =>
    have hn1 : ((l.length : Int) != r.length) = true := by rw [bne_iff_ne]; omega
    have hn2 := Lib.hid (eqL_len fsame l r hn)
    clear hn
    go_enter Try.func87, Try.ntmps87
    go_wp2
    go_ret
    exact ⟨ret_bool hn2.out.symm, Gr.refl _⟩
  have hn1 : ((l.length : Int) != r.length) = false := by rw [bne_eq_false_iff_eq]; omega
  have HN := Lib.hid hn
  have hle : r.length ≤ l.length := by omega
  clear hn
  go_enter Try.func87, Try.ntmps87
  go_wp2
  clear hn1
  go_loopg [17] l.length (fun g i wr => ∃ k : Nat, g + k = l.length ∧ i = .int .i64 k ∧ ((l.zip r).take k).all (fun q => fsame q.1 q.2) = true ∧ Gr w wr)
  case atStart => exact ⟨0, by omega, rfl, by simp, Gr.refl _⟩
  case round =>
    obtain ⟨k, hk, rfl, hall, hg⟩ := hrel
    have HA := Lib.hid hall; clear hall
    by_cases hlt : k < l.length
    · have hlt' : k < r.length := by have := HN.out; omega
      obtain ⟨b, o, rfl, hR⟩ := H.out k l[k] (by simp [hlt])
      obtain ⟨b', o', rfl, hR'⟩ := H'.out k r[k] (by simp [hlt'])
      have p0 := hg.cell hR
      have p0' := hg.cell hR'
      rw [Nat.mul_one] at p0 p0'
      clear hR hR'
      go_wp2_with (go_at_call 86; refine (float_any2 _ _ _).mono ?_; rintro e w' ⟨rfl, hg'⟩)
      · have hb : fsame l[k] r[k] = false := by grind
        go_ret
        exact ⟨ret_bool (eqL_at _ _ _ k l[k] r[k] (by simp [hlt]) (by simp [hlt']) hb).symm, hg.trans hg'⟩
      · have hb : fsame l[k] r[k] = true := by grind
        go_roundg (gk - 1)
        case measure => omega
        case rel => exact ⟨k + 1, by omega, by go_num, eqL_step _ _ _ k l[k] r[k] (by simp [hlt]) (by simp [hlt']) HA.out hb, hg.trans hg'⟩
    · go_wp2
      go_ret
      exact ⟨ret_bool (eqL_end _ _ _ k HN.out (by omega) HA.out).symm, hg⟩
end Go.Proofs.Ytkoopobfelcgpaa
