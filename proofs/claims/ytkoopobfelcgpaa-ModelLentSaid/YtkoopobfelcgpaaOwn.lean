/- Slices that a call makes itself, element by element: append's law over lists. -/
import Derived.Test.YtkoopobfelcgpaaA5
import Derived.Deep.AppendLies
import Derived.Laws.AppendOwnNone
namespace Go.Proofs.Ytkoopobfelcgpaa
open Go.RowKit

/-- An element is told by the cells that it lies in. -/
def FlatAt {α : Type} (cells : α → List Value) : World → Nat → Nat → α → Prop := fun w b o x => ∀ (j : Nat) u, (cells x)[j]? = some u → w.cell? ⟨b, o + j, none⟩ = some u
theorem FlatAt.gr {α : Type} (cells : α → List Value) : Stays (FlatAt cells) := fun _ _ _ _ _ g h j u hu => g.cell (h j u hu)

theorem flat_get {α : Type} {cells : α → List Value} {sz : Nat} (hlen : ∀ x, (cells x).length = sz) : ∀ (l : List α) (i j : Nat), j < sz → (l.flatMap cells)[i * sz + j]? = (l[i]?).bind fun x => (cells x)[j]?
  | [], i, j, _ => by simp
  | x :: l, 0, j, hj => by
    rw [List.flatMap_cons, List.getElem?_append_left (by rw [hlen]; omega)]
    simp
  | x :: l, i + 1, j, hj => by
    have e : (i + 1) * sz + j = sz + (i * sz + j) := by rw [Nat.add_mul]; omega
    rw [List.flatMap_cons, e, List.getElem?_append_right (by rw [hlen]; omega), hlen, Nat.add_sub_cancel_left, flat_get hlen l i j hj]
    simp
theorem flat_len {α : Type} {cells : α → List Value} {sz : Nat} (hlen : ∀ x, (cells x).length = sz) : ∀ l : List α, (l.flatMap cells).length = l.length * sz
  | [] => by simp
  | x :: l => by rw [List.flatMap_cons, List.length_append, hlen, flat_len hlen l, List.length_cons, Nat.add_mul]; omega

/-- v is the call's own slice (its block from base on, of element type e, sz cells an element): it reads as l. -/
def Own {α : Type} (base e sz : Nat) (cells : α → List Value) (w : World) (v : Value) (l : List α) : Prop := w.ownsRow base e sz v l.length (l.flatMap cells)

theorem Own.nil {α : Type} {base e sz : Nat} {cells : α → List Value} {w : World} : Own base e sz cells w (.slice none 0 0) [] := World.ownsRow_nil w base e sz

theorem Own.sl {α : Type} {base e sz : Nat} {cells : α → List Value} {w : World} {v : Value} {l : List α} (hlen : ∀ x, (cells x).length = sz) (h : Own base e sz cells w v l) : Sl sz (FlatAt cells) w v l := by
  obtain ⟨hx, ⟨rfl, hn⟩ | ⟨g, cap, cur, rfl, hb, hg, hnc, hcm, hcs, ht⟩⟩ := h
  · have : l = [] := List.eq_nil_of_length_eq_zero hn
    subst this
    exact ⟨none, 0, rfl, Nat.le_refl _, Nat.zero_le _, fun _ => rfl, fun i x h => by simp at h⟩
  · refine ⟨some ⟨g, 0, none⟩, cap, rfl, hnc, hcm, (fun h => by cases h), fun i x hxi => ⟨g, 0, rfl, fun j u hu => ?_⟩⟩
    have hil : i < l.length := by
      rcases Nat.lt_or_ge i l.length with g | g
      · exact g
      · rw [List.getElem?_eq_none g] at hxi; cases hxi
    have hj : j < sz := by
      rw [← hlen x]
      rcases Nat.lt_or_ge j (cells x).length with g | g
      · exact g
      · rw [List.getElem?_eq_none g] at hu; cases hu
    have h1 := flat_get hlen l i j hj
    rw [hxi] at h1
    simp only [Option.bind_some, hu] at h1
    have hlt : i * sz + j < l.length * sz := by
      have : i * sz + sz ≤ l.length * sz := by rw [← Nat.succ_mul]; exact Nat.mul_le_mul_right _ hil
      omega
    rw [← ht, List.getElem?_take_of_lt hlt, Array.getElem?_toList] at h1
    simp only [World.cell?, hg]
    have e1 : 0 + i * sz + j = i * sz + j := by omega
    simp [h1]

/-- What a world keeps of an own slice when it changes elsewhere. -/
theorem Own.kept {α : Type} {base e sz : Nat} {cells : α → List Value} {w w' : World} {v : Value} {l : List α} {row : Option Nat} (h : Own base e sz cells w v l) (hg : w.grownBy w' row) (hne : v.ownBlock = none ∨ v.ownBlock ≠ row) : Own base e sz cells w' v l :=
  World.ownsRow.kept h hg hne

theorem info_at {t : Nat} {z : Value} {n b : Nat} (h : (Try.prog.info? t).map (fun i => (i.zero, i.size, i.bytes)) = some (some z, n, b)) : ∃ i, Try.prog.info? t = some i ∧ i.zero = some z ∧ i.size = n ∧ i.bytes = b := by
  cases hi : Try.prog.info? t with
  | none => rw [hi] at h; cases h
  | some i =>
    rw [hi] at h
    simp only [Option.map_some, Option.some.injEq, Prod.mk.injEq] at h
    exact ⟨i, rfl, h.1, h.2.1, h.2.2⟩

theorem add_plain (b o j : Nat) : (⟨b, o, none⟩ : Addr).add j = ⟨b, o + j, none⟩ := by
  unfold Addr.add
  split
  · rename_i h; subst h; rfl
  · rfl

set_option maxRecDepth 100000 in
/-- append(v, u...): v the call's own, u any slice: the lists one behind the other. -/
theorem run_append_list {α : Type} {cells : α → List Value} {base t ty e sz bytes : Nat} {z : Value} (ht : Try.prog.underlying t = some (.slice e)) (hi : (Try.prog.info? e).map (fun i => (i.zero, i.size, i.bytes)) = some (some z, sz, bytes))
    (hzs : z.cells.size = sz) (hsz : 0 < sz) (hlen : ∀ x, (cells x).length = sz) (h1 : ∀ x, ∀ u ∈ cells x, u.oneCell' = true)
    (w : World) (v u : Value) (l r : List α) (ho : Own base e sz cells w v l) (hs : Sl sz (FlatAt cells) w u r) (h63 : l.length + r.length ≤ maxLen) (hbytes : (l.length + r.length) * bytes ≤ 140737488355328) (hbase : base ≤ w.heap.size) :
    ∃ v' w', (Builtin.append_ #[t, t] ty #[v, u]).run Try.prog w = .ok v' w' ∧ Own base e sz cells w' v' (l ++ r) ∧ w.grownBy w' v.ownBlock ∧ (v'.ownBlock = v.ownBlock ∨ v'.ownBlock = some w.heap.size) := by
  obtain ⟨i, hi1, hi2, hi3, hi4⟩ := info_at hi
  obtain ⟨a, c, rfl, hrc, hcm, hnone, hel⟩ := hs
  unfold Own
  rw [List.length_append, List.flatMap_append]
  cases a with
  | none =>
    have hc : c = 0 := hnone rfl
    have hr : r = [] := List.eq_nil_of_length_eq_zero (by omega)
    subst hr
    subst hc
    have := run_append_owned_none (P := Try.prog) (w := w) base t ty e i sz ht hi1 v l.length (l.flatMap cells) ho
    exact ⟨v, w, this, by unfold Own at ho; simpa using ho, ⟨rfl, rfl, rfl, Nat.le_refl _, fun _ _ _ => rfl⟩, .inl rfl⟩
  | some ad =>
    have hnews : ∀ j x, (r.flatMap cells)[j]? = some x → w.cell? (ad.add j) = some x := by
      intro j x hj
      have hjl : j < r.length * sz := by
        rw [← flat_len hlen r]
        rcases Nat.lt_or_ge j (r.flatMap cells).length with g | g
        · exact g
        · rw [List.getElem?_eq_none g] at hj; cases hj
      have hdm : j / sz * sz + j % sz = j := by rw [Nat.mul_comm]; exact Nat.div_add_mod j sz
      have hq : j / sz < r.length := Nat.div_lt_of_lt_mul (by rw [Nat.mul_comm]; exact hjl)
      have h2 := flat_get hlen r (j / sz) (j % sz) (Nat.mod_lt _ hsz)
      rw [hdm, hj, List.getElem?_eq_getElem hq] at h2
      obtain ⟨b, o, hab, hR⟩ := hel (j / sz) r[j / sz] (List.getElem?_eq_getElem hq)
      have h3 := hR (j % sz) x (by simpa using h2.symm)
      injection hab with hab
      subst hab
      have e1 := add_plain b o j
      rw [e1, ← h3]
      congr 2
      omega
    have h1' : ∀ x ∈ r.flatMap cells, x.oneCell' = true := by
      intro x hx
      obtain ⟨y, _, hy⟩ := List.mem_flatMap.1 hx
      exact h1 y x hy
    obtain ⟨v', w', hrun, h2, h3, _, h5⟩ := run_append_own_at (P := Try.prog) w base t ty e i z sz bytes ht hi1 hi2 hi3 hi4 hzs hsz v l.length (l.flatMap cells) ho ad r.length c (r.flatMap cells) (flat_len hlen r) hnews h1' h63 hbytes hbase
    exact ⟨v', w', hrun, h2, h3, h5⟩

section
variable {α : Type} {cells : α → List Value} {t e sz bytes : Nat} {z : Value} {w : World}

/-- The law at the operation. -/
theorem wp_append_list {o : Oper} {a : Act} {K : Act → World → Prop} {Q : Exit → Act → World → Prop} (s x : Operand) (t : TypeId) (ho : o.op = .call { callee := .builtin .append, args := #[s, x], argTypes := #[t, t] })
    (base : Nat) (ht : Try.prog.underlying t = some (.slice e)) (hi : (Try.prog.info? e).map (fun i => (i.zero, i.size, i.bytes)) = some (some z, sz, bytes))
    (hzs : z.cells.size = sz) (hsz : 0 < sz) (hlen : ∀ x, (cells x).length = sz) (h1 : ∀ x, ∀ u ∈ cells x, u.oneCell' = true)
    (v u : Value) (hs : a.eval s = v) (hx : a.eval x = u) (l r : List α) (hown : Own base e sz cells w v l) (hsl : Sl sz (FlatAt cells) w u r) (h63 : l.length + r.length ≤ maxLen) (hbytes : (l.length + r.length) * bytes ≤ 140737488355328) (hbase : base ≤ w.heap.size)
    (h : ∀ v' w', Own base e sz cells w' v' (l ++ r) → w.grownBy w' v.ownBlock → (v'.ownBlock = v.ownBlock ∨ v'.ownBlock = some w.heap.size) → K (a.put o.dst v') w') : o.wp Try.prog a w K Q := by
  obtain ⟨v', w', hr, h2, h3, h4⟩ := run_append_list (ty := o.type) ht hi hzs hsz hlen h1 w v u l r hown hsl h63 hbytes hbase
  unfold Oper.wp execOp
  simp only [ho, resolve, invoke, builtin, Sem.run_bind, Sem.run_pure, Result.andThen_ok, List.map_toArray, List.map_cons, List.map_nil, hs, hx, hr]
  exact h v' w' h2 h3 h4

/-- In a region that keeps the text's order. -/
theorem wpList_append_list {ops : Array Oper} {rest : List Oper} {o : Oper} {a : Act} {Q : Exit → Act → World → Prop} (hgd : o.guard = none) (s x : Operand) (t : TypeId) (ho : o.op = .call { callee := .builtin .append, args := #[s, x], argTypes := #[t, t] })
    (base : Nat) (ht : Try.prog.underlying t = some (.slice e)) (hi : (Try.prog.info? e).map (fun i => (i.zero, i.size, i.bytes)) = some (some z, sz, bytes))
    (hzs : z.cells.size = sz) (hsz : 0 < sz) (hlen : ∀ x, (cells x).length = sz) (h1 : ∀ x, ∀ u ∈ cells x, u.oneCell' = true)
    (v u : Value) (hs : a.eval s = v) (hx : a.eval x = u) (l r : List α) (hown : Own base e sz cells w v l) (hsl : Sl sz (FlatAt cells) w u r) (h63 : l.length + r.length ≤ maxLen) (hbytes : (l.length + r.length) * bytes ≤ 140737488355328) (hbase : base ≤ w.heap.size)
    (h : ∀ v' w', Own base e sz cells w' v' (l ++ r) → w.grownBy w' v.ownBlock → (v'.ownBlock = v.ownBlock ∨ v'.ownBlock = some w.heap.size) → wpList Try.prog ops Q rest (a.put o.dst v') w') : wpList Try.prog ops Q (o :: rest) a w :=
  wpList_plain hgd fun _ hK => wp_append_list s x t ho base ht hi hzs hsz hlen h1 v u hs hx l r hown hsl h63 hbytes hbase fun v' w' h2 h3 h4 => hK _ _ (h v' w' h2 h3 h4)

/-- At a step of a region that draws its order. -/
theorem step_append_list {ops : Array Oper} {o : Oper} {a : Act} {K : Act → World → Prop} {Q : Exit → Act → World → Prop} {E : Prop} (hgd : o.guard = none) (s x : Operand) (t : TypeId) (ho : o.op = .call { callee := .builtin .append, args := #[s, x], argTypes := #[t, t] })
    (base : Nat) (ht : Try.prog.underlying t = some (.slice e)) (hi : (Try.prog.info? e).map (fun i => (i.zero, i.size, i.bytes)) = some (some z, sz, bytes))
    (hzs : z.cells.size = sz) (hsz : 0 < sz) (hlen : ∀ x, (cells x).length = sz) (h1 : ∀ x, ∀ u ∈ cells x, u.oneCell' = true)
    (v u : Value) (hs : a.eval s = v) (hx : a.eval x = u) (l r : List α) (hown : Own base e sz cells w v l) (hsl : Sl sz (FlatAt cells) w u r) (h63 : l.length + r.length ≤ maxLen) (hbytes : (l.length + r.length) * bytes ≤ 140737488355328) (hbase : base ≤ w.heap.size)
    (h : ∀ v' w', Own base e sz cells w' v' (l ++ r) → w.grownBy w' v.ownBlock → (v'.ownBlock = v.ownBlock ∨ v'.ownBlock = some w.heap.size) → K (a.put o.dst v') w') :
    if Region.wanted o (yielded ops a.tmps) = true then Oper.wp Try.prog o a w K Q else E := by
  have hw : Region.wanted o (yielded ops a.tmps) = true := by simp [Region.wanted, hgd]
  rw [if_pos hw]
  exact wp_append_list s x t ho base ht hi hzs hsz hlen h1 v u hs hx l r hown hsl h63 hbytes hbase h
end

/-- A struct of six cells that the call writes: its block as a whole. -/
def Out (T : TypeId) (w : World) (O : Nat) (cs : List Value) : Prop := w.heap[O]? = some (.cells cs.toArray T (0, 0))
theorem Out.lt {T : TypeId} {w : World} {O : Nat} {cs : List Value} (h : Out T w O cs) : O < w.heap.size := by
  rcases Nat.lt_or_ge O w.heap.size with g | g
  · exact g
  · unfold Out at h; rw [Array.getElem?_eq_none g] at h; cases h
theorem Out.cell {T : TypeId} {w : World} {O i : Nat} {cs : List Value} {v : Value} (h : Out T w O cs) (hv : cs[i]? = some v) : w.cell? ⟨O, i, none⟩ = some v := by
  unfold Out at h
  simp [World.cell?, h, hv]
theorem Out.free {T : TypeId} {w : World} {O : Nat} {cs : List Value} (h : Out T w O cs) (i : Nat) : w.frozen? ⟨O, i, none⟩ = false := by
  unfold Out at h
  simp [World.frozen?, h]
theorem Out.set {T : TypeId} {w : World} {O : Nat} {cs : List Value} (h : Out T w O cs) (i : Nat) (v : Value) : Out T (w.setCell ⟨O, i, none⟩ v) O (cs.set i v) := by
  unfold Out at *
  simp only [World.setCell]
  rw [Array.getElem?_modify]
  simp [h]
theorem Out.new {w : World} {T : TypeId} {cs : List Value} : Out T (w.alloc (.cells cs.toArray T)) w.heap.size cs := by
  unfold Out
  show (w.heap.push _)[w.heap.size]? = _
  simp
theorem Out.alloc {T : TypeId} {w : World} {O : Nat} {cs : List Value} (h : Out T w O cs) (o : Obj) : Out T (w.alloc o) O cs := by
  unfold Out at *
  rw [Below.heap_alloc _ _ _ (Out.lt h)]; exact h
theorem Out.drew {T : TypeId} {w : World} {O : Nat} {cs : List Value} (h : Out T w O cs) : Out T w.drew O cs := h
theorem Out.gr {T : TypeId} {w w' : World} {O : Nat} {cs : List Value} (h : Out T w O cs) (g : Gr w w') : Out T w' O cs := by
  unfold Out at *
  rw [g.block O (Out.lt h)]; exact h

theorem Own.block {α : Type} {base e sz : Nat} {cells : α → List Value} {w : World} {v : Value} {l : List α} (h : Own base e sz cells w v l) : v.ownBlock = none ∨ ∃ g cur, v.ownBlock = some g ∧ base ≤ g ∧ w.heap[g]? = some (.cells cur e (0, 0)) := by
  obtain ⟨-, ⟨rfl, -⟩ | ⟨g, cap, cur, rfl, hb, hg, -⟩⟩ := h
  · exact .inl rfl
  · exact .inr ⟨g, cur, rfl, hb, hg⟩
theorem Own.shape {α : Type} {base e sz : Nat} {cells : α → List Value} {w : World} {v : Value} {l : List α} (h : Own base e sz cells w v l) : ∃ a cap, v = .slice a l.length cap := by
  obtain ⟨-, ⟨rfl, hn⟩ | ⟨g, cap, cur, rfl, -⟩⟩ := h
  · exact ⟨none, 0, by rw [hn]⟩
  · exact ⟨_, _, rfl⟩
theorem Own.gr {α : Type} {base e sz : Nat} {cells : α → List Value} {w w' : World} {v : Value} {l : List α} (h : Own base e sz cells w v l) (g : Gr w w') : Own base e sz cells w' v l :=
  World.ownsRow.kept (row := none) h ⟨g.os, g.tape, g.output, g.size, fun k hk _ => g.block k hk⟩ (by cases v.ownBlock <;> simp)
theorem Own.far {α : Type} {base e sz : Nat} {cells : α → List Value} {w : World} {v : Value} {l : List α} (h : Own base e sz cells w v l) {O : Nat} {T : TypeId} {c : Array Value} {f : Nat × Nat} (hO : w.heap[O]? = some (.cells c T f)) (hne : e ≠ T) : v.ownBlock ≠ some O := by
  intro hv
  rcases h.block with h0 | ⟨g, cur, h1, -, h2⟩
  · rw [h0] at hv; cases hv
  · rw [h1] at hv
    injection hv with hv
    subst hv
    rw [h2] at hO
    injection hO with hO
    injection hO with _ he
    exact hne he
/-- A store into another block of another element type. -/
theorem Own.set {α : Type} {base e sz : Nat} {cells : α → List Value} {w : World} {v : Value} {l : List α} (h : Own base e sz cells w v l) {O i : Nat} {T : TypeId} {c : Array Value} {f : Nat × Nat} (hO : w.heap[O]? = some (.cells c T f)) (hne : e ≠ T) (u : Value) :
    Own base e sz cells (w.setCell ⟨O, i, none⟩ u) v l := by
  have hf := h.far hO hne
  refine World.ownsRow.kept (row := some O) h ⟨rfl, rfl, rfl, by simp [World.setCell], fun k _ hk => Below.heap_setCell w _ u k (fun e => hk (by rw [e]))⟩ ?_
  right; exact hf
/-- Another slice of another element type grows. -/
theorem Own.grown {α β : Type} {base e sz base' e' sz' : Nat} {cells : α → List Value} {cells' : β → List Value} {w w' : World} {v v' : Value} {l : List α} {l' : List β} (h : Own base e sz cells w v l) (h' : Own base' e' sz' cells' w v' l') (hne : e ≠ e')
    (hg : w.grownBy w' v'.ownBlock) : Own base e sz cells w' v l := by
  refine World.ownsRow.kept h hg ?_
  rcases h'.block with h0 | ⟨g, cur, h1, -, h2⟩
  · rw [h0]; cases v.ownBlock <;> simp
  · rw [h1]; right; exact h.far h2 hne
theorem Out.grown {α : Type} {base e sz : Nat} {cells : α → List Value} {T : TypeId} {w w' : World} {O : Nat} {cs : List Value} {v : Value} {l : List α} (h : Out T w O cs) (h' : Own base e sz cells w v l) (hne : e ≠ T) (hg : w.grownBy w' v.ownBlock) : Out T w' O cs := by
  have hf := h'.far h hne
  have hl := Out.lt h
  unfold Out at *
  rw [hg.block O hl (fun e => hf e.symm)]
  exact h
theorem Gr.trans' {a b c : World} (h : Gr a b) (k : Below a.heap.size b c) : Gr a c := Below.trans h k
theorem Gr.grown {α : Type} {base e sz : Nat} {cells : α → List Value} {w0 w w' : World} {v : Value} {l : List α} (h : Gr w0 w) (h' : Own base e sz cells w v l) (hb : w0.heap.size ≤ base) (hg : w.grownBy w' v.ownBlock) : Gr w0 w' := by
  refine Gr.trans' h ⟨hg.os, hg.tape, hg.output, hg.size, fun k hk => hg.block k (Nat.lt_of_lt_of_le hk h.size) ?_⟩
  intro e
  rcases h'.block with h0 | ⟨g, cur, h1, h2, -⟩
  · rw [h0] at e; cases e
  · rw [h1] at e; injection e with e; omega
theorem Out.set_other {T : TypeId} {w : World} {O O' i : Nat} {cs : List Value} {v : Value} (h : Out T w O cs) (hne : O ≠ O') : Out T (w.setCell ⟨O', i, none⟩ v) O cs := by
  unfold Out at *
  rw [Below.heap_setCell w _ v O hne]; exact h
theorem Out.is {T : TypeId} {w : World} {O : Nat} {cs : List Value} (h : Out T w O cs) : w.heap[O]? = some (.cells cs.toArray T (0, 0)) := h
end Go.Proofs.Ytkoopobfelcgpaa
