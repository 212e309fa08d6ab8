/- layer 7: the steps one behind the other -/
import Derived.Test.YtkoopobfelcgpaaH6
import Derived.Test.YtkoopobfelcgpaaH7
set_option linter.unusedSimpArgs false
set_option linter.unusedVariables false
namespace Go.Proofs.Ytkoopobfelcgpaa
open Go.RowKit

def okIns (p : List PIns) : Prop := ∀ x ∈ p, insB x.op x.a x.b x.c p.length = true
def insI (p : List PIns) : Prop := ∀ x ∈ p, i64' x.a ∧ i64' x.b ∧ i64' x.c
structure VR.wf (r : VR) : Prop where
  g8 : r.g.length = 8
  g : ∀ y ∈ r.g, i64' y
  w : ∀ y ∈ r.w, i64' y
theorem VR.reg_i64 {r : VR} (h : r.wf) (k : Int) : i64' (r.reg k) := by
  unfold VR.reg
  rcases Nat.lt_or_ge k.toNat r.g.length with g | g
  · rw [List.getD_eq_getElem?_getD, List.getElem?_eq_getElem g]; exact h.g _ (List.getElem_mem g)
  · rw [List.getD_eq_getElem?_getD, List.getElem?_eq_none g]; unfold i64'; simp
theorem VR.word_i64 {r : VR} (h : r.wf) (k : Int) : i64' (r.word k) := by
  unfold VR.word
  rcases Nat.lt_or_ge k.toNat r.w.length with g | g
  · rw [List.getD_eq_getElem?_getD, List.getElem?_eq_getElem g]; exact h.w _ (List.getElem_mem g)
  · rw [List.getD_eq_getElem?_getD, List.getElem?_eq_none g]; unfold i64'; simp
theorem regB_may {k : Int} (h : regB k = true) : mayReg k := by simpa [regB, mayReg] using h

/-- what an instruction that may be asks -/
theorem ins_cases {op a b c len : Int} (h : insB op a b c len = true) : op = 0 ∨ (op = 1 ∧ mayReg a) ∨ (op = 2 ∧ mayReg a ∧ mayReg b) ∨ (op = 9 ∧ 0 ≤ a ∧ a ≤ len) ∨ (op = 10 ∧ mayReg a ∧ 0 ≤ b ∧ b ≤ len) ∨ (op = 11 ∧ mayReg a ∧ mayReg b) ∨
    (op = 12 ∧ mayReg a ∧ mayReg b ∧ mayReg c) ∨ (op = 13 ∧ mayReg a ∧ mayReg b) ∨ (op = 14 ∧ mayReg a ∧ mayReg b) ∨ ((3 ≤ op ∧ op ≤ 8) ∧ mayReg a ∧ mayReg b ∧ mayReg c) := by
  unfold insB at h
  by_cases h0 : op = 0
  · exact .inl h0
  rw [if_neg h0] at h
  by_cases h1 : op = 1
  · rw [if_pos h1] at h; exact .inr (.inl ⟨h1, regB_may h⟩)
  rw [if_neg h1] at h
  by_cases h2 : op = 2 ∨ op = 11 ∨ op = 13 ∨ op = 14
  · rw [if_pos h2] at h
    simp only [Bool.and_eq_true] at h
    have ha := regB_may h.1
    have hb := regB_may h.2
    rcases h2 with h2 | h2 | h2 | h2
    · exact .inr (.inr (.inl ⟨h2, ha, hb⟩))
    · exact .inr (.inr (.inr (.inr (.inr (.inl ⟨h2, ha, hb⟩)))))
    · exact .inr (.inr (.inr (.inr (.inr (.inr (.inr (.inl ⟨h2, ha, hb⟩)))))))
    · exact .inr (.inr (.inr (.inr (.inr (.inr (.inr (.inr (.inl ⟨h2, ha, hb⟩))))))))
  rw [if_neg h2] at h
  by_cases h3 : op = 3 ∨ op = 4 ∨ op = 5 ∨ op = 6 ∨ op = 7 ∨ op = 8 ∨ op = 12
  · rw [if_pos h3] at h
    simp only [Bool.and_eq_true] at h
    have ha := regB_may h.1
    have hb := regB_may h.2.1
    have hc := regB_may h.2.2
    by_cases h12 : op = 12
    · exact .inr (.inr (.inr (.inr (.inr (.inr (.inl ⟨h12, ha, hb, hc⟩))))))
    · exact .inr (.inr (.inr (.inr (.inr (.inr (.inr (.inr (.inr ⟨by omega, ha, hb, hc⟩))))))))
  rw [if_neg h3] at h
  by_cases h9 : op = 9
  · rw [if_pos h9] at h
    simp only [Bool.and_eq_true, decide_eq_true_eq] at h
    exact .inr (.inr (.inr (.inl ⟨h9, h⟩)))
  rw [if_neg h9] at h
  by_cases h10 : op = 10
  · rw [if_pos h10] at h
    simp only [Bool.and_eq_true, decide_eq_true_eq] at h
    exact .inr (.inr (.inr (.inr (.inl ⟨h10, regB_may h.1, h.2⟩))))
  rw [if_neg h10] at h
  cases h

section
variable {F : Option Nat} {w : World} {B : Nat} {vp : Value} {lps z : Int} {r : VR} {D : Nat} {vw vs : Value} {w0 : World} {p : List PIns}
/-- what comes of a step -/
def StepPost (F : Option Nat) (w0 : World) (B : Nat) (vp : Value) (lps z : Int) (D : Nat) (vw : Value) (s : Int × Bool × VR) (e : Ending) (w' : World) : Prop :=
  (e = if s.1 = 0 then .returned (.bool s.2.1) else faultP s.1) ∧ Gr w0 w' ∧ ∃ vs', RunAt F w0.heap.size w' B vp lps z s.2.2 D vw vs'
theorem step_any7 (h : RunAt F w0.heap.size w B vp lps z r D vw vs) (hw0 : Gr w0 w) (hp : Sl 4 InsAt w0 vp p) (hm : r.may p) (hok : okIns p) (hwf : r.wf) :
    Calls Try.prog 163 #[.pointer (some ⟨B, 0, none⟩)] w (StepPost F w0 B vp lps z D vw (stepV p lps z r)) := by
  by_cases he : (p.length : Int) ≤ r.pc
  · have e : stepV p lps z r = (0, false, r) := by simp [stepV, he]
    rw [e]
    exact (stepEnd_any h hw0 hp hm he).mono fun e w' ⟨h1, h2, h3⟩ => ⟨by simpa using h1, h2, _, h3⟩
  have he' : r.pc < (p.length : Int) := by omega
  by_cases hn : 120 ≤ r.n
  · have e : stepV p lps z r = (1, false, r) := by simp [stepV, he, hn]
    rw [e]
    exact (stepFuel_any h hw0 hp hm he' hn).mono fun e w' ⟨h1, h2, h3⟩ => ⟨by simpa using h1, h2, _, h3⟩
  have hn' : r.n < 120 := by omega
  have hlt : r.pc.toNat < p.length := by have := hm.pc0; omega
  have hx : p[r.pc.toNat]? = some (p.getD r.pc.toNat ins0) := by simp [List.getElem?_eq_getElem hlt]
  have hi : insB (p.getD r.pc.toNat ins0).op (p.getD r.pc.toNat ins0).a (p.getD r.pc.toNat ins0).b (p.getD r.pc.toNat ins0).c p.length = true :=
    hok _ (List.mem_of_getElem? hx)
  have e0 : stepV p lps z r = if (p.getD r.pc.toNat ins0).op = 0 then (0, false, r.next)
      else if (actV lps z (p.getD r.pc.toNat ins0) r.next).1 = 0 then (0, true, (actV lps z (p.getD r.pc.toNat ins0) r.next).2)
      else ((actV lps z (p.getD r.pc.toNat ins0) r.next).1, false, r.next) := by
    unfold stepV; rw [if_neg he, if_neg hn]
  rw [e0]
  generalize p.getD r.pc.toNat ins0 = x at hx hi ⊢
  clear e0
  obtain ⟨op, xa, xb, xc⟩ := x
  simp only at hi ⊢
  have hnw : i64' (r.next.reg xb) := VR.reg_i64 (r := r) hwf xb
  rcases ins_cases hi with rfl | ⟨rfl, ha⟩ | ⟨rfl, ha, hb⟩ | ⟨rfl, ha⟩ | ⟨rfl, ha, hb⟩ | ⟨rfl, ha, hb⟩ | ⟨rfl, ha, hb, hc⟩ | ⟨rfl, ha, hb⟩ | ⟨rfl, ha, hb⟩ | ⟨hop, ha, hb, hc⟩
  · rw [if_pos rfl]
    exact (stepHalt_any h hw0 hp hm he' hn' xa xb xc hx).mono fun e w' ⟨h1, h2, h3⟩ => ⟨by simpa using h1, h2, _, h3⟩
  · have e1 : actV lps z ⟨1, xa, xb, xc⟩ r.next = (0, r.next.out xa xb) := by simp [actV]
    rw [e1, if_neg (by decide), if_pos rfl]
    exact (stepSet_any h hw0 hp hm he' hn' xa xb xc hx ha).mono fun e w' ⟨h1, h2, h3⟩ => ⟨by simpa using h1, h2, _, h3⟩
  · have e1 : actV lps z ⟨2, xa, xb, xc⟩ r.next = (0, r.next.out xa (r.next.reg xb)) := by simp [actV]
    rw [e1, if_neg (by decide), if_pos rfl]
    exact (stepMove_any h hw0 hp hm he' hn' xa xb xc hx ha hb).mono fun e w' ⟨h1, h2, h3⟩ => ⟨by simpa using h1, h2, _, h3⟩
  · have e1 : actV lps z ⟨9, xa, xb, xc⟩ r.next = (0, { r.next with pc := xa }) := by simp [actV]
    rw [e1, if_neg (by decide), if_pos rfl]
    exact (stepJump_any h hw0 hp hm he' hn' xa xb xc hx).mono fun e w' ⟨h1, h2, h3⟩ => ⟨by simpa using h1, h2, _, h3⟩
  · by_cases hz : r.next.reg xa = 0
    · have e1 : actV lps z ⟨10, xa, xb, xc⟩ r.next = (0, { r.next with pc := xb }) := by simp [actV, hz]
      rw [e1, if_neg (by decide), if_pos rfl]
      exact (stepZeroYes_any h hw0 hp hm he' hn' xa xb xc hx ha hz).mono fun e w' ⟨h1, h2, h3⟩ => ⟨by simpa using h1, h2, _, h3⟩
    · have e1 : actV lps z ⟨10, xa, xb, xc⟩ r.next = (0, r.next) := by simp [actV, hz]
      rw [e1, if_neg (by decide), if_pos rfl]
      exact (stepZeroNo_any h hw0 hp hm he' hn' xa xb xc hx ha hz).mono fun e w' ⟨h1, h2, h3⟩ => ⟨by simpa using h1, h2, _, h3⟩
  · by_cases hz : r.next.reg xb < 1
    · have e1 : actV lps z ⟨11, xa, xb, xc⟩ r.next = (4, r.next) := by simp [actV, hz]
      rw [e1, if_neg (by decide), if_neg (by simp)]
      exact (stepRollBad_any h hw0 hp hm he' hn' xa xb xc hx hb hz).mono fun e w' ⟨h1, h2, h3⟩ => ⟨by simpa using h1, h2, _, h3⟩
    · have e1 : actV lps z ⟨11, xa, xb, xc⟩ r.next = (0, { r.next with g := r.next.g.set xa.toNat (chance (stepU z r.next.dice) (r.next.reg xb)), dice := wrap64 (r.next.dice + 1) }) := by simp [actV, hz]
      rw [e1, if_neg (by decide), if_pos rfl]
      exact (stepRoll_any h hw0 hp hm he' hn' xa xb xc hx ha hb (by omega) hnw).mono fun e w' ⟨h1, h2, h3⟩ => ⟨by simpa using h1, h2, _, h3⟩
  · by_cases hd : r.next.reg xa < 0 ∨ lps ≤ r.next.reg xa
    · have e1 : actV lps z ⟨12, xa, xb, xc⟩ r.next = (6, r.next) := by simp [actV, hd]
      rw [e1, if_neg (by decide), if_neg (by simp)]
      exact (stepSendDst_any h hw0 hp hm he' hn' xa xb xc hx ha hd).mono fun e w' ⟨h1, h2, h3⟩ => ⟨by simpa using h1, h2, _, h3⟩
    · by_cases hf : 4 ≤ r.next.sent.length
      · have e1 : actV lps z ⟨12, xa, xb, xc⟩ r.next = (5, r.next) := by simp [actV, hd, hf]
        rw [e1, if_neg (by decide), if_neg (by simp)]
        exact (stepSendFull_any h hw0 hp hm he' hn' xa xb xc hx ha (by omega) (by omega) hf).mono fun e w' ⟨h1, h2, h3⟩ => ⟨by simpa using h1, h2, _, h3⟩
      · have e1 : actV lps z ⟨12, xa, xb, xc⟩ r.next = (0, { r.next with sent := r.next.sent ++ [⟨r.next.reg xa, r.next.reg xb, r.next.reg xc⟩] }) := by simp [actV, hd, hf]
        rw [e1, if_neg (by decide), if_pos rfl]
        exact (stepSend_any h hw0 hp hm he' hn' xa xb xc hx ha hb hc (by omega) (by omega) (by omega)).mono fun e w' ⟨h1, h2, h3⟩ => ⟨by simpa using h1, h2, h3⟩
  · by_cases hd : r.next.reg xb < 0 ∨ (r.next.w.length : Int) ≤ r.next.reg xb
    · have e1 : actV lps z ⟨13, xa, xb, xc⟩ r.next = (3, r.next) := by simp [actV, hd]
      rw [e1, if_neg (by decide), if_neg (by simp)]
      exact (stepLoadBad_any h hw0 hp hm he' hn' xa xb xc hx hb hd).mono fun e w' ⟨h1, h2, h3⟩ => ⟨by simpa using h1, h2, _, h3⟩
    · have e1 : actV lps z ⟨13, xa, xb, xc⟩ r.next = (0, r.next.out xa (r.next.word (r.next.reg xb))) := by simp [actV, hd]
      rw [e1, if_neg (by decide), if_pos rfl]
      exact (stepLoad_any h hw0 hp hm he' hn' xa xb xc hx ha hb (by omega) (by omega)).mono fun e w' ⟨h1, h2, h3⟩ => ⟨by simpa using h1, h2, _, h3⟩
  · by_cases hd : r.next.reg xa < 0 ∨ (r.next.w.length : Int) ≤ r.next.reg xa
    · have e1 : actV lps z ⟨14, xa, xb, xc⟩ r.next = (3, r.next) := by simp [actV, hd]
      rw [e1, if_neg (by decide), if_neg (by simp)]
      exact (stepStoreBad_any h hw0 hp hm he' hn' xa xb xc hx ha hb hd).mono fun e w' ⟨h1, h2, h3⟩ => ⟨by simpa using h1, h2, _, h3⟩
    · have e1 : actV lps z ⟨14, xa, xb, xc⟩ r.next = (0, { r.next with w := r.next.w.set (r.next.reg xa).toNat (r.next.reg xb) }) := by simp [actV, hd]
      rw [e1, if_neg (by decide), if_pos rfl]
      exact (stepStore_any h hw0 hp hm he' hn' xa xb xc hx ha hb (by omega) (by omega)).mono fun e w' ⟨h1, h2, h3⟩ => ⟨by simpa using h1, h2, _, h3⟩
  · by_cases hz : (op = 6 ∨ op = 7) ∧ r.next.reg xc = 0
    · have e1 : actV lps z ⟨op, xa, xb, xc⟩ r.next = (2, r.next) := by
        unfold actV
        simp only
        rw [if_neg (by omega), if_neg (by omega), if_neg (by omega), if_neg (by omega), if_neg (by omega), if_neg (by omega), if_neg (by omega), if_neg (by omega), if_pos hz]
      rw [e1, if_neg (by omega), if_neg (by simp)]
      obtain ⟨rfl | rfl, hz⟩ := hz
      · exact (stepComp6Bad_any h hw0 hp hm he' hn' xa xb xc hx hz ha hb hc).mono fun e w' ⟨h1, h2, h3⟩ => ⟨by simpa using h1, h2, _, h3⟩
      · exact (stepComp7Bad_any h hw0 hp hm he' hn' xa xb xc hx hz ha hb hc).mono fun e w' ⟨h1, h2, h3⟩ => ⟨by simpa using h1, h2, _, h3⟩
    · have e1 : actV lps z ⟨op, xa, xb, xc⟩ r.next = (0, r.next.out xa (twoV op (r.next.reg xb) (r.next.reg xc))) := by
        unfold actV
        simp only
        rw [if_neg (by omega), if_neg (by omega), if_neg (by omega), if_neg (by omega), if_neg (by omega), if_neg (by omega), if_neg (by omega), if_neg (by omega), if_neg hz]
      rw [e1, if_neg (by omega), if_pos rfl]
      exact (stepComp_any h hw0 hp hm he' hn' op xa xb xc hx hop (fun h6 h7 => hz ⟨h6, h7⟩) ha hb hc).mono fun e w' ⟨h1, h2, h3⟩ => ⟨by simpa using h1, h2, _, h3⟩
end

theorem tmod_i64 (a b : Int) (h : i64' a) : i64' (Int.tmod a b) := by
  unfold i64' at *
  have h1 : (Int.tmod a b).natAbs ≤ a.natAbs := by rw [Int.natAbs_tmod]; exact Nat.mod_le _ _
  by_cases ha : 0 ≤ a
  · have h2 := Int.tmod_nonneg b ha
    omega
  · have h2 := Int.tmod_nonneg b (show 0 ≤ -a by omega)
    rw [Int.neg_tmod] at h2
    omega
theorem twoV_i64 (op a b : Int) (h : i64' a) : i64' (twoV op a b) := by
  unfold twoV
  split; · exact wrap64_i64 _
  split; · exact wrap64_i64 _
  split; · exact wrap64_i64 _
  split; · exact wrap64_i64 _
  split; · exact tmod_i64 _ _ h
  split <;> (unfold i64'; simp)
theorem mem_set_i64 {l : List Int} (h : ∀ y ∈ l, i64' y) (k : Nat) (x : Int) (hx : i64' x) : ∀ y ∈ l.set k x, i64' y := by
  intro y hy
  rcases List.mem_or_eq_of_mem_set hy with h1 | h1
  · exact h y h1
  · rw [h1]; exact hx
theorem VR.wf.wf_out {r : VR} (h : r.wf) (k x : Int) (hx : i64' x) : (r.out k x).wf := ⟨by simpa using h.g8, mem_set_i64 h.g _ _ hx, h.w⟩
theorem act_inv {p : List PIns} {lps z : Int} {r : VR} {x : PIns} (hx : insB x.op x.a x.b x.c p.length = true) (hxi : i64' x.a ∧ i64' x.b ∧ i64' x.c) (h : r.wf) (h0 : (actV lps z x r).1 = 0) :
    (actV lps z x r).2.wf ∧ (actV lps z x r).2.n = r.n ∧ ((actV lps z x r).2.pc = r.pc ∨ (0 ≤ (actV lps z x r).2.pc ∧ (actV lps z x r).2.pc ≤ p.length)) := by
  obtain ⟨op, xa, xb, xc⟩ := x
  simp only at hx hxi
  have hrb := VR.reg_i64 h xb
  have hrc := VR.reg_i64 h xc
  rcases ins_cases hx with rfl | ⟨rfl, ha⟩ | ⟨rfl, ha, hb⟩ | ⟨rfl, ha⟩ | ⟨rfl, ha, hb⟩ | ⟨rfl, ha, hb⟩ | ⟨rfl, ha, hb, hc⟩ | ⟨rfl, ha, hb⟩ | ⟨rfl, ha, hb⟩ | ⟨hop, ha, hb, hc⟩
  · have e1 : actV lps z ⟨0, xa, xb, xc⟩ r = (0, r.out xa (twoV 0 (r.reg xb) (r.reg xc))) := by simp [actV]
    rw [e1]; exact ⟨h.wf_out _ _ (twoV_i64 _ _ _ hrb), rfl, .inl rfl⟩
  · have e1 : actV lps z ⟨1, xa, xb, xc⟩ r = (0, r.out xa xb) := by simp [actV]
    rw [e1]; exact ⟨h.wf_out _ _ hxi.2.1, rfl, .inl rfl⟩
  · have e1 : actV lps z ⟨2, xa, xb, xc⟩ r = (0, r.out xa (r.reg xb)) := by simp [actV]
    rw [e1]; exact ⟨h.wf_out _ _ hrb, rfl, .inl rfl⟩
  · have e1 : actV lps z ⟨9, xa, xb, xc⟩ r = (0, { r with pc := xa }) := by simp [actV]
    rw [e1]; exact ⟨⟨h.g8, h.g, h.w⟩, rfl, .inr ha⟩
  · by_cases hz : r.reg xa = 0
    · have e1 : actV lps z ⟨10, xa, xb, xc⟩ r = (0, { r with pc := xb }) := by simp [actV, hz]
      rw [e1]; exact ⟨⟨h.g8, h.g, h.w⟩, rfl, .inr hb⟩
    · have e1 : actV lps z ⟨10, xa, xb, xc⟩ r = (0, r) := by simp [actV, hz]
      rw [e1]; exact ⟨h, rfl, .inl rfl⟩
  · by_cases hz : r.reg xb < 1
    · have e1 : actV lps z ⟨11, xa, xb, xc⟩ r = (4, r) := by simp [actV, hz]
      rw [e1] at h0; simp at h0
    · have e1 : actV lps z ⟨11, xa, xb, xc⟩ r = (0, { r with g := r.g.set xa.toNat (chance (stepU z r.dice) (r.reg xb)), dice := wrap64 (r.dice + 1) }) := by simp [actV, hz]
      rw [e1]; exact ⟨⟨by simpa using h.g8, mem_set_i64 h.g _ _ (chance_i64 _ _ (by omega) hrb), h.w⟩, rfl, .inl rfl⟩
  · by_cases hd : r.reg xa < 0 ∨ lps ≤ r.reg xa
    · have e1 : actV lps z ⟨12, xa, xb, xc⟩ r = (6, r) := by simp [actV, hd]
      rw [e1] at h0; simp at h0
    · by_cases hf : 4 ≤ r.sent.length
      · have e1 : actV lps z ⟨12, xa, xb, xc⟩ r = (5, r) := by simp [actV, hd, hf]
        rw [e1] at h0; simp at h0
      · have e1 : actV lps z ⟨12, xa, xb, xc⟩ r = (0, { r with sent := r.sent ++ [⟨r.reg xa, r.reg xb, r.reg xc⟩] }) := by simp [actV, hd, hf]
        rw [e1]; exact ⟨⟨h.g8, h.g, h.w⟩, rfl, .inl rfl⟩
  · by_cases hd : r.reg xb < 0 ∨ (r.w.length : Int) ≤ r.reg xb
    · have e1 : actV lps z ⟨13, xa, xb, xc⟩ r = (3, r) := by simp [actV, hd]
      rw [e1] at h0; simp at h0
    · have e1 : actV lps z ⟨13, xa, xb, xc⟩ r = (0, r.out xa (r.word (r.reg xb))) := by simp [actV, hd]
      rw [e1]; exact ⟨h.wf_out _ _ (VR.word_i64 h _), rfl, .inl rfl⟩
  · by_cases hd : r.reg xa < 0 ∨ (r.w.length : Int) ≤ r.reg xa
    · have e1 : actV lps z ⟨14, xa, xb, xc⟩ r = (3, r) := by simp [actV, hd]
      rw [e1] at h0; simp at h0
    · have e1 : actV lps z ⟨14, xa, xb, xc⟩ r = (0, { r with w := r.w.set (r.reg xa).toNat (r.reg xb) }) := by simp [actV, hd]
      rw [e1]; exact ⟨⟨h.g8, h.g, mem_set_i64 h.w _ _ hrb⟩, rfl, .inl rfl⟩
  · by_cases hz : (op = 6 ∨ op = 7) ∧ r.reg xc = 0
    · have e1 : actV lps z ⟨op, xa, xb, xc⟩ r = (2, r) := by
        unfold actV
        simp only
        rw [if_neg (by omega), if_neg (by omega), if_neg (by omega), if_neg (by omega), if_neg (by omega), if_neg (by omega), if_neg (by omega), if_neg (by omega), if_pos hz]
      rw [e1] at h0; simp at h0
    · have e1 : actV lps z ⟨op, xa, xb, xc⟩ r = (0, r.out xa (twoV op (r.reg xb) (r.reg xc))) := by
        unfold actV
        simp only
        rw [if_neg (by omega), if_neg (by omega), if_neg (by omega), if_neg (by omega), if_neg (by omega), if_neg (by omega), if_neg (by omega), if_neg (by omega), if_neg hz]
      rw [e1]; exact ⟨h.wf_out _ _ (twoV_i64 _ _ _ hrb), rfl, .inl rfl⟩
theorem step_inv {p : List PIns} {lps z : Int} {r : VR} (hok : okIns p) (hi : insI p) (hm : r.may p) (h : r.wf) (hg : (stepV p lps z r).1 = 0) (hc : (stepV p lps z r).2.1 = true) :
    (stepV p lps z r).2.2.wf ∧ (stepV p lps z r).2.2.may p ∧ (stepV p lps z r).2.2.n = r.n + 1 := by
  unfold stepV at hg hc ⊢
  split at hg
  · rename_i h1; rw [if_pos h1] at hc; cases hc
  rename_i h1
  rw [if_neg h1] at hc ⊢
  split at hg
  · cases hg
  rename_i h2
  rw [if_neg h2] at hc ⊢
  split at hg
  · rename_i h3; rw [if_pos h3] at hc; cases hc
  rename_i h3
  rw [if_neg h3] at hc ⊢
  split at hg
  · rename_i h4
    rw [if_pos h4]
    have hlt : r.pc.toNat < p.length := by have := hm.pc0; omega
    have hx : p[r.pc.toNat]? = some (p.getD r.pc.toNat ins0) := by simp [List.getElem?_eq_getElem hlt]
    have hmem := List.mem_of_getElem? hx
    obtain ⟨a1, a2, a3⟩ := act_inv (hok _ hmem) (hi _ hmem) (r := r.next) ⟨h.g8, h.g, h.w⟩ h4
    have := hm.pc0; have := hm.n0
    refine ⟨a1, ⟨?_, ?_, ?_, ?_⟩, by rw [a2]; rfl⟩
    · rcases a3 with a3 | a3
      · rw [a3]; show 0 ≤ r.pc + 1; omega
      · exact a3.1
    · rcases a3 with a3 | a3
      · rw [a3]; show r.pc + 1 ≤ p.length; omega
      · exact a3.2
    · rw [a2]; show 0 ≤ r.n + 1; omega
    · rw [a2]; show r.n + 1 ≤ 120; omega
  · rename_i h4; exact absurd hg h4
/-- the steps one behind the other: a fault (0: none), and the run at the end -/
def runV (p : List PIns) (lps z : Int) : Nat → VR → Int × VR
  | 0, r => (0, r)
  | k + 1, r => if (stepV p lps z r).1 = 0 then (if (stepV p lps z r).2.1 = true then runV p lps z k (stepV p lps z r).2.2 else (0, (stepV p lps z r).2.2)) else ((stepV p lps z r).1, (stepV p lps z r).2.2)
end Go.Proofs.Ytkoopobfelcgpaa
