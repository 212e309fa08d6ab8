/- layer 7: the reference's instruction, whichever -/
import Derived.Test.YtkoopobfelcgpaaHG
import Derived.Test.YtkoopobfelcgpaaH8
import Derived.Deep.CutBlock
import Derived.Deep.CutRange
set_option linter.unusedSimpArgs false
set_option linter.unusedVariables false
namespace Go.Proofs.Ytkoopobfelcgpaa
open Go.RowKit
section
variable {w : World} {B : Nat} {r : VR} {f : Int} {gb : Nat} {vw vs : Value} {w0 : World}
def OnePost (w0 : World) (B : Nat) (r : VR) (f : Int) (gb : Nat) (vw : Value) (a : Int × VR) (e : Ending) (w' : World) : Prop :=
  e = .returned (.int .i64 a.1) ∧ Gr w0 w' ∧ ∃ vs', RRun w0.heap.size w' B (if a.1 = 0 then a.2 else r) f gb vw vs'
theorem OnePost.good {w0 : World} {B : Nat} {r r' : VR} {f : Int} {gb : Nat} {vw vs : Value} {e : Ending} {w' : World} (h : e = .returned (.int .i64 0) ∧ Gr w0 w' ∧ RRun w0.heap.size w' B r' f gb vw vs) : OnePost w0 B r f gb vw (0, r') e w' := ⟨h.1, h.2.1, vs, h.2.2⟩
theorem OnePost.bad {w0 : World} {B : Nat} {r r' : VR} {f k : Int} {gb : Nat} {vw vs : Value} {e : Ending} {w' : World} (hk : ¬ k = 0) (h : e = .returned (.int .i64 k) ∧ Gr w0 w' ∧ RRun w0.heap.size w' B r f gb vw vs) : OnePost w0 B r f gb vw (k, r') e w' := ⟨h.1, h.2.1, vs, by simp only [if_neg hk]; exact h.2.2⟩
theorem one_any (h : RRun w0.heap.size w B r f gb vw vs) (hw0 : Gr w0 w) (ai : Option Addr) (mi ci : Nat) (i : PIn) (op xa xb xc len : Int) (hx : insB op xa xb xc len = true) (hop0 : ¬ op = 0) (hwf : r.wf) :
    Calls Try.prog 132 #[.pointer (some ⟨B, 0, none⟩), .agg #[.int .i64 op, .int .i64 xa, .int .i64 xb, .int .i64 xc], inV (.slice ai mi ci) i] w (OnePost w0 B r f gb vw (actV i.lps (wordU i.seed i.me) ⟨op, xa, xb, xc⟩ r)) := by
  have hrb := VR.reg_i64 hwf xb
  have hrc := VR.reg_i64 hwf xc
  rcases ins_cases hx with rfl | ⟨rfl, ha⟩ | ⟨rfl, ha, hb⟩ | ⟨rfl, ha⟩ | ⟨rfl, ha, hb⟩ | ⟨rfl, ha, hb⟩ | ⟨rfl, ha, hb, hc⟩ | ⟨rfl, ha, hb⟩ | ⟨rfl, ha, hb⟩ | ⟨hop, ha, hb, hc⟩
  · exact absurd rfl hop0
  · have e1 : actV i.lps (wordU i.seed i.me) ⟨1, xa, xb, xc⟩ r = (0, r.out xa xb) := by simp [actV]
    rw [e1]; exact (oneSet_any h hw0 ai mi ci i xa xb xc ha).mono fun _ _ => OnePost.good
  · have e1 : actV i.lps (wordU i.seed i.me) ⟨2, xa, xb, xc⟩ r = (0, r.out xa (r.reg xb)) := by simp [actV]
    rw [e1]; exact (oneMove_any h hw0 ai mi ci i xa xb xc ha hb).mono fun _ _ => OnePost.good
  · have e1 : actV i.lps (wordU i.seed i.me) ⟨9, xa, xb, xc⟩ r = (0, { r with pc := xa }) := by simp [actV]
    rw [e1]; exact (oneJump_any h hw0 ai mi ci i xa xb xc).mono fun _ _ => OnePost.good
  · by_cases hz : r.reg xa = 0
    · have e1 : actV i.lps (wordU i.seed i.me) ⟨10, xa, xb, xc⟩ r = (0, { r with pc := xb }) := by simp [actV, hz]
      rw [e1]; exact (oneZeroYes_any h hw0 ai mi ci i xa xb xc ha hz).mono fun _ _ => OnePost.good
    · have e1 : actV i.lps (wordU i.seed i.me) ⟨10, xa, xb, xc⟩ r = (0, r) := by simp [actV, hz]
      rw [e1]; exact (oneZeroNo_any h hw0 ai mi ci i xa xb xc ha hz).mono fun _ _ => OnePost.good
  · by_cases hz : r.reg xb < 1
    · have e1 : actV i.lps (wordU i.seed i.me) ⟨11, xa, xb, xc⟩ r = (4, r) := by simp [actV, hz]
      rw [e1]; exact (oneRollBad_any h hw0 ai mi ci i xa xb xc hb hz).mono fun _ _ => OnePost.bad (by decide)
    · have e1 : actV i.lps (wordU i.seed i.me) ⟨11, xa, xb, xc⟩ r = (0, { r with g := r.g.set xa.toNat (chance (stepU (wordU i.seed i.me) r.dice) (r.reg xb)), dice := wrap64 (r.dice + 1) }) := by simp [actV, hz]
      rw [e1]; exact (oneRoll_any h hw0 ai mi ci i xa xb xc ha hb (by omega) hrb).mono fun _ _ => OnePost.good
  · by_cases hd : r.reg xa < 0 ∨ i.lps ≤ r.reg xa
    · have e1 : actV i.lps (wordU i.seed i.me) ⟨12, xa, xb, xc⟩ r = (6, r) := by simp [actV, hd]
      rw [e1]; exact (oneSendDst_any h hw0 ai mi ci i xa xb xc ha hd).mono fun _ _ => OnePost.bad (by decide)
    · by_cases hf : 4 ≤ r.sent.length
      · have e1 : actV i.lps (wordU i.seed i.me) ⟨12, xa, xb, xc⟩ r = (5, r) := by simp [actV, hd, hf]
        rw [e1]; exact (oneSendFull_any h hw0 ai mi ci i xa xb xc ha (by omega) (by omega) hf).mono fun _ _ => OnePost.bad (by decide)
      · have e1 : actV i.lps (wordU i.seed i.me) ⟨12, xa, xb, xc⟩ r = (0, { r with sent := r.sent ++ [⟨r.reg xa, r.reg xb, r.reg xc⟩] }) := by simp [actV, hd, hf]
        rw [e1]; exact (oneSend_any h hw0 ai mi ci i xa xb xc ha hb hc (by omega) (by omega) (by omega)).mono fun e w' ⟨h1, h2, h3⟩ => ⟨h1, h2, h3⟩
  · by_cases hd : r.reg xb < 0 ∨ (r.w.length : Int) ≤ r.reg xb
    · have e1 : actV i.lps (wordU i.seed i.me) ⟨13, xa, xb, xc⟩ r = (3, r) := by simp [actV, hd]
      rw [e1]; exact (oneLoadBad_any h hw0 ai mi ci i xa xb xc hb hd).mono fun _ _ => OnePost.bad (by decide)
    · have e1 : actV i.lps (wordU i.seed i.me) ⟨13, xa, xb, xc⟩ r = (0, r.out xa (r.word (r.reg xb))) := by simp [actV, hd]
      rw [e1]; exact (oneLoad_any h hw0 ai mi ci i xa xb xc ha hb (by omega) (by omega)).mono fun _ _ => OnePost.good
  · by_cases hd : r.reg xa < 0 ∨ (r.w.length : Int) ≤ r.reg xa
    · have e1 : actV i.lps (wordU i.seed i.me) ⟨14, xa, xb, xc⟩ r = (3, r) := by simp [actV, hd]
      rw [e1]; exact (oneStoreBad_any h hw0 ai mi ci i xa xb xc ha hd).mono fun _ _ => OnePost.bad (by decide)
    · have e1 : actV i.lps (wordU i.seed i.me) ⟨14, xa, xb, xc⟩ r = (0, { r with w := r.w.set (r.reg xa).toNat (r.reg xb) }) := by simp [actV, hd]
      rw [e1]; exact (oneStore_any h hw0 ai mi ci i xa xb xc ha hb (by omega) (by omega)).mono fun _ _ => OnePost.good
  · by_cases hz : (op = 6 ∨ op = 7) ∧ r.reg xc = 0
    · have e1 : actV i.lps (wordU i.seed i.me) ⟨op, xa, xb, xc⟩ r = (2, r) := by
        unfold actV
        simp only
        rw [if_neg (by omega), if_neg (by omega), if_neg (by omega), if_neg (by omega), if_neg (by omega), if_neg (by omega), if_neg (by omega), if_neg (by omega), if_pos hz]
      rw [e1]; exact (oneCompBad_any h hw0 ai mi ci i op xa xb xc hz.1 hz.2 hb hc).mono fun _ _ => OnePost.bad (by decide)
    · have e1 : actV i.lps (wordU i.seed i.me) ⟨op, xa, xb, xc⟩ r = (0, r.out xa (twoV op (r.reg xb) (r.reg xc))) := by
        unfold actV
        simp only
        rw [if_neg (by omega), if_neg (by omega), if_neg (by omega), if_neg (by omega), if_neg (by omega), if_neg (by omega), if_neg (by omega), if_neg (by omega), if_neg hz]
      rw [e1]; exact (oneComp_any h hw0 ai mi ci i op xa xb xc hop (fun h6 h7 => hz ⟨h6, h7⟩) hrc ha hb hc).mono fun _ _ => OnePost.good
theorem oneGo_any (h : RRun w0.heap.size w B r f gb vw vs) (hw0 : Gr w0 w) (ai : Option Addr) (mi ci : Nat) (i : PIn) (op xa xb xc len : Int) (hx : insB op xa xb xc len = true) (hop0 : ¬ op = 0) (hwf : r.wf) (h0 : (actV i.lps (wordU i.seed i.me) ⟨op, xa, xb, xc⟩ r).1 = 0) :
    Calls Try.prog 132 #[.pointer (some ⟨B, 0, none⟩), .agg #[.int .i64 op, .int .i64 xa, .int .i64 xb, .int .i64 xc], inV (.slice ai mi ci) i] w fun e w' => e = .returned (.int .i64 0) ∧ Gr w0 w' ∧ ∃ vs', RRun w0.heap.size w' B (actV i.lps (wordU i.seed i.me) ⟨op, xa, xb, xc⟩ r).2 f gb vw vs' :=
  (one_any h hw0 ai mi ci i op xa xb xc len hx hop0 hwf).mono fun e w' ⟨h1, h2, h3⟩ => ⟨by rw [h1, h0], h2, by rw [if_pos h0] at h3; exact h3⟩
theorem oneBad_any (h : RRun w0.heap.size w B r f gb vw vs) (hw0 : Gr w0 w) (ai : Option Addr) (mi ci : Nat) (i : PIn) (op xa xb xc len : Int) (hx : insB op xa xb xc len = true) (hop0 : ¬ op = 0) (hwf : r.wf) (k : Int) (hk : (actV i.lps (wordU i.seed i.me) ⟨op, xa, xb, xc⟩ r).1 = k) (h0 : ¬ k = 0) :
    Calls Try.prog 132 #[.pointer (some ⟨B, 0, none⟩), .agg #[.int .i64 op, .int .i64 xa, .int .i64 xb, .int .i64 xc], inV (.slice ai mi ci) i] w fun e w' => e = .returned (.int .i64 k) ∧ Gr w0 w' ∧ ∃ vs', RRun w0.heap.size w' B r f gb vw vs' :=
  (one_any h hw0 ai mi ci i op xa xb xc len hx hop0 hwf).mono fun e w' ⟨h1, h2, h3⟩ => ⟨by rw [h1, hk], h2, by rw [hk, if_neg h0] at h3; exact h3⟩
end

end Go.Proofs.Ytkoopobfelcgpaa
