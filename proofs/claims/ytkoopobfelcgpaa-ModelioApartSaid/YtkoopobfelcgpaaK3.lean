/- K3: the texts C0 C1 C2 C3 C4 C5 C6, merged by tools/merge.py -/
import Derived.Test.YtkoopobfelcgpaaPa
import Derived.Laws.Bits64b
import Derived.Test.YtkoopobfelcgpaaK2
import Derived.Deep.RegionHeld3
import Derived.Laws.Concat

section -- C0
/- layer 6: numbers as bytes: what the printed leaf functions answer, in plain arithmetic -/
namespace Go.Proofs.Ytkoopobfelcgpaa
open Go.RowKit Go.Proofs.YtkoopobfelcgpaaW.PrintWords Go.Proofs.YtkoopobfelcgpaaW.PrintMore

/-- the eight bytes of a number, the highest first -/
def be8 (x : Int) : List Int := [x / 72057594037927936 % 256, x / 281474976710656 % 256, x / 1099511627776 % 256, x / 4294967296 % 256, x / 16777216 % 256, x / 65536 % 256, x / 256 % 256, x % 256]
def encI (n : Int) : List Int := be8 ((n + 9223372036854775808) % 18446744073709551616)
theorem be8_len (x : Int) : (be8 x).length = 8 := rfl
theorem encI_len (n : Int) : (encI n).length = 8 := rfl

theorem putU_is (x : Int) : Pa.pack_put_uint64.f 20 [] x 8 = some (be8 x) := by
  simp [Pa.pack_put_uint64.f, Pa.pack_put_uint64.l0, wrap64, shr, be8, IntKind.bits]
theorem packU_is (x : Int) : Pa.pack_U.f 20 x = some (strOfNums (be8 x)) := by
  rw [Pa.pack_U.f, putU_is]; rfl
theorem u64_bias (n : Int) : IntKind.u64.wrap (IntKind.u64.wrap n + 9223372036854775808) = (n + 9223372036854775808) % 18446744073709551616 := by
  rw [IntKind.wrap_u64, IntKind.wrap_u64]; omega
theorem packI_is (n : Int) : Pa.pack_I.f 20 n = some (strOfNums (encI n)) := by
  rw [Pa.pack_I.f, u64_bias, putU_is]; rfl

theorem refU_step (x : Int) (h0 : 0 ≤ x) (h1 : x < 18446744073709551616) : Int.tmod x 256 % 256 = x % 256 ∧ IntKind.u64.wrap (Int.tdiv x 256) = x / 256 := by
  rw [IntKind.wrap_u64, Int.tdiv_eq_ediv_of_nonneg h0, Int.tmod_eq_emod_of_nonneg h0]; omega
theorem refU_l0 (k : Nat) (x : Int) (l : List Int) (i : Int) (h0 : 0 ≤ x) (h1 : x < 18446744073709551616) (hi0 : 0 ≤ i) (hi : i < 8) (hl : l.length < 100) :
    Pa.horologeref01_U.l0 (k + 1) x l i = Pa.horologeref01_U.l0 k (x / 256) (x % 256 :: l) (i + 1) := by
  obtain ⟨e1, e2⟩ := refU_step x h0 h1
  have e3 : wrap64 (i + 1) = i + 1 := by unfold wrap64; omega
  rw [Pa.horologeref01_U.l0, if_pos hi, Option.bind_some, if_pos (by simp; omega), e1, e2, e3]
  rfl
theorem refU_end (k : Nat) (x : Int) (l : List Int) : Pa.horologeref01_U.l0 (k + 1) x l 8 = some (strOfNums l) := by
  rw [Pa.horologeref01_U.l0, if_neg (by omega)]
theorem refU_is (x : Int) (h0 : 0 ≤ x) : Pa.horologeref01_U.f 20 x = some (strOfNums (be8 x)) := by
  unfold Pa.horologeref01_U.f
  have e1 : Int.tmod x 256 % 256 = x % 256 := by rw [Int.tmod_eq_emod_of_nonneg h0]; omega
  have e2 : IntKind.u64.wrap (Int.tdiv x 256) = x / 256 % 18446744073709551616 := by rw [IntKind.wrap_u64, Int.tdiv_eq_ediv_of_nonneg h0]
  rw [Pa.horologeref01_U.l0, if_pos (by omega), Option.bind_some, if_pos (by simp), e1, e2, show wrap64 (0 + 1) = 1 by unfold wrap64; omega]
  have hy0 : 0 ≤ x / 256 % 18446744073709551616 := by omega
  have hy1 : x / 256 % 18446744073709551616 < 18446744073709551616 := by omega
  obtain ⟨y, hy⟩ : ∃ y, y = x / 256 % 18446744073709551616 := ⟨_, rfl⟩
  rw [← hy] at hy0 hy1 ⊢
  rw [refU_l0 _ _ _ _ (by omega) (by omega) (by omega) (by omega) (by simp)]
  rw [refU_l0 _ _ _ _ (by omega) (by omega) (by omega) (by omega) (by simp)]
  rw [refU_l0 _ _ _ _ (by omega) (by omega) (by omega) (by omega) (by simp)]
  rw [refU_l0 _ _ _ _ (by omega) (by omega) (by omega) (by omega) (by simp)]
  rw [refU_l0 _ _ _ _ (by omega) (by omega) (by omega) (by omega) (by simp)]
  rw [refU_l0 _ _ _ _ (by omega) (by omega) (by omega) (by omega) (by simp)]
  rw [refU_l0 _ _ _ _ (by omega) (by omega) (by omega) (by omega) (by simp)]
  rw [show (1 : Int) + 1 + 1 + 1 + 1 + 1 + 1 + 1 = 8 from rfl, refU_end]
  congr 2
  simp only [be8, List.cons_append, List.nil_append, List.cons.injEq, and_true]
  omega
theorem refI_is (n : Int) : Pa.horologeref01_I.f 20 n = some (strOfNums (encI n)) := by
  rw [Pa.horologeref01_I.f, u64_bias, refU_is _ (by omega)]; rfl

/-- eight bytes from a place on, as a number -/
def rdU (s : ByteArray) (p : Int) : Int :=
  ((((((bt s p * 256 + bt s (p + 1)) * 256 + bt s (p + 2)) * 256 + bt s (p + 3)) * 256 + bt s (p + 4)) * 256 + bt s (p + 5)) * 256 + bt s (p + 6)) * 256 + bt s (p + 7)
theorem rdU_range (s : ByteArray) (p : Int) : 0 ≤ rdU s p ∧ rdU s p < 18446744073709551616 := by
  have h0 := bt_range s p
  have h1 := bt_range s (p + 1)
  have h2 := bt_range s (p + 2)
  have h3 := bt_range s (p + 3)
  have h4 := bt_range s (p + 4)
  have h5 := bt_range s (p + 5)
  have h6 := bt_range s (p + 6)
  have h7 := bt_range s (p + 7)
  unfold rdU; omega
/-- what reading says: the number, the next place, the error -/
def readU (s : ByteArray) (p : Int) : Int × Int × Int := if p < 0 ∨ (s.size : Int) < p then (0, 0, 3) else if (s.size : Int) - p < 8 then (0, 0, 5) else (rdU s p, p + 8, 0)
def readI (s : ByteArray) (p : Int) : Int × Int × Int := if (readU s p).2.2 = 0 then ((readU s p).1 - 9223372036854775808, (readU s p).2.1, 0) else (0, 0, (readU s p).2.2)

theorem or_step (x b : Int) (hx : 0 ≤ x) (hx' : x < 72057594037927936) (hb : 0 ≤ b) (hb' : b ≤ 255) : Go.bits .or .u64 (IntKind.u64.wrap (x * 256)) (IntKind.u64.wrap b) = x * 256 + b := by
  rw [IntKind.wrap_u64, IntKind.wrap_u64]
  have e1 : x * 256 % 18446744073709551616 = ((x.toNat * 256 : Nat) : Int) := by omega
  have e2 : b % 18446744073709551616 = ((b.toNat : Nat) : Int) := by omega
  rw [e1, e2, bits_or_u64_nat _ _ (by omega) (by omega)]
  have e3 : x.toNat * 256 ||| b.toNat = x.toNat * 256 + b.toNat := by
    have := Nat.two_pow_add_eq_or_of_lt (i := 8) (b := b.toNat) (by omega) x.toNat
    rw [Nat.mul_comm] at this
    simpa using this.symm
  rw [e3]; omega
theorem mul_step (x b : Int) (hx : 0 ≤ x) (hx' : x < 72057594037927936) (hb : 0 ≤ b) (hb' : b ≤ 255) : IntKind.u64.wrap (IntKind.u64.wrap (x * 256) + IntKind.u64.wrap b) = x * 256 + b := by
  rw [IntKind.wrap_u64, IntKind.wrap_u64, IntKind.wrap_u64]; omega

theorem getU_l0 (k : Nat) (s : ByteArray) (x i : Int) (hs : s.size = 8) (hi0 : 0 ≤ i) (hi : i < 8) (hx : 0 ≤ x) (hx' : x < 72057594037927936) :
    Pa.pack_get_uint64.l0 (k + 1) s x 8 i = Pa.pack_get_uint64.l0 k s (x * 256 + bt s i) 8 (i + 1) := by
  have e3 : wrap64 (i + 1) = i + 1 := by unfold wrap64; omega
  have hb := bt_range s i
  rw [Pa.pack_get_uint64.l0, if_pos hi, if_pos hi0, if_pos (by omega), e3, or_step x _ hx hx' hb.1 hb.2]
theorem getU_end (k : Nat) (s : ByteArray) (x : Int) : Pa.pack_get_uint64.l0 (k + 1) s x 8 8 = some x := by
  rw [Pa.pack_get_uint64.l0, if_neg (by omega)]
theorem getU_is (s : ByteArray) (hs : s.size = 8) : Pa.pack_get_uint64.f 20 s = some (rdU s 0) := by
  have h0 := bt_range s (0)
  have h1 := bt_range s (0 + 1)
  have h2 := bt_range s (0 + 1 + 1)
  have h3 := bt_range s (0 + 1 + 1 + 1)
  have h4 := bt_range s (0 + 1 + 1 + 1 + 1)
  have h5 := bt_range s (0 + 1 + 1 + 1 + 1 + 1)
  have h6 := bt_range s (0 + 1 + 1 + 1 + 1 + 1 + 1)
  have h7 := bt_range s (0 + 1 + 1 + 1 + 1 + 1 + 1 + 1)
  unfold Pa.pack_get_uint64.f
  rw [hs, show ((8 : Nat) : Int) = 8 from rfl]
  rw [getU_l0 _ _ _ _ hs (by omega) (by omega) (by omega) (by omega)]
  rw [getU_l0 _ _ _ _ hs (by omega) (by omega) (by omega) (by omega)]
  rw [getU_l0 _ _ _ _ hs (by omega) (by omega) (by omega) (by omega)]
  rw [getU_l0 _ _ _ _ hs (by omega) (by omega) (by omega) (by omega)]
  rw [getU_l0 _ _ _ _ hs (by omega) (by omega) (by omega) (by omega)]
  rw [getU_l0 _ _ _ _ hs (by omega) (by omega) (by omega) (by omega)]
  rw [getU_l0 _ _ _ _ hs (by omega) (by omega) (by omega) (by omega)]
  rw [getU_l0 _ _ _ _ hs (by omega) (by omega) (by omega) (by omega)]
  rw [show (0 : Int) + 1 + 1 + 1 + 1 + 1 + 1 + 1 + 1 = 8 from rfl, getU_end]
  unfold rdU
  simp

theorem bt_extract (s : ByteArray) (p i : Int) (hp : 0 ≤ p) (h8 : p + 8 ≤ s.size) (hi : 0 ≤ i) (hi8 : i < 8) : bt (s.extract p.toNat (p + 8).toNat) i = bt s (p + i) := by
  have hsz : (s.extract p.toNat (p + 8).toNat).size = 8 := by rw [ByteArray.size_extract]; omega
  unfold bt
  rw [dif_pos (by omega), dif_pos (by omega)]
  congr 2
  rw [ByteArray.getElem_extract]
  congr 1
  omega

theorem left_is (s : ByteArray) (p : Int) (hs : s.size ≤ 1099511627776) : Pa.pack_left.f 20 s p 8 = some (if p < 0 ∨ (s.size : Int) < p then 3 else if (s.size : Int) - p < 8 then 5 else 0) := by
  unfold Pa.pack_left.f
  by_cases h1 : p < 0
  · rw [if_pos h1, if_pos (.inl h1)]; rfl
  rw [if_neg h1]
  by_cases h2 : (s.size : Int) < p
  · rw [if_pos (.inr h2)]
    simp [Pa.pack_left.j0, h2]
  rw [if_neg (by omega)]
  have h2' : ¬ (p > (s.size : Int)) := by omega
  have e : wrap64 ((s.size : Int) - p) = (s.size : Int) - p := by unfold wrap64; omega
  rw [Pa.pack_left.j0, e, if_neg (by simpa using h2')]
  by_cases h3 : (s.size : Int) - p < 8
  · rw [if_pos (by omega), if_pos h3]
  · rw [if_neg (by omega), if_neg h3]
theorem readU_is (s : ByteArray) (p : Int) (hs : s.size ≤ 1099511627776) : Pa.pack_ReadU.f 20 s p = some (readU s p) := by
  unfold Pa.pack_ReadU.f readU
  rw [left_is s p hs, Option.bind_some]
  by_cases h1 : p < 0 ∨ (s.size : Int) < p
  · rw [if_pos h1, if_pos h1]; rfl
  rw [if_neg h1, if_neg h1]
  by_cases h2 : (s.size : Int) - p < 8
  · rw [if_pos h2, if_pos h2]; rfl
  rw [if_neg h2, if_neg h2]
  have e : wrap64 (p + 8) = p + 8 := by unfold wrap64; omega
  rw [e, if_pos rfl, if_pos (by omega), if_pos (by omega), if_pos (by omega), getU_is _ (by rw [ByteArray.size_extract]; omega), Option.bind_some]
  congr 2
  unfold rdU
  rw [bt_extract s p 0 (by omega) (by omega) (by omega) (by omega)]
  rw [bt_extract s p (0 + 1) (by omega) (by omega) (by omega) (by omega)]
  rw [bt_extract s p (0 + 2) (by omega) (by omega) (by omega) (by omega)]
  rw [bt_extract s p (0 + 3) (by omega) (by omega) (by omega) (by omega)]
  rw [bt_extract s p (0 + 4) (by omega) (by omega) (by omega) (by omega)]
  rw [bt_extract s p (0 + 5) (by omega) (by omega) (by omega) (by omega)]
  rw [bt_extract s p (0 + 6) (by omega) (by omega) (by omega) (by omega)]
  rw [bt_extract s p (0 + 7) (by omega) (by omega) (by omega) (by omega)]
  simp
theorem readI_is (s : ByteArray) (p : Int) (hs : s.size ≤ 1099511627776) : Pa.pack_ReadI.f 20 s p = some (readI s p) := by
  have hr : 0 ≤ (readU s p).1 ∧ (readU s p).1 < 18446744073709551616 := by
    have := rdU_range s p
    unfold readU; split
    · simp
    split
    · simp
    · exact this
  unfold Pa.pack_ReadI.f readI
  rw [readU_is s p hs, Option.bind_some]
  by_cases h : (readU s p).2.2 = 0
  · rw [if_pos h, if_pos h]
    congr 2
    rw [IntKind.wrap_u64]; unfold wrap64; omega
  · rw [if_neg h, if_neg h]

theorem refReadU_l0 (k : Nat) (s : ByteArray) (p x i : Int) (hs : s.size ≤ 1099511627776) (hp : 0 ≤ p) (h8 : p + 8 ≤ s.size) (hi0 : 0 ≤ i) (hi : i < 8) (hx : 0 ≤ x) (hx' : x < 72057594037927936) :
    Pa.horologeref01_ReadU.l0 (k + 1) s p x i = Pa.horologeref01_ReadU.l0 k s p (x * 256 + bt s (p + i)) (i + 1) := by
  have e3 : wrap64 (i + 1) = i + 1 := by unfold wrap64; omega
  have e4 : wrap64 (p + i) = p + i := by unfold wrap64; omega
  have hb := bt_range s (p + i)
  rw [Pa.horologeref01_ReadU.l0, if_pos hi, e4, if_pos (by omega), if_pos (by omega), e3, mul_step x _ hx hx' hb.1 hb.2]
theorem refReadU_end (k : Nat) (s : ByteArray) (p x : Int) (hs : s.size ≤ 1099511627776) (hp : 0 ≤ p) (h8 : p + 8 ≤ s.size) : Pa.horologeref01_ReadU.l0 (k + 1) s p x 8 = some (x, p + 8, 0) := by
  have e : wrap64 (p + 8) = p + 8 := by unfold wrap64; omega
  rw [Pa.horologeref01_ReadU.l0, if_neg (by omega), e]
theorem refReadU_is (s : ByteArray) (p : Int) (hs : s.size ≤ 1099511627776) : Pa.horologeref01_ReadU.f 20 s p = some (readU s p) := by
  unfold Pa.horologeref01_ReadU.f readU
  by_cases h1 : p < 0
  · rw [if_pos h1, if_pos (.inl h1), Pa.horologeref01_ReadU.j0, if_pos rfl]
  rw [if_neg h1]
  by_cases h2 : (s.size : Int) < p
  · rw [if_pos (.inr h2), Pa.horologeref01_ReadU.j0, if_pos (by simpa using h2)]
  have e : wrap64 ((s.size : Int) - p) = (s.size : Int) - p := by unfold wrap64; omega
  rw [if_neg (by omega), Pa.horologeref01_ReadU.j0, if_neg (by simpa using h2), e]
  by_cases h3 : (s.size : Int) - p < 8
  · rw [if_pos h3, if_pos h3]
  rw [if_neg h3, if_neg h3]
  have g0 := bt_range s (p + 0)
  have g1 := bt_range s (p + (0 + 1))
  have g2 := bt_range s (p + (0 + 1 + 1))
  have g3 := bt_range s (p + (0 + 1 + 1 + 1))
  have g4 := bt_range s (p + (0 + 1 + 1 + 1 + 1))
  have g5 := bt_range s (p + (0 + 1 + 1 + 1 + 1 + 1))
  have g6 := bt_range s (p + (0 + 1 + 1 + 1 + 1 + 1 + 1))
  have g7 := bt_range s (p + (0 + 1 + 1 + 1 + 1 + 1 + 1 + 1))
  rw [refReadU_l0 _ _ _ _ _ hs (by omega) (by omega) (by omega) (by omega) (by omega) (by omega)]
  rw [refReadU_l0 _ _ _ _ _ hs (by omega) (by omega) (by omega) (by omega) (by omega) (by omega)]
  rw [refReadU_l0 _ _ _ _ _ hs (by omega) (by omega) (by omega) (by omega) (by omega) (by omega)]
  rw [refReadU_l0 _ _ _ _ _ hs (by omega) (by omega) (by omega) (by omega) (by omega) (by omega)]
  rw [refReadU_l0 _ _ _ _ _ hs (by omega) (by omega) (by omega) (by omega) (by omega) (by omega)]
  rw [refReadU_l0 _ _ _ _ _ hs (by omega) (by omega) (by omega) (by omega) (by omega) (by omega)]
  rw [refReadU_l0 _ _ _ _ _ hs (by omega) (by omega) (by omega) (by omega) (by omega) (by omega)]
  rw [refReadU_l0 _ _ _ _ _ hs (by omega) (by omega) (by omega) (by omega) (by omega) (by omega)]
  rw [show (0 : Int) + 1 + 1 + 1 + 1 + 1 + 1 + 1 + 1 = 8 from rfl, refReadU_end _ _ _ _ hs (by omega) (by omega)]
  congr 2
  unfold rdU
  simp
theorem refReadI_is (s : ByteArray) (p : Int) (hs : s.size ≤ 1099511627776) : Pa.horologeref01_ReadI.f 20 s p = some (readI s p) := by
  have hr : 0 ≤ (readU s p).1 ∧ (readU s p).1 < 18446744073709551616 := by
    have := rdU_range s p
    unfold readU; split
    · simp
    split
    · simp
    · exact this
  unfold Pa.horologeref01_ReadI.f readI
  rw [refReadU_is s p hs, Option.bind_some]
  by_cases h : (readU s p).2.2 = 0
  · rw [if_pos h, if_pos h]
    congr 2
    rw [IntKind.wrap_u64]; unfold wrap64; omega
  · rw [if_neg h, if_neg h]
end Go.Proofs.Ytkoopobfelcgpaa
end -- C0

section -- C1
/- layer 6: byte buffers that grow: pack's numbers, modelio.ints, modelio.float -/
namespace Go.Proofs.Ytkoopobfelcgpaa
open Go.RowKit Go.Proofs.YtkoopobfelcgpaaW.PrintWords Go.Proofs.YtkoopobfelcgpaaW.PrintMore

theorem Gr.of_drawn {a b : World} (h : Drawn0 a b) : Gr a b := by obtain ⟨n, rfl⟩ := h.out; exact (Gr.refl a).drewN n

/-- a string of numbers -/
abbrev S8 (l : List Int) : ByteArray := strOfNums l
def OkBytes (l : List Int) : Prop := ∀ x ∈ l, 0 ≤ x ∧ x < 256
theorem be8_ok (x : Int) : OkBytes (be8 x) := by
  intro y hy
  simp only [be8, List.mem_cons, List.not_mem_nil, or_false] at hy
  omega
theorem bytesOf_str (l : List Int) (h : OkBytes l) : bytesOf (strOfNums l) = l := by
  unfold bytesOf strOfNums
  simp only [List.map_map]
  conv => rhs; rw [← List.map_id l]
  apply List.map_congr_left
  intro x hx
  have := h x hx
  simp only [Function.comp, UInt8.toNat_ofNat', id]
  omega

theorem packI_any (n : Int) (w : World) : Calls Try.prog 154 #[.int .i64 n] w fun e w' => e = .returned (.string (S8 (encI n))) ∧ Gr w w' := Pa.pack_I.calls 20 n _ w (packI_is n)
theorem packU_any (x : Int) (w : World) : Calls Try.prog 155 #[.int .u64 x] w fun e w' => e = .returned (.string (S8 (be8 x))) ∧ Gr w w' := Pa.pack_U.calls 20 x _ w (packU_is x)
theorem refI_any (n : Int) (w : World) : Calls Try.prog 95 #[.int .i64 n] w fun e w' => e = .returned (.string (S8 (encI n))) ∧ Gr w w' := Pa.horologeref01_I.calls 20 n _ w (refI_is n)
theorem refU_any (x : Int) (h0 : 0 ≤ x) (w : World) : Calls Try.prog 153 #[.int .u64 x] w fun e w' => e = .returned (.string (S8 (be8 x))) ∧ Gr w w' := Pa.horologeref01_U.calls 20 x _ w (refU_is x h0)
theorem readI_any (s : ByteArray) (p : Int) (hs : s.size ≤ 1099511627776) (w : World) : Calls Try.prog 156 #[.string s, .int .i64 p] w fun e w' => e = .returned (.tuple #[.int .i64 (readI s p).1, .int .i64 (readI s p).2.1, .int .i64 (readI s p).2.2]) ∧ Gr w w' :=
  (Pa.pack_ReadI.calls 20 s p _ _ _ w (readI_is s p hs)).mono fun _ _ ⟨h1, h2⟩ => ⟨h1, Gr.of_drawn h2⟩
theorem readU_any (s : ByteArray) (p : Int) (hs : s.size ≤ 1099511627776) (w : World) : Calls Try.prog 157 #[.string s, .int .i64 p] w fun e w' => e = .returned (.tuple #[.int .u64 (readU s p).1, .int .i64 (readU s p).2.1, .int .i64 (readU s p).2.2]) ∧ Gr w w' :=
  (Pa.pack_ReadU.calls 20 s p _ _ _ w (readU_is s p hs)).mono fun _ _ ⟨h1, h2⟩ => ⟨h1, Gr.of_drawn h2⟩
theorem refReadI_any (s : ByteArray) (p : Int) (hs : s.size ≤ 1099511627776) (w : World) : Calls Try.prog 159 #[.string s, .int .i64 p] w fun e w' => e = .returned (.tuple #[.int .i64 (readI s p).1, .int .i64 (readI s p).2.1, .int .i64 (readI s p).2.2]) ∧ Gr w w' :=
  (Pa.horologeref01_ReadI.calls 20 s p _ _ _ w (refReadI_is s p hs)).mono fun _ _ ⟨h1, h2⟩ => ⟨h1, Gr.of_drawn h2⟩
theorem refReadU_any (s : ByteArray) (p : Int) (hs : s.size ≤ 1099511627776) (w : World) : Calls Try.prog 160 #[.string s, .int .i64 p] w fun e w' => e = .returned (.tuple #[.int .u64 (readU s p).1, .int .i64 (readU s p).2.1, .int .i64 (readU s p).2.2]) ∧ Gr w w' :=
  (Pa.horologeref01_ReadU.calls 20 s p _ _ _ w (refReadU_is s p hs)).mono fun _ _ ⟨h1, h2⟩ => ⟨h1, Gr.of_drawn h2⟩

/-- a block of bytes -/
def U8 (w : World) (k : Nat) : Prop := ∃ cells, w.heap[k]? = some (.cells cells 5 (0, 0))
/-- nothing below n turns, and nothing but blocks of bytes turns -/
structure Step8 (n : Nat) (w W : World) : Prop where
  below : Below n w W
  kept : ∀ i, i < w.heap.size → ¬ U8 w i → W.heap[i]? = w.heap[i]?
theorem Step8.refl (n : Nat) (w : World) : Step8 n w w := ⟨Below.refl _ _, fun _ _ _ => rfl⟩
theorem Step8.size {n : Nat} {w W : World} (h : Step8 n w W) : w.heap.size ≤ W.heap.size := h.below.size
theorem Step8.trans {n : Nat} {a b c : World} (h : Step8 n a b) (k : Step8 n b c) : Step8 n a c :=
  ⟨h.below.trans k.below, fun i hi hu => by
    have e := h.kept i hi hu
    rw [k.kept i (Nat.lt_of_lt_of_le hi h.size) (fun ⟨cs, hc⟩ => hu ⟨cs, by rw [← e]; exact hc⟩), e]⟩
theorem Step8.of_gr {n : Nat} {w W : World} (g : Gr w W) (hn : n ≤ w.heap.size) : Step8 n w W := ⟨Below.mono g hn, fun i hi _ => g.block i hi⟩
theorem Step8.gr {n : Nat} {a b c : World} (h : Step8 n a b) (g : Gr b c) (hn : n ≤ b.heap.size) : Step8 n a c := h.trans (Step8.of_gr g hn)
theorem Step8.old {w0 w W : World} (h : Step8 w0.heap.size w W) (g : Gr w0 w) : Gr w0 W := Below.trans g h.below
theorem Step8.cell {n : Nat} {w W : World} (h : Step8 n w W) {b o t : Nat} {cs : Array Value} {f : Nat × Nat} {v : Value} (hb : w.heap[b]? = some (.cells cs t f)) (ht : t ≠ 5) (hc : w.cell? ⟨b, o, none⟩ = some v) : W.cell? ⟨b, o, none⟩ = some v := by
  have hl : b < w.heap.size := by
    rcases Nat.lt_or_ge b w.heap.size with g | g
    · exact g
    · rw [Array.getElem?_eq_none g] at hb; cases hb
  have e := h.kept b hl (fun ⟨cs', hc'⟩ => by rw [hb] at hc'; injection hc' with hc'; injection hc' with _ h2; exact ht h2)
  rw [World.cell?_of_block (w := w) e]; exact hc

/-- the call's own buffer (its block from n on): it holds these bytes -/
def Buf (n : Nat) (w : World) (v : Value) (l : List Int) : Prop := (Kd.int .u8).R 5 w n (fun _ => True) v l
theorem Buf.nil (n : Nat) (w : World) : Buf n w (.slice none 0 0) [] := Kd.R_nil _ _ _ _ _
theorem Buf.gr {n : Nat} {w W : World} {v : Value} {l : List Int} (h : Buf n w v l) (g : Gr w W) : Buf n W v l := Kd.R_below h g
theorem Buf.own {n : Nat} {w : World} {v : Value} {l : List Int} (h : Buf n w v l) : w.ownsRow n 5 1 v l.length (encs (Value.int .u8) l) := Kd.own_of_R h
theorem Buf.of {n : Nat} {w : World} {v : Value} {l : List Int} (h : w.ownsRow n 5 1 v l.length (encs (Value.int .u8) l)) : Buf n w v l := Kd.R_of_own h (fun _ _ => trivial)
theorem Buf.shape {n : Nat} {w : World} {v : Value} {l : List Int} (h : Buf n w v l) : ∃ a m c, v = .slice a m c := by obtain ⟨a, c, e⟩ := Kd.R_slice h; exact ⟨a, _, c, e⟩
theorem Buf.low {n n' : Nat} {w : World} {v : Value} {l : List Int} (h : Buf n w v l) (hn : n' ≤ n) : Buf n' w v l := Kd.R_lower h hn
theorem Step8.grown {n : Nat} {a b c : World} {v : Value} {l : List Int} (h : Step8 n a b) (hb : Buf n b v l) (hn : n ≤ b.heap.size) (hg : b.grownBy c v.ownBlock) : Step8 n a c := by
  refine h.trans ⟨(Below.refl _ _).grown hg hn (own_base hb.own), fun i hi hu => hg.block i hi (fun e => hu ?_)⟩
  obtain ⟨cs, hc⟩ := own_typed hb.own i e.symm
  exact ⟨cs, hc⟩
/-- what a buffer says as a string -/
theorem Buf.string {n : Nat} {w : World} {v : Value} {l : List Int} (h : Buf n w v l) : (convert 105 9 v).run Try.prog w = .ok (.string (S8 l)) w := own_string (P := Try.prog) Try.underlying105 Try.underlying5 Try.underlying9 (Kd.own_of_R h)

/-- append(b, s...), s a string -/
theorem wpList_append_s8 {ops : Array Oper} {rest : List Oper} {o : Oper} {a : Act} {Q : Exit → Act → World → Prop} {W : World} (hgd : o.guard = none) (s x : Operand) (ho : o.op = .call { callee := .builtin .append, args := #[s, x], argTypes := #[105, 9] })
    (n : Nat) (v : Value) (l r : List Int) (hs : a.eval s = v) (hx : a.eval x = .string (S8 r)) (HO : Buf n W v l) (hr : OkBytes r) (hbase : n ≤ W.heap.size) (hl : l.length + r.length ≤ 140737488355328)
    (h : ∀ v1 w1, Buf n w1 v1 (l ++ r) → Step8 n W w1 → wpList Try.prog ops Q rest (a.put o.dst v1) w1) : wpList Try.prog ops Q (o :: rest) a W := by
  refine print_append_str (w0 := W) n hgd s x 105 9 5 ho Try.underlying105 Try.underlying9 Pa.info5 v l (S8 r) hs hx HO.own (Below.refl _ _) hbase (by rw [strOfNums_size]; exact hl) ?_
  intro v1 w1 h1 _ h3
  rw [bytesOf_str r hr] at h1
  exact h v1 w1 (Buf.of h1) ((Step8.refl n W).grown HO hbase h3)

theorem Sl.cells {w : World} {a : Option Addr} {n c : Nat} {l : List Int} (h : Sl 1 IntAt w (.slice a n c) l) : n = l.length ∧ l.length ≤ c ∧ c ≤ maxLen ∧ ∀ k, (hk : k < l.length) → ∃ b o, a = some ⟨b, o, none⟩ ∧ w.cell? ⟨b, o + k, none⟩ = some (.int .i64 l[k]) := by
  obtain ⟨a', c', e, h1, h2, h3, h4⟩ := h
  injection e with e1 e2 e3
  subst e1 e2 e3
  refine ⟨rfl, h1, h2, fun k hk => ?_⟩
  obtain ⟨b, o, ea, hR⟩ := h4 k l[k] (List.getElem?_eq_getElem hk)
  rw [Nat.mul_one] at hR
  exact ⟨b, o, ea, hR⟩

theorem encI_ok (n : Int) : OkBytes (encI n) := be8_ok _
def encL (l : List Int) : List Int := l.flatMap encI
theorem encL_len (l : List Int) : (encL l).length = 8 * l.length := by
  unfold encL
  induction l with
  | nil => rfl
  | cons x l ih => rw [List.flatMap_cons, List.length_append, ih, encI_len, List.length_cons]; omega
theorem encL_snoc (l : List Int) (k : Nat) (hk : k < l.length) : encL (l.take (k + 1)) = encL (l.take k) ++ encI l[k] := by
  unfold encL
  rw [List.take_succ_eq_append_getElem hk, List.flatMap_append, List.flatMap_singleton]

set_option maxHeartbeats 1000000 in
theorem ints_any (n : Nat) (v u : Value) (l xs : List Int) (w : World) (hn : n ≤ w.heap.size) (hb : Buf n w v l) (hr : ∀ W, Step8 n w W → Sl 1 IntAt W u xs) (hl : l.length + 8 * xs.length ≤ 1099511627776) :
    Calls Try.prog 97 #[v, u] w fun e W => ∃ v', e = .returned v' ∧ Buf n W v' (l ++ encL xs) ∧ Step8 n w W := by
  obtain ⟨a, cap, rfl, hlc, hcm, -, -⟩ := hr w (Step8.refl _ _)
  obtain ⟨a0, m0, cap0, rfl⟩ := hb.shape
  unfold maxLen at hcm
  have HR := Lib.hid hr; clear hr
  have HB := Lib.hid hb; clear hb
  go_enter Try.func97, Try.ntmps97
  go_wp2
  go_loopg [0, 9] xs.length (fun g b i wr => ∃ k : Nat, g + k = xs.length ∧ i = .int .i64 k ∧ Buf n wr b (l ++ encL (xs.take k)) ∧ Step8 n w wr)
  case atStart => exact ⟨0, by omega, rfl, by simpa [encL] using HB.out, Step8.refl _ _⟩
  case round =>
    obtain ⟨k, hk, rfl, hbuf, hst⟩ := hrel
    have HBUF := Lib.hid hbuf
    have HST := Lib.hid hst
    obtain ⟨a1, m1, cap1, rfl⟩ := hbuf.shape
    clear hbuf hst
    by_cases hlt : k < xs.length
    · obtain ⟨-, -, -, hcell⟩ := (HR.out wr HST.out).cells
      obtain ⟨b, o, rfl, hc⟩ := hcell k hlt
      clear hcell
      have HE := Lib.hid (encL_snoc xs k hlt)
      have HLN := Lib.hid (encL_len (xs.take k))
      go_wp2_with (first
        | (go_at_call 154; refine (packI_any _ _).mono ?_; rintro e w' ⟨rfl, hg⟩; have HG := Lib.hid hg; clear hg)
        | (at_builtin; refine wpList_append_s8 rfl _ _ rfl n _ (l ++ encL (xs.take k)) (encI xs[k]) rfl rfl (HBUF.out.gr HG.out) (encI_ok _) (Nat.le_trans hn (Nat.le_trans HST.out.size HG.out.size)) ?hlen ?_
           case hlen => (rw [List.length_append, HLN.out, encI_len, List.length_take]; omega)
           intro v1 w1 hb1 hs1
           obtain ⟨a2, m2, c2, rfl⟩ := hb1.shape
           have HB1 := Lib.hid hb1
           have HS1 := Lib.hid hs1
           clear hb1 hs1))
      go_roundg (gk - 1)
      case measure => omega
      case rel => exact ⟨k + 1, by omega, by go_num, by rw [HE.out, ← List.append_assoc]; exact HB1.out, (HST.out.gr HG.out (Nat.le_trans hn HST.out.size)).trans HS1.out⟩
    · have HT := Lib.hid (List.take_of_length_le (l := xs) (i := k) (by omega))
      go_wp2
      go_ret
      exact ⟨_, rfl, (by have := HBUF.out; rw [HT.out] at this; exact this), HST.out⟩

set_option maxHeartbeats 1000000 in
theorem float8_any (n : Nat) (v : Value) (l : List Int) (x : Nat) (w : World) (hn : n ≤ w.heap.size) (hb : Buf n w v l) (hl : l.length + 8 ≤ 1099511627776) :
    Calls Try.prog 99 #[v, .float .f64 x] w fun e W => ∃ v', e = .returned v' ∧ Buf n W v' (l ++ be8 x) ∧ Step8 n w W := by
  obtain ⟨a0, m0, cap0, rfl⟩ := hb.shape
  have HB := Lib.hid hb; clear hb
  have hx := run_fbits
  go_enter Try.func99, Try.ntmps99
  go_wp2_with (first
    | (go_at_call 155; refine (packU_any _ _).mono ?_; rintro e w' ⟨rfl, hg⟩; have HG := Lib.hid hg; clear hg)
    | (at_builtin; refine wpList_append_s8 rfl _ _ rfl n _ l (be8 x) rfl rfl (HB.out.gr HG.out) (be8_ok _) (Nat.le_trans hn HG.out.size) ?hlen ?_
       case hlen => (rw [be8_len]; omega)
       intro v1 w1 hb1 hs1
       obtain ⟨a2, m2, c2, rfl⟩ := hb1.shape
       have HB1 := Lib.hid hb1
       have HS1 := Lib.hid hs1
       clear hb1 hs1))
  clear hx
  go_ret
  exact ⟨_, rfl, HB1.out, (Step8.of_gr HG.out hn).trans HS1.out⟩
end Go.Proofs.Ytkoopobfelcgpaa
end -- C1

section -- C2
/- layer 6: modelio.list at each of its types, Put's functions -/
namespace Go.Proofs.Ytkoopobfelcgpaa
open Go.RowKit Go.Proofs.YtkoopobfelcgpaaW.PrintWords Go.Proofs.YtkoopobfelcgpaaW.PrintMore

theorem fm_snoc {α : Type} (f : α → List Int) (l : List α) (k : Nat) (hk : k < l.length) : (l.take (k + 1)).flatMap f = (l.take k).flatMap f ++ f l[k] := by
  rw [List.take_succ_eq_append_getElem hk, List.flatMap_append, List.flatMap_singleton]
theorem fm_le {α : Type} (f : α → List Int) (l : List α) (k : Nat) (hk : k < l.length) : ((l.take k).flatMap f).length + (f l[k]).length ≤ (l.flatMap f).length := by
  have h := congrArg (List.flatMap f) (List.take_append_drop (k + 1) l)
  rw [List.flatMap_append, fm_snoc f l k hk] at h
  have := congrArg List.length h
  rw [List.length_append, List.length_append] at this
  omega

/-- a literal of whole numbers, made just now -/
theorem lit_heap (w : World) (cs : Array Value) (t : TypeId) : (w.alloc (.cells cs t)).heap[w.heap.size]? = some (.cells cs t (0, 0)) := by
  show (w.heap.push _)[w.heap.size]? = _
  simp
theorem lit1 {n B : Nat} {w : World} {x : Int} (hB : B = w.heap.size) : ∀ W, Step8 n (w.alloc (.cells #[.int .i64 x] 3)) W → Sl 1 IntAt W (.slice (some ⟨B, 0, none⟩) 1 1) [x] := by subst hB; exact fun _ h =>
  ⟨_, _, rfl, Nat.le_refl _, by unfold maxLen; omega, (fun e => by cases e), fun i y hy => ⟨w.heap.size, 0, rfl, by
    match i with
    | 0 => simp only [List.getElem?_cons_zero, Option.some.injEq] at hy; subst hy; exact h.cell (lit_heap w _ _) (by decide) (by simp)⟩⟩
theorem lit2 {n B : Nat} {w : World} {x y : Int} (hB : B = w.heap.size) : ∀ W, Step8 n (w.alloc (.cells #[.int .i64 x, .int .i64 y] 3)) W → Sl 1 IntAt W (.slice (some ⟨B, 0, none⟩) 2 2) [x, y] := by subst hB; exact fun _ h =>
  ⟨_, _, rfl, Nat.le_refl _, by unfold maxLen; omega, (fun e => by cases e), fun i y hy => ⟨w.heap.size, 0, rfl, by
    match i with
    | 0 => simp only [List.getElem?_cons_zero, Option.some.injEq] at hy; subst hy; exact h.cell (lit_heap w _ _) (by decide) (by simp)
    | 1 => simp only [List.getElem?_cons_zero, List.getElem?_cons_succ, Option.some.injEq] at hy; subst hy; exact h.cell (lit_heap w _ _) (by decide) (by simp)⟩⟩
theorem lit4 {n B : Nat} {w : World} {x y z q : Int} (hB : B = w.heap.size) : ∀ W, Step8 n (w.alloc (.cells #[.int .i64 x, .int .i64 y, .int .i64 z, .int .i64 q] 3)) W → Sl 1 IntAt W (.slice (some ⟨B, 0, none⟩) 4 4) [x, y, z, q] := by subst hB; exact fun _ h =>
  ⟨_, _, rfl, Nat.le_refl _, by unfold maxLen; omega, (fun e => by cases e), fun i y hy => ⟨w.heap.size, 0, rfl, by
    match i with
    | 0 => simp only [List.getElem?_cons_zero, Option.some.injEq] at hy; subst hy; exact h.cell (lit_heap w _ _) (by decide) (by simp)
    | 1 => simp only [List.getElem?_cons_zero, List.getElem?_cons_succ, Option.some.injEq] at hy; subst hy; exact h.cell (lit_heap w _ _) (by decide) (by simp)
    | 2 => simp only [List.getElem?_cons_zero, List.getElem?_cons_succ, Option.some.injEq] at hy; subst hy; exact h.cell (lit_heap w _ _) (by decide) (by simp)
    | 3 => simp only [List.getElem?_cons_zero, List.getElem?_cons_succ, Option.some.injEq] at hy; subst hy; exact h.cell (lit_heap w _ _) (by decide) (by simp)⟩⟩

def encF (x : Nat) : List Int := be8 x
def encIns (x : PIns) : List Int := encL [x.op, x.a, x.b, x.c]
def encA {α : Type} (f : α → List Int) (l : List α) : List Int := encI l.length ++ l.flatMap f
def encProg (p : List PIns) : List Int := encA encIns p
def encLP (x : PLP) : List Int := encI x.prog ++ encA encI x.words
def encInit (x : PInit) : List Int := be8 x.t ++ encL [x.dst, x.pay]
theorem encL_one (x : Int) : encL [x] = encI x := by simp [encL]

set_option maxHeartbeats 1000000 in
theorem listF_any (w0 w : World) (v u : Value) (l : List Int) (xs : List Nat) (hg : Gr w0 w) (hb : Buf w0.heap.size w v l) (hr : Sl 1 FloatAt w0 u xs) (hl : l.length + 8 + (xs.flatMap encF).length ≤ 1099511627776) :
    Calls Try.prog 100 #[v, u, .func (.func 99) #[] #[]] w fun e W => ∃ v', e = .returned v' ∧ Buf w0.heap.size W v' (l ++ encA encF xs) ∧ Step8 w0.heap.size w W := by
  obtain ⟨a, cap, rfl, hlc, hcm, -, hel⟩ := hr
  obtain ⟨a0, m0, cap0, rfl⟩ := hb.shape
  unfold maxLen at hcm
  have HEL := Lib.hid hel; clear hel
  have HB := Lib.hid hb; clear hb
  have HG := Lib.hid hg
  have hn := hg.size
  clear hg
  go_enter Try.func100, Try.ntmps100
  go_wp2_with (go_at_call 97; refine (ints_any w0.heap.size _ _ l [(xs.length : Int)] _ (Nat.le_trans hn (by simp)) (HB.out.gr ((Gr.refl _).alloc _)) (lit1 rfl) (by simp; omega)).mono ?_; rintro e w' ⟨v', rfl, hb', hs'⟩
               obtain ⟨a1, m1, c1, rfl⟩ := hb'.shape
               have HB' := Lib.hid hb'
               have HS' := Lib.hid ((Step8.of_gr ((Gr.refl w).alloc _) hn).trans hs')
               clear hb' hs')
  go_loopg [0, 16] xs.length (fun g b i wr => ∃ k : Nat, g + k = xs.length ∧ i = .int .i64 k ∧ Buf w0.heap.size wr b (l ++ encI xs.length ++ (xs.take k).flatMap encF) ∧ Step8 w0.heap.size w wr)
  case atStart => exact ⟨0, by omega, rfl, by simpa [encL_one] using HB'.out, HS'.out⟩
  case round =>
    clear HB' HS'
    obtain ⟨k, hk, rfl, hbuf, hst⟩ := hrel
    have HBUF := Lib.hid hbuf
    have HST := Lib.hid hst
    obtain ⟨a2, m2, c2, rfl⟩ := hbuf.shape
    clear hbuf hst
    by_cases hlt : k < xs.length
    · obtain ⟨b, o, rfl, hR⟩ := HEL.out k xs[k] (by simp [hlt])
      have HGR := Lib.hid (HST.out.old HG.out)
      have p0 := HGR.out.cell hR
      rw [Nat.mul_one] at p0
      clear hR
      have HE := Lib.hid (fm_snoc encF xs k hlt)
      have HLE := Lib.hid (fm_le encF xs k hlt)
      have HSZ := Lib.hid (Nat.le_trans hn HST.out.size)
      go_wp2_with (go_at_call 99
                   refine (float8_any w0.heap.size _ (l ++ encI xs.length ++ (xs.take k).flatMap encF) xs[k] _ HSZ.out (HBUF.out) (by have := HLE.out; have e8 := encI_len (xs.length : Int); have e9 : (encF xs[k]).length = 8 := rfl; simp only [List.length_append, e8, e9] at *; omega)).mono ?_
                   rintro e w2 ⟨v2, rfl, hb2, hs2⟩
                   obtain ⟨a3, m3, c3, rfl⟩ := hb2.shape
                   have HB2 := Lib.hid hb2
                   have HS2 := Lib.hid (HST.out.trans ((Step8.of_gr (Gr.refl _) HSZ.out).trans hs2))
                   clear hb2 hs2)
      go_roundg (gk - 1)
      case measure => omega
      case rel => exact ⟨k + 1, by omega, by go_num, by rw [HE.out, ← List.append_assoc]; exact HB2.out, HS2.out⟩
    · have HT := Lib.hid (List.take_of_length_le (l := xs) (i := k) (by omega))
      go_wp2
      go_ret
      exact ⟨_, rfl, (by have := HBUF.out; rw [HT.out, List.append_assoc] at this; exact this), HST.out⟩

theorem word_any (n : Nat) (v : Value) (l : List Int) (x : Int) (w : World) (hn : n ≤ w.heap.size) (hb : Buf n w v l) (hl : l.length + 8 ≤ 1099511627776) :
    Calls Try.prog 98 #[v, .int .i64 x] w fun e W => ∃ v', e = .returned v' ∧ Buf n W v' (l ++ encI x) ∧ Step8 n w W := by
  obtain ⟨a0, m0, cap0, rfl⟩ := hb.shape
  have HB := Lib.hid hb; clear hb
  go_enter Try.func98, Try.ntmps98
  go_wp2_with (go_at_call 97; refine (ints_any n _ _ l [x] _ (Nat.le_trans hn (by simp)) (HB.out.gr ((Gr.refl _).alloc _)) (lit1 rfl) (by simp; omega)).mono ?_; rintro e w' ⟨v', rfl, hb', hs'⟩
               obtain ⟨a1, m1, c1, rfl⟩ := hb'.shape
               have HB' := Lib.hid hb'
               have HS' := Lib.hid ((Step8.of_gr ((Gr.refl w).alloc _) hn).trans hs')
               clear hb' hs')
  go_ret
  exact ⟨_, rfl, (by have := HB'.out; rw [encL_one] at this; exact this), HS'.out⟩

set_option maxHeartbeats 1000000 in
theorem listI_any (w0 w : World) (v u : Value) (l : List Int) (xs : List Int) (hg : Gr w0 w) (hb : Buf w0.heap.size w v l) (hr : Sl 1 IntAt w0 u xs) (hl : l.length + 8 + (xs.flatMap encI).length ≤ 1099511627776) :
    Calls Try.prog 106 #[v, u, .func (.func 98) #[] #[]] w fun e W => ∃ v', e = .returned v' ∧ Buf w0.heap.size W v' (l ++ encA encI xs) ∧ Step8 w0.heap.size w W := by
  obtain ⟨a, cap, rfl, hlc, hcm, -, hel⟩ := hr
  obtain ⟨a0, m0, cap0, rfl⟩ := hb.shape
  unfold maxLen at hcm
  have HEL := Lib.hid hel; clear hel
  have HB := Lib.hid hb; clear hb
  have HG := Lib.hid hg
  have hn := hg.size
  clear hg
  go_enter Try.func106, Try.ntmps106
  go_wp2_with (go_at_call 97; refine (ints_any w0.heap.size _ _ l [(xs.length : Int)] _ (Nat.le_trans hn (by simp)) (HB.out.gr ((Gr.refl _).alloc _)) (lit1 rfl) (by simp; omega)).mono ?_; rintro e w' ⟨v', rfl, hb', hs'⟩
               obtain ⟨a1, m1, c1, rfl⟩ := hb'.shape
               have HB' := Lib.hid hb'
               have HS' := Lib.hid ((Step8.of_gr ((Gr.refl w).alloc _) hn).trans hs')
               clear hb' hs')
  go_loopg [0, 16] xs.length (fun g b i wr => ∃ k : Nat, g + k = xs.length ∧ i = .int .i64 k ∧ Buf w0.heap.size wr b (l ++ encI xs.length ++ (xs.take k).flatMap encI) ∧ Step8 w0.heap.size w wr)
  case atStart => exact ⟨0, by omega, rfl, by simpa [encL_one] using HB'.out, HS'.out⟩
  case round =>
    clear HB' HS'
    obtain ⟨k, hk, rfl, hbuf, hst⟩ := hrel
    have HBUF := Lib.hid hbuf
    have HST := Lib.hid hst
    obtain ⟨a2, m2, c2, rfl⟩ := hbuf.shape
    clear hbuf hst
    by_cases hlt : k < xs.length
    · obtain ⟨b, o, rfl, hR⟩ := HEL.out k xs[k] (by simp [hlt])
      have HGR := Lib.hid (HST.out.old HG.out)
      have p0 := HGR.out.cell hR
      rw [Nat.mul_one] at p0
      clear hR
      have HE := Lib.hid (fm_snoc encI xs k hlt)
      have HLE := Lib.hid (fm_le encI xs k hlt)
      have HSZ := Lib.hid (Nat.le_trans hn HST.out.size)
      go_wp2_with (go_at_call 98
                   refine (word_any w0.heap.size _ (l ++ encI xs.length ++ (xs.take k).flatMap encI) xs[k] _ HSZ.out (HBUF.out) (by have := HLE.out; have e8 := encI_len (xs.length : Int); have e9 : (encI xs[k]).length = 8 := rfl; simp only [List.length_append, e8, e9] at *; omega)).mono ?_
                   rintro e w2 ⟨v2, rfl, hb2, hs2⟩
                   obtain ⟨a3, m3, c3, rfl⟩ := hb2.shape
                   have HB2 := Lib.hid hb2
                   have HS2 := Lib.hid (HST.out.trans ((Step8.of_gr (Gr.refl _) HSZ.out).trans hs2))
                   clear hb2 hs2)
      go_roundg (gk - 1)
      case measure => omega
      case rel => exact ⟨k + 1, by omega, by go_num, by rw [HE.out, ← List.append_assoc]; exact HB2.out, HS2.out⟩
    · have HT := Lib.hid (List.take_of_length_le (l := xs) (i := k) (by omega))
      go_wp2
      go_ret
      exact ⟨_, rfl, (by have := HBUF.out; rw [HT.out, List.append_assoc] at this; exact this), HST.out⟩

theorem insB_any (n : Nat) (v : Value) (l : List Int) (x : PIns) (w : World) (hn : n ≤ w.heap.size) (hb : Buf n w v l) (hl : l.length + (encIns x).length ≤ 1099511627776) :
    Calls Try.prog 96 #[v, .agg #[.int .i64 x.op, .int .i64 x.a, .int .i64 x.b, .int .i64 x.c]] w fun e W => ∃ v', e = .returned v' ∧ Buf n W v' (l ++ encIns x) ∧ Step8 n w W := by
  obtain ⟨a0, m0, cap0, rfl⟩ := hb.shape
  have HB := Lib.hid hb; clear hb
  have e32 : (encIns x).length = 32 := (encL_len [x.op, x.a, x.b, x.c]).trans rfl
  rw [e32] at hl
  have hl' := hl
  clear e32
  clear hl
  go_enter Try.func96, Try.ntmps96
  go_wp2_with (go_at_call 97; refine (ints_any n _ _ l [x.op, x.a, x.b, x.c] _ (Nat.le_trans hn (by simp; omega)) (HB.out.gr (((Gr.refl _).alloc _).alloc _)) (lit4 (by simp)) (by simp; omega)).mono ?_; rintro e w' ⟨v', rfl, hb', hs'⟩
               obtain ⟨a1, m1, c1, rfl⟩ := hb'.shape
               have HB' := Lib.hid hb'
               have HS' := Lib.hid ((Step8.of_gr (((Gr.refl w).alloc _).alloc _) hn).trans hs')
               clear hb' hs')
  go_ret
  exact ⟨_, rfl, HB'.out, HS'.out⟩

set_option maxHeartbeats 1000000 in
theorem listIns_any (w0 w : World) (v u : Value) (l : List Int) (xs : List PIns) (hg : Gr w0 w) (hb : Buf w0.heap.size w v l) (hr : Sl 4 InsAt w0 u xs) (hl : l.length + 8 + (xs.flatMap encIns).length ≤ 1099511627776) :
    Calls Try.prog 103 #[v, u, .func (.func 96) #[] #[]] w fun e W => ∃ v', e = .returned v' ∧ Buf w0.heap.size W v' (l ++ encA encIns xs) ∧ Step8 w0.heap.size w W := by
  obtain ⟨a, cap, rfl, hlc, hcm, -, hel⟩ := hr
  obtain ⟨a0, m0, cap0, rfl⟩ := hb.shape
  unfold maxLen at hcm
  have HEL := Lib.hid hel; clear hel
  have HB := Lib.hid hb; clear hb
  have HG := Lib.hid hg
  have hn := hg.size
  clear hg
  go_enter Try.func103, Try.ntmps103
  go_wp2_with (go_at_call 97; refine (ints_any w0.heap.size _ _ l [(xs.length : Int)] _ (Nat.le_trans hn (by simp)) (HB.out.gr ((Gr.refl _).alloc _)) (lit1 rfl) (by simp; omega)).mono ?_; rintro e w' ⟨v', rfl, hb', hs'⟩
               obtain ⟨a1, m1, c1, rfl⟩ := hb'.shape
               have HB' := Lib.hid hb'
               have HS' := Lib.hid ((Step8.of_gr ((Gr.refl w).alloc _) hn).trans hs')
               clear hb' hs')
  go_loopg [0, 16] xs.length (fun g b i wr => ∃ k : Nat, g + k = xs.length ∧ i = .int .i64 k ∧ Buf w0.heap.size wr b (l ++ encI xs.length ++ (xs.take k).flatMap encIns) ∧ Step8 w0.heap.size w wr)
  case atStart => exact ⟨0, by omega, rfl, by simpa [encL_one] using HB'.out, HS'.out⟩
  case round =>
    clear HB' HS'
    obtain ⟨k, hk, rfl, hbuf, hst⟩ := hrel
    have HBUF := Lib.hid hbuf
    have HST := Lib.hid hst
    obtain ⟨a2, m2, c2, rfl⟩ := hbuf.shape
    clear hbuf hst
    by_cases hlt : k < xs.length
    · obtain ⟨b, o, rfl, hR⟩ := HEL.out k xs[k] (by simp [hlt])
      have HGR := Lib.hid (HST.out.old HG.out)
      obtain ⟨p0, p1, p2, p3⟩ := InsAt.gr _ _ _ _ _ HGR.out hR
      clear hR
      have HE := Lib.hid (fm_snoc encIns xs k hlt)
      have HLE := Lib.hid (fm_le encIns xs k hlt)
      have HSZ := Lib.hid (Nat.le_trans hn HST.out.size)
      go_wp2_with (go_at_call 96
                   refine (insB_any w0.heap.size _ (l ++ encI xs.length ++ (xs.take k).flatMap encIns) xs[k] _ (Nat.le_trans HSZ.out (by simp)) (HBUF.out.gr ((Gr.refl _).alloc _)) (by have := HLE.out; have e8 := encI_len (xs.length : Int); simp only [List.length_append, e8]; omega)).mono ?_
                   rintro e w2 ⟨v2, rfl, hb2, hs2⟩
                   obtain ⟨a3, m3, c3, rfl⟩ := hb2.shape
                   have HB2 := Lib.hid hb2
                   have HS2 := Lib.hid (HST.out.trans ((Step8.of_gr ((Gr.refl _).alloc _) HSZ.out).trans hs2))
                   clear hb2 hs2)
      go_roundg (gk - 1)
      case measure => omega
      case rel => exact ⟨k + 1, by omega, by go_num, by rw [HE.out, ← List.append_assoc]; exact HB2.out, HS2.out⟩
    · have HT := Lib.hid (List.take_of_length_le (l := xs) (i := k) (by omega))
      go_wp2
      go_ret
      exact ⟨_, rfl, (by have := HBUF.out; rw [HT.out, List.append_assoc] at this; exact this), HST.out⟩

theorem progB_any (w0 w : World) (v u : Value) (l : List Int) (p : List PIns) (bx : Nat) (hg : Gr w0 w) (hb : Buf w0.heap.size w v l) (hbx : w.cell? ⟨bx, 0, none⟩ = some (.func (.func 96) #[] #[])) (hr : Sl 4 InsAt w0 u p) (hl : l.length + (encProg p).length ≤ 1099511627776) :
    Calls Try.prog 102 #[v, u, .pointer (some ⟨bx, 0, none⟩)] w fun e W => ∃ v', e = .returned v' ∧ Buf w0.heap.size W v' (l ++ encProg p) ∧ Step8 w0.heap.size w W := by
  obtain ⟨a0, m0, cap0, rfl⟩ := hb.shape
  have HR := Lib.hid hr
  obtain ⟨a, cap, rfl, -⟩ := hr
  have HB := Lib.hid hb; clear hb
  have HG := Lib.hid hg; clear hg
  go_enter Try.func102, Try.ntmps102
  go_wp2_with (go_at_call 103; refine (listIns_any w0 _ _ _ l p HG.out HB.out HR.out (by have e8 := encI_len (p.length : Int); unfold encProg encA at hl; rw [List.length_append] at hl; omega)).mono ?_; rintro e w' ⟨v', rfl, hb', hs'⟩
               obtain ⟨a1, m1, c1, rfl⟩ := hb'.shape
               have HB' := Lib.hid hb'
               have HS' := Lib.hid hs'
               clear hb' hs')
  go_ret
  exact ⟨_, rfl, HB'.out, HS'.out⟩

set_option maxHeartbeats 1000000 in
theorem listProg_any (w0 w : World) (v u : Value) (l : List Int) (xs : List (List PIns)) (bx : Nat) (hbx : ∀ W, Step8 w0.heap.size w W → W.cell? ⟨bx, 0, none⟩ = some (.func (.func 96) #[] #[])) (hg : Gr w0 w) (hb : Buf w0.heap.size w v l) (hr : Sl 1 (SlAt 4 InsAt) w0 u xs) (hl : l.length + 8 + (xs.flatMap encProg).length ≤ 1099511627776) :
    Calls Try.prog 101 #[v, u, .func (.func 102) #[] #[.pointer (some ⟨bx, 0, none⟩)]] w fun e W => ∃ v', e = .returned v' ∧ Buf w0.heap.size W v' (l ++ encA encProg xs) ∧ Step8 w0.heap.size w W := by
  obtain ⟨a, cap, rfl, hlc, hcm, -, hel⟩ := hr
  obtain ⟨a0, m0, cap0, rfl⟩ := hb.shape
  unfold maxLen at hcm
  have HEL := Lib.hid hel; clear hel
  have HB := Lib.hid hb; clear hb
  have HG := Lib.hid hg
  have HBX := Lib.hid hbx; clear hbx
  have hn := hg.size
  clear hg
  go_enter Try.func101, Try.ntmps101
  go_wp2_with (go_at_call 97; refine (ints_any w0.heap.size _ _ l [(xs.length : Int)] _ (Nat.le_trans hn (by simp)) (HB.out.gr ((Gr.refl _).alloc _)) (lit1 rfl) (by simp; omega)).mono ?_; rintro e w' ⟨v', rfl, hb', hs'⟩
               obtain ⟨a1, m1, c1, rfl⟩ := hb'.shape
               have HB' := Lib.hid hb'
               have HS' := Lib.hid ((Step8.of_gr ((Gr.refl w).alloc _) hn).trans hs')
               clear hb' hs')
  go_loopg [0, 16] xs.length (fun g b i wr => ∃ k : Nat, g + k = xs.length ∧ i = .int .i64 k ∧ Buf w0.heap.size wr b (l ++ encI xs.length ++ (xs.take k).flatMap encProg) ∧ Step8 w0.heap.size w wr)
  case atStart => exact ⟨0, by omega, rfl, by simpa [encL_one] using HB'.out, HS'.out⟩
  case round =>
    clear HB' HS'
    obtain ⟨k, hk, rfl, hbuf, hst⟩ := hrel
    have HBUF := Lib.hid hbuf
    have HST := Lib.hid hst
    obtain ⟨a2, m2, c2, rfl⟩ := hbuf.shape
    clear hbuf hst
    by_cases hlt : k < xs.length
    · obtain ⟨b, o, rfl, v0, hv, hR⟩ := HEL.out k xs[k] (by simp [hlt])
      have HGR := Lib.hid (HST.out.old HG.out)
      have p0 := HGR.out.cell hv
      rw [Nat.mul_one] at p0
      have HV := Lib.hid hR
      obtain ⟨av, cv, rfl, -⟩ := hR
      have hbx := HBX.out wr HST.out
      clear hv
      have HE := Lib.hid (fm_snoc encProg xs k hlt)
      have HLE := Lib.hid (fm_le encProg xs k hlt)
      have HSZ := Lib.hid (Nat.le_trans hn HST.out.size)
      go_wp2_with (go_at_call 102
                   refine (progB_any w0 _ _ _ (l ++ encI xs.length ++ (xs.take k).flatMap encProg) xs[k] bx HGR.out (HBUF.out) hbx HV.out (by have := HLE.out; have e8 := encI_len (xs.length : Int); simp only [List.length_append, e8]; omega)).mono ?_
                   rintro e w2 ⟨v2, rfl, hb2, hs2⟩
                   obtain ⟨a3, m3, c3, rfl⟩ := hb2.shape
                   have HB2 := Lib.hid hb2
                   have HS2 := Lib.hid (HST.out.trans ((Step8.of_gr (Gr.refl _) HSZ.out).trans hs2))
                   clear hb2 hs2)
      go_roundg (gk - 1)
      case measure => omega
      case rel => exact ⟨k + 1, by omega, by go_num, by rw [HE.out, ← List.append_assoc]; exact HB2.out, HS2.out⟩
    · have HT := Lib.hid (List.take_of_length_le (l := xs) (i := k) (by omega))
      go_wp2
      go_ret
      exact ⟨_, rfl, (by have := HBUF.out; rw [HT.out, List.append_assoc] at this; exact this), HST.out⟩
end Go.Proofs.Ytkoopobfelcgpaa
end -- C2

section -- C3
/- layer 6: Put -/
namespace Go.Proofs.Ytkoopobfelcgpaa
open Go.RowKit Go.Proofs.YtkoopobfelcgpaaW.PrintWords Go.Proofs.YtkoopobfelcgpaaW.PrintMore

/-- a step whose base lies below the world -/
def St (n : Nat) (a b : World) : Prop := n ≤ a.heap.size ∧ Step8 n a b
theorem St.refl {n : Nat} {a : World} (hn : n ≤ a.heap.size) : St n a a := ⟨hn, Step8.refl _ _⟩
theorem St.le {n : Nat} {a b : World} (h : St n a b) : n ≤ b.heap.size := Nat.le_trans h.1 h.2.size
theorem St.alloc {n : Nat} {a b : World} (h : St n a b) (o : Obj) : St n a (b.alloc o) := ⟨h.1, h.2.gr ((Gr.refl _).alloc _) h.le⟩
theorem St.drew {n : Nat} {a b : World} (h : St n a b) : St n a b.drew := ⟨h.1, h.2.gr ((Gr.refl _).drew) h.le⟩
theorem St.step {n : Nat} {a b c : World} (h : St n a b) (k : Step8 n b c) : St n a c := ⟨h.1, h.2.trans k⟩
theorem Buf.alloc {n : Nat} {w : World} {v : Value} {l : List Int} (h : Buf n w v l) (o : Obj) : Buf n (w.alloc o) v l := h.gr ((Gr.refl _).alloc _)
theorem Buf.drew {n : Nat} {w : World} {v : Value} {l : List Int} (h : Buf n w v l) : Buf n w.drew v l := h.gr ((Gr.refl _).drew)

theorem lit_at {w : World} {cs : Array Value} {t B : Nat} (h : B = w.heap.size) : (w.alloc (.cells cs t)).heap[B]? = some (.cells cs t (0, 0)) := by subst h; exact lit_heap w cs t
theorem lit_atD {w : World} {cs : Array Value} {t B : Nat} (h : B = w.heap.size) : (w.alloc (.cells cs t)).drew.heap[B]? = some (.cells cs t (0, 0)) := lit_at h
theorem lit_kept {B t : Nat} {W W' : World} {cs : Array Value} (hk : ∀ i, i < W.heap.size → ¬ U8 W i → W'.heap[i]? = W.heap[i]?) (h : W.heap[B]? = some (.cells cs t (0, 0))) (ht : t ≠ 5) : W'.heap[B]? = some (.cells cs t (0, 0)) := by
  have hl : B < W.heap.size := by
    rcases Nat.lt_or_ge B W.heap.size with g | g
    · exact g
    · rw [Array.getElem?_eq_none g] at h; cases h
  refine (hk B hl ?_).trans h
  rintro ⟨cs', h'⟩
  rw [h] at h'
  injection h' with h'
  injection h' with _ h2
  exact ht h2
theorem lit1h {n B : Nat} {W0 : World} {x : Int} (hB : W0.heap[B]? = some (.cells #[.int .i64 x] 3 (0, 0))) : ∀ W, Step8 n W0 W → Sl 1 IntAt W (.slice (some ⟨B, 0, none⟩) 1 1) [x] := fun _ h =>
  ⟨_, _, rfl, Nat.le_refl _, by unfold maxLen; omega, (fun e => by cases e), fun i y hy => ⟨B, 0, rfl, by
    match i with
    | 0 => simp only [List.getElem?_cons_zero, Option.some.injEq] at hy; subst hy; exact h.cell hB (by decide) (by simp [World.cell?, hB])⟩⟩
theorem lit2h {n B : Nat} {W0 : World} {x y : Int} (hB : W0.heap[B]? = some (.cells #[.int .i64 x, .int .i64 y] 3 (0, 0))) : ∀ W, Step8 n W0 W → Sl 1 IntAt W (.slice (some ⟨B, 0, none⟩) 2 2) [x, y] := fun _ h =>
  ⟨_, _, rfl, Nat.le_refl _, by unfold maxLen; omega, (fun e => by cases e), fun i y hy => ⟨B, 0, rfl, by
    match i with
    | 0 => simp only [List.getElem?_cons_zero, Option.some.injEq] at hy; subst hy; exact h.cell hB (by decide) (by simp [World.cell?, hB])
    | 1 => simp only [List.getElem?_cons_zero, List.getElem?_cons_succ, Option.some.injEq] at hy; subst hy; exact h.cell hB (by decide) (by simp [World.cell?, hB])⟩⟩

set_option maxHeartbeats 4000000 in
set_option maxRecDepth 100000 in
theorem lpB_any (w0 w : World) (v u : Value) (l : List Int) (x : PLP) (bx : Nat) (hg : Gr w0 w) (hb : Buf w0.heap.size w v l) (hbx : ∀ W, Step8 w0.heap.size w W → W.cell? ⟨bx, 0, none⟩ = some (.func (.func 98) #[] #[])) (hr : Sl 1 IntAt w0 u x.words) (hl : l.length + (encLP x).length ≤ 1099511627776) :
    Calls Try.prog 105 #[v, .agg #[.int .i64 x.prog, u], .pointer (some ⟨bx, 0, none⟩)] w fun e W => ∃ v', e = .returned v' ∧ Buf w0.heap.size W v' (l ++ encLP x) ∧ Step8 w0.heap.size w W := by
  obtain ⟨a0, m0, cap0, rfl⟩ := hb.shape
  have HR := Lib.hid hr
  obtain ⟨a, cap, rfl, -⟩ := hr
  have HB := Lib.hid hb; clear hb
  have HG := Lib.hid hg
  have hn := hg.size
  have HBX := Lib.hid hbx
  have hlt := lt_of_cell (hbx w (Step8.refl _ _))
  simp only [] at hlt
  have hl' : l.length + (8 + (8 + ((x.words).flatMap encI).length)) ≤ 1099511627776 := by
    have e8 := encI_len (x.words.length : Int); have e9 := encI_len x.prog; unfold encLP encA at hl; simp only [List.length_append, e8, e9] at hl; omega
  have HL := Lib.hid hl'
  clear hg hbx hl hl'
  have KS := Lib.hid (fun (W : World) (g : St w0.heap.size (w.alloc (.cells #[.int .i64 x.prog, .slice a x.words.length cap] 41)) W) =>
    show (W.cell? ⟨w.heap.size, 0, none⟩ = some (.int .i64 x.prog) ∧ W.cell? ⟨w.heap.size, 1, none⟩ = some (.slice a x.words.length cap) ∧ W.cell? ⟨bx, 0, none⟩ = some (.func (.func 98) #[] #[])) ∧ St w0.heap.size (w.alloc (.cells #[.int .i64 x.prog, .slice a x.words.length cap] 41)) W from
      ⟨⟨g.2.cell (lit_heap w _ _) (by decide) (by simp), g.2.cell (lit_heap w _ _) (by decide) (by simp), HBX.out W ((Step8.of_gr ((Gr.refl w).alloc _) hn).trans g.2)⟩, g⟩)
  have HS0 := Lib.hid (St.refl (n := w0.heap.size) (a := w.alloc (.cells #[.int .i64 x.prog, .slice a x.words.length cap] 41)) (Nat.le_trans hn (by simp)))
  go_enter Try.func105, Try.ntmps105
  go_wp2_with fail
  go_region_held3 (fun W => (W.cell? ⟨w.heap.size, 0, none⟩ = some (.int .i64 x.prog) ∧ W.cell? ⟨w.heap.size, 1, none⟩ = some (.slice a x.words.length cap) ∧ W.cell? ⟨bx, 0, none⟩ = some (.func (.func 98) #[] #[])) ∧ St w0.heap.size (w.alloc (.cells #[.int .i64 x.prog, .slice a x.words.length cap] 41)) W)
    (exact KS.out _ (by repeat (first | exact HS0.out | with_reducible assumption | with_reducible exact And.right (by assumption) | with_reducible refine St.alloc ?_ _ | with_reducible refine St.drew ?_)))
    (first
      | (go_at_call 97
         (refine (ints_any w0.heap.size _ _ l [x.prog] _ (St.le (by repeat (first | exact HS0.out | with_reducible exact And.right (by assumption) | with_reducible refine St.alloc ?_ _ | with_reducible refine St.drew ?_))) (by repeat (first | exact HB.out | refine Buf.alloc ?_ _ | refine Buf.drew ?_)) (lit1h (by first | exact lit_at (by first | rfl | (simp; done)) | exact lit_atD (by first | rfl | (simp; done)))) (by have := HL.out; simp; omega)).mono ?_)
         rintro e w' ⟨v', rfl, hb', hs'⟩
         obtain ⟨a1, m1, c1, rfl⟩ := hb'.shape
         have hst1 : St w0.heap.size (w.alloc (.cells #[.int .i64 x.prog, .slice a x.words.length cap] 41)) w' := St.step (by repeat (first | exact HS0.out | with_reducible exact And.right (by assumption) | with_reducible refine St.alloc ?_ _ | with_reducible refine St.drew ?_)) hs'
         have HB' := Lib.hid hb'
         clear hb' hs')
      | (go_at_call 106
         refine (listI_any w0 _ _ _ (l ++ encL [x.prog]) x.words (by have := (And.right (by assumption) : St w0.heap.size (w.alloc (.cells #[.int .i64 x.prog, .slice a x.words.length cap] 41)) _); exact this.2.old (HG.out.alloc _)) HB'.out HR.out (by have := HL.out; have e9 := encI_len x.prog; rw [encL_one, List.length_append, e9]; omega)).mono ?_
         rintro e w2 ⟨v2, rfl, hb2, hs2⟩
         obtain ⟨a2, m2, c2, rfl⟩ := hb2.shape
         have hst2 : St w0.heap.size (w.alloc (.cells #[.int .i64 x.prog, .slice a x.words.length cap] 41)) w2 := St.step (by exact And.right (by assumption)) hs2
         have HB2 := Lib.hid hb2
         have HS2 := Lib.hid ((Step8.of_gr ((Gr.refl w).alloc _) hn).trans hst2.2)
         clear hb2 hs2))
  all_goals
    go_wp2
    go_ret
    exact ⟨_, rfl, (by have := HB2.out; rw [encL_one, List.append_assoc] at this; exact this), HS2.out⟩


set_option maxHeartbeats 1000000 in
theorem listLP_any (w0 w : World) (v u : Value) (l : List Int) (xs : List PLP) (bx : Nat) (hbx : ∀ W, Step8 w0.heap.size w W → W.cell? ⟨bx, 0, none⟩ = some (.func (.func 98) #[] #[])) (hg : Gr w0 w) (hb : Buf w0.heap.size w v l) (hr : Sl 2 LPAt w0 u xs) (hl : l.length + 8 + (xs.flatMap encLP).length ≤ 1099511627776) :
    Calls Try.prog 104 #[v, u, .func (.func 105) #[] #[.pointer (some ⟨bx, 0, none⟩)]] w fun e W => ∃ v', e = .returned v' ∧ Buf w0.heap.size W v' (l ++ encA encLP xs) ∧ Step8 w0.heap.size w W := by
  obtain ⟨a, cap, rfl, hlc, hcm, -, hel⟩ := hr
  obtain ⟨a0, m0, cap0, rfl⟩ := hb.shape
  unfold maxLen at hcm
  have HEL := Lib.hid hel; clear hel
  have HB := Lib.hid hb; clear hb
  have HG := Lib.hid hg
  have HBX := Lib.hid hbx; clear hbx
  have hn := hg.size
  clear hg
  go_enter Try.func104, Try.ntmps104
  go_wp2_with (go_at_call 97; refine (ints_any w0.heap.size _ _ l [(xs.length : Int)] _ (Nat.le_trans hn (by simp)) (HB.out.gr ((Gr.refl _).alloc _)) (lit1 rfl) (by simp; omega)).mono ?_; rintro e w' ⟨v', rfl, hb', hs'⟩
               obtain ⟨a1, m1, c1, rfl⟩ := hb'.shape
               have HB' := Lib.hid hb'
               have HS' := Lib.hid ((Step8.of_gr ((Gr.refl w).alloc _) hn).trans hs')
               clear hb' hs')
  go_loopg [0, 16] xs.length (fun g b i wr => ∃ k : Nat, g + k = xs.length ∧ i = .int .i64 k ∧ Buf w0.heap.size wr b (l ++ encI xs.length ++ (xs.take k).flatMap encLP) ∧ Step8 w0.heap.size w wr)
  case atStart => exact ⟨0, by omega, rfl, by simpa [encL_one] using HB'.out, HS'.out⟩
  case round =>
    clear HB' HS'
    obtain ⟨k, hk, rfl, hbuf, hst⟩ := hrel
    have HBUF := Lib.hid hbuf
    have HST := Lib.hid hst
    obtain ⟨a2, m2, c2, rfl⟩ := hbuf.shape
    clear hbuf hst
    by_cases hlt : k < xs.length
    · obtain ⟨b, o, rfl, hR⟩ := HEL.out k xs[k] (by simp [hlt])
      have HGR := Lib.hid (HST.out.old HG.out)
      obtain ⟨p0, v0, p1, hv⟩ := LPAt.gr _ _ _ _ _ HGR.out hR
      clear p0 p1 hv
      obtain ⟨p0', v0', p1', hv'⟩ := hR
      have p0 := HGR.out.cell p0'
      have p1 := HGR.out.cell p1'
      have HV := Lib.hid hv'
      obtain ⟨av, cv, rfl, -⟩ := hv'
      clear p0' p1'
      have HE := Lib.hid (fm_snoc encLP xs k hlt)
      have HLE := Lib.hid (fm_le encLP xs k hlt)
      have HSZ := Lib.hid (Nat.le_trans hn HST.out.size)
      go_wp2_with (go_at_call 105
                   refine (lpB_any w0 _ _ _ (l ++ encI xs.length ++ (xs.take k).flatMap encLP) xs[k] bx (HGR.out.alloc _) (HBUF.out.gr ((Gr.refl _).alloc _)) (fun W hW => HBX.out W (HST.out.trans ((Step8.of_gr ((Gr.refl _).alloc _) HSZ.out).trans hW))) HV.out (by have := HLE.out; have e8 := encI_len (xs.length : Int); simp only [List.length_append, e8]; omega)).mono ?_
                   rintro e w2 ⟨v2, rfl, hb2, hs2⟩
                   obtain ⟨a3, m3, c3, rfl⟩ := hb2.shape
                   have HB2 := Lib.hid hb2
                   have HS2 := Lib.hid (HST.out.trans ((Step8.of_gr ((Gr.refl _).alloc _) HSZ.out).trans hs2))
                   clear hb2 hs2)
      go_roundg (gk - 1)
      case measure => omega
      case rel => exact ⟨k + 1, by omega, by go_num, by rw [HE.out, ← List.append_assoc]; exact HB2.out, HS2.out⟩
    · have HT := Lib.hid (List.take_of_length_le (l := xs) (i := k) (by omega))
      go_wp2
      go_ret
      exact ⟨_, rfl, (by have := HBUF.out; rw [HT.out, List.append_assoc] at this; exact this), HST.out⟩

set_option maxHeartbeats 4000000 in
set_option maxRecDepth 100000 in
theorem initB_any (n : Nat) (w : World) (v : Value) (l : List Int) (x : PInit) (hn : n ≤ w.heap.size) (hb : Buf n w v l) (hl : l.length + (encInit x).length ≤ 1099511627776) :
    Calls Try.prog 108 #[v, .agg #[.float .f64 x.t, .int .i64 x.dst, .int .i64 x.pay]] w fun e W => ∃ v', e = .returned v' ∧ Buf n W v' (l ++ encInit x) ∧ Step8 n w W := by
  obtain ⟨a0, m0, cap0, rfl⟩ := hb.shape
  have HB := Lib.hid hb; clear hb
  have e24 : (encInit x).length = 24 := by rw [encInit, List.length_append, encL_len]; rfl
  rw [e24] at hl
  have HL := Lib.hid hl
  clear hl e24
  have KS := Lib.hid (fun (W : World) (g : St n (w.alloc (.cells #[.float .f64 x.t, .int .i64 x.dst, .int .i64 x.pay] 43)) W) =>
    show (W.cell? ⟨w.heap.size, 0, none⟩ = some (.float .f64 x.t) ∧ W.cell? ⟨w.heap.size, 1, none⟩ = some (.int .i64 x.dst) ∧ W.cell? ⟨w.heap.size, 2, none⟩ = some (.int .i64 x.pay)) ∧ St n (w.alloc (.cells #[.float .f64 x.t, .int .i64 x.dst, .int .i64 x.pay] 43)) W from
      ⟨⟨g.2.cell (lit_heap w _ _) (by decide) (by simp), g.2.cell (lit_heap w _ _) (by decide) (by simp), g.2.cell (lit_heap w _ _) (by decide) (by simp)⟩, g⟩)
  have HS0 := Lib.hid (St.refl (n := n) (a := w.alloc (.cells #[.float .f64 x.t, .int .i64 x.dst, .int .i64 x.pay] 43)) (Nat.le_trans hn (by simp)))
  go_enter Try.func108, Try.ntmps108
  go_wp2_with fail
  go_region_held3 (fun W => (W.cell? ⟨w.heap.size, 0, none⟩ = some (.float .f64 x.t) ∧ W.cell? ⟨w.heap.size, 1, none⟩ = some (.int .i64 x.dst) ∧ W.cell? ⟨w.heap.size, 2, none⟩ = some (.int .i64 x.pay)) ∧ St n (w.alloc (.cells #[.float .f64 x.t, .int .i64 x.dst, .int .i64 x.pay] 43)) W)
    (exact KS.out _ (by repeat (first | exact HS0.out | with_reducible assumption | with_reducible exact And.right (by assumption) | with_reducible refine St.alloc ?_ _ | with_reducible refine St.drew ?_)))
    (first
      | (go_at_call 99
         refine (float8_any n _ l x.t _ (St.le (by repeat (first | exact HS0.out | with_reducible exact And.right (by assumption) | with_reducible refine St.alloc ?_ _ | with_reducible refine St.drew ?_))) (by repeat (first | exact HB.out | refine Buf.alloc ?_ _ | refine Buf.drew ?_)) (by have := HL.out; omega)).mono ?_
         rintro e w' ⟨v', rfl, hb', hs'⟩
         obtain ⟨a1, m1, c1, rfl⟩ := hb'.shape
         have hst1 : St n (w.alloc (.cells #[.float .f64 x.t, .int .i64 x.dst, .int .i64 x.pay] 43)) w' := St.step (by repeat (first | exact HS0.out | with_reducible exact And.right (by assumption) | with_reducible refine St.alloc ?_ _ | with_reducible refine St.drew ?_)) hs'
         have hlit := hs'.kept
         have HLIT := Lib.hid hlit
         have HB' := Lib.hid hb'
         clear hb' hs' hlit)
      | (go_at_call 97
         refine (ints_any n _ _ (l ++ be8 x.t) [x.dst, x.pay] _ (St.le (by exact And.right (by assumption))) (by repeat (first | exact HB'.out | refine Buf.alloc ?_ _ | refine Buf.drew ?_)) (lit2h (by first | exact lit_at (by first | rfl | (simp; done)) | exact lit_atD (by first | rfl | (simp; done)) | exact lit_kept HLIT.out (by first | exact lit_at (by first | rfl | (simp; done)) | exact lit_atD (by first | rfl | (simp; done))) (by decide))) (by have := HL.out; have e8 := be8_len x.t; simp [e8]; omega)).mono ?_
         rintro e w2 ⟨v2, rfl, hb2, hs2⟩
         obtain ⟨a2, m2, c2, rfl⟩ := hb2.shape
         have hst2 : St n (w.alloc (.cells #[.float .f64 x.t, .int .i64 x.dst, .int .i64 x.pay] 43)) w2 := St.step (by exact And.right (by assumption)) hs2
         have HB2 := Lib.hid hb2
         have HS2 := Lib.hid ((Step8.of_gr ((Gr.refl w).alloc _) hn).trans hst2.2)
         clear hb2 hs2))
  all_goals
    go_wp2
    go_ret
    exact ⟨_, rfl, (by have := HB2.out; rw [List.append_assoc] at this; exact this), HS2.out⟩

set_option maxHeartbeats 1000000 in
theorem listInit_any (w0 w : World) (v u : Value) (l : List Int) (xs : List PInit) (hg : Gr w0 w) (hb : Buf w0.heap.size w v l) (hr : Sl 3 InitAt w0 u xs) (hl : l.length + 8 + (xs.flatMap encInit).length ≤ 1099511627776) :
    Calls Try.prog 107 #[v, u, .func (.func 108) #[] #[]] w fun e W => ∃ v', e = .returned v' ∧ Buf w0.heap.size W v' (l ++ encA encInit xs) ∧ Step8 w0.heap.size w W := by
  obtain ⟨a, cap, rfl, hlc, hcm, -, hel⟩ := hr
  obtain ⟨a0, m0, cap0, rfl⟩ := hb.shape
  unfold maxLen at hcm
  have HEL := Lib.hid hel; clear hel
  have HB := Lib.hid hb; clear hb
  have HG := Lib.hid hg
  have hn := hg.size
  clear hg
  go_enter Try.func107, Try.ntmps107
  go_wp2_with (go_at_call 97; refine (ints_any w0.heap.size _ _ l [(xs.length : Int)] _ (Nat.le_trans hn (by simp)) (HB.out.gr ((Gr.refl _).alloc _)) (lit1 rfl) (by simp; omega)).mono ?_; rintro e w' ⟨v', rfl, hb', hs'⟩
               obtain ⟨a1, m1, c1, rfl⟩ := hb'.shape
               have HB' := Lib.hid hb'
               have HS' := Lib.hid ((Step8.of_gr ((Gr.refl w).alloc _) hn).trans hs')
               clear hb' hs')
  go_loopg [0, 16] xs.length (fun g b i wr => ∃ k : Nat, g + k = xs.length ∧ i = .int .i64 k ∧ Buf w0.heap.size wr b (l ++ encI xs.length ++ (xs.take k).flatMap encInit) ∧ Step8 w0.heap.size w wr)
  case atStart => exact ⟨0, by omega, rfl, by simpa [encL_one] using HB'.out, HS'.out⟩
  case round =>
    clear HB' HS'
    obtain ⟨k, hk, rfl, hbuf, hst⟩ := hrel
    have HBUF := Lib.hid hbuf
    have HST := Lib.hid hst
    obtain ⟨a2, m2, c2, rfl⟩ := hbuf.shape
    clear hbuf hst
    by_cases hlt : k < xs.length
    · obtain ⟨b, o, rfl, hR⟩ := HEL.out k xs[k] (by simp [hlt])
      have HGR := Lib.hid (HST.out.old HG.out)
      obtain ⟨p0, p1, p2⟩ := InitAt.gr _ _ _ _ _ HGR.out hR
      clear hR
      have HE := Lib.hid (fm_snoc encInit xs k hlt)
      have HLE := Lib.hid (fm_le encInit xs k hlt)
      have HSZ := Lib.hid (Nat.le_trans hn HST.out.size)
      go_wp2_with (go_at_call 108
                   refine (initB_any w0.heap.size _ _ (l ++ encI xs.length ++ (xs.take k).flatMap encInit) xs[k] (Nat.le_trans HSZ.out (by simp)) (HBUF.out.gr ((Gr.refl _).alloc _)) (by have := HLE.out; have e8 := encI_len (xs.length : Int); simp only [List.length_append, e8]; omega)).mono ?_
                   rintro e w2 ⟨v2, rfl, hb2, hs2⟩
                   obtain ⟨a3, m3, c3, rfl⟩ := hb2.shape
                   have HB2 := Lib.hid hb2
                   have HS2 := Lib.hid (HST.out.trans ((Step8.of_gr ((Gr.refl _).alloc _) HSZ.out).trans hs2))
                   clear hb2 hs2)
      go_roundg (gk - 1)
      case measure => omega
      case rel => exact ⟨k + 1, by omega, by go_num, by rw [HE.out, ← List.append_assoc]; exact HB2.out, HS2.out⟩
    · have HT := Lib.hid (List.take_of_length_le (l := xs) (i := k) (by omega))
      go_wp2
      go_ret
      exact ⟨_, rfl, (by have := HBUF.out; rw [HT.out, List.append_assoc] at this; exact this), HST.out⟩
end Go.Proofs.Ytkoopobfelcgpaa
end -- C3

section -- C4
/- layer 6: Put -/
set_option linter.unusedSimpArgs false
namespace Go.Proofs.Ytkoopobfelcgpaa
open Go.RowKit Go.Proofs.YtkoopobfelcgpaaW.PrintWords Go.Proofs.YtkoopobfelcgpaaW.PrintMore

/-- the bytes of a model -/
def lay (m : PModel) : List Int := encI m.seed ++ be8 m.fin ++ encA encF m.delays ++ encA encProg m.programs ++ encA encLP m.lps ++ encA encInit m.init

theorem fm_bound {α : Type} (f : α → List Int) (B : Nat) : ∀ (l : List α), (∀ x ∈ l, (f x).length ≤ B) → (l.flatMap f).length ≤ l.length * B
  | [], _ => by simp
  | x :: l, h => by
    rw [List.flatMap_cons, List.length_append, List.length_cons, Nat.add_mul]
    have h1 := h x (by simp)
    have h2 := fm_bound f B l (fun y hy => h y (by simp [hy]))
    omega
theorem encA_len {α : Type} (f : α → List Int) (l : List α) : (encA f l).length = 8 + (l.flatMap f).length := by
  rw [encA, List.length_append, encI_len]
theorem encIns_len (x : PIns) : (encIns x).length = 32 := (encL_len [x.op, x.a, x.b, x.c]).trans rfl
theorem encInit_len (x : PInit) : (encInit x).length = 24 := by rw [encInit, List.length_append, encL_len, be8_len]; rfl
theorem encProg_len (p : List PIns) (h : p.length ≤ 48) : (encProg p).length ≤ 1544 := by
  have := fm_bound encIns 32 p (fun x _ => by rw [encIns_len]; exact Nat.le_refl _)
  rw [encProg, encA_len]; omega
theorem encLP_len (x : PLP) (h : x.words.length ≤ 8) : (encLP x).length ≤ 80 := by
  have := fm_bound encI 8 x.words (fun x _ => by rw [encI_len]; exact Nat.le_refl _)
  rw [encLP, List.length_append, encA_len, encI_len]; omega
structure Sized (m : PModel) : Prop where
  d : m.delays.length ≤ 8
  p : m.programs.length ≤ 4
  l : m.lps.length ≤ 6
  i : m.init.length ≤ 16
  code : ∀ p ∈ m.programs, p.length ≤ 48
  words : ∀ x ∈ m.lps, x.words.length ≤ 8
theorem sized_of {m : PModel} (h : checkB m = true) : Sized m := by
  simp only [checkB, countsB, Bool.and_eq_true, decide_eq_true_eq, List.all_eq_true] at h
  obtain ⟨⟨⟨⟨_, h1⟩, ⟨_, h2⟩, ⟨_, h3⟩, h4⟩, _⟩, _, h5, h6, _⟩ := h
  refine ⟨h3, h2, h1, h4, fun p hp => ?_, fun x hx => ?_⟩
  · have := h5 p hp
    simp only [progB, Bool.and_eq_true, decide_eq_true_eq] at this
    exact this.2.2
  · have := h6 x hx
    simp only [lpB, Bool.and_eq_true, decide_eq_true_eq] at this
    omega
structure LaySizes (m : PModel) : Prop where
  d : (m.delays.flatMap encF).length ≤ 64
  p : (m.programs.flatMap encProg).length ≤ 6176
  l : (m.lps.flatMap encLP).length ≤ 480
  i : (m.init.flatMap encInit).length ≤ 384
theorem lay_sizes {m : PModel} (h : Sized m) : LaySizes m := by
  have h1 := fm_bound encF 8 m.delays (fun x _ => by rw [encF, be8_len]; exact Nat.le_refl _)
  have h2 := fm_bound encProg 1544 m.programs (fun x hx => encProg_len x (h.code x hx))
  have h3 := fm_bound encLP 80 m.lps (fun x hx => encLP_len x (h.words x hx))
  have h4 := fm_bound encInit 24 m.init (fun x _ => by rw [encInit_len]; exact Nat.le_refl _)
  have := h.d; have := h.p; have := h.l; have := h.i
  exact ⟨by omega, by omega, by omega, by omega⟩

def putS (m : PModel) : ByteArray := if checkB m = true then S8 (lay m) else ⟨#[]⟩

set_option maxHeartbeats 4000000 in
set_option maxRecDepth 100000 in
theorem Put_any (m : PModel) (vd vp vl vi : Value) (w : World) (h : ModelAt w vd vp vl vi m) :
    Calls Try.prog 40 #[.agg #[.int .i64 m.seed, .float .f64 m.fin, vd, vp, vl, vi]] w fun e w' => e = .returned (.tuple #[.string (putS m), .int .i64 (checkE m)]) ∧ Gr w w' := by
  have Q := Lib.hid h
  obtain ⟨ad, cd, rfl, -⟩ := h.delays
  obtain ⟨ap, cp, rfl, -⟩ := h.programs
  obtain ⟨al, cl, rfl, -⟩ := h.lps
  obtain ⟨ai, ci, rfl, -⟩ := h.init
  clear h
  cases hc : checkB m
  case false =>
    have HC := Lib.hid hc
    have he : checkE m = 15 := by simp [checkE, hc]
    have HE := Lib.hid he
    clear hc he
    go_enter Try.func40, Try.ntmps40
    go_wp2_with (go_at_call 31; refine (Calls.to (Check_any m _ _ _ _ _ (Q.out.gr ((Gr.refl _).alloc _))) (intv HE.out)).mono ?_; rintro e w' ⟨rfl, hg⟩; have HG := Lib.hid hg; clear hg)
    go_ret2
    exact ⟨by rw [HE.out, putS, HC.out]; rfl, ((Gr.refl _).alloc _).trans HG.out⟩
  case true =>
    have HC := Lib.hid hc
    have he : checkE m = 0 := by simp [checkE, hc]
    have HE := Lib.hid he
    have HS := Lib.hid (lay_sizes (sized_of hc))
    clear hc he
    go_enter Try.func40, Try.ntmps40
    go_wp2_with (go_at_call 31; refine (Calls.to (Check_any m _ _ _ _ _ (Q.out.gr ((Gr.refl _).alloc _))) (intv HE.out)).mono ?_; rintro e w1 ⟨rfl, hg⟩; have HG := Lib.hid hg; clear hg)
    obtain ⟨W6, hW6⟩ : ∃ W6, W6 = ((w1.alloc (.cells #[.func (.func 96) #[] #[]] 131)).alloc (.cells #[.func (.func 98) #[] #[]] 132)) := ⟨_, rfl⟩
    have hg6 : Gr w W6 := by rw [hW6]; exact ((((Gr.refl w).alloc _).trans HG.out).alloc _).alloc _
    have hbox : W6.heap[w.heap.size]? = some (.cells #[.int .i64 m.seed, .float .f64 m.fin, .slice ad m.delays.length cd, .slice ap m.programs.length cp, .slice al m.lps.length cl, .slice ai m.init.length ci] 28 (0, 0)) := by
      have h1 : w1.heap[w.heap.size]? = some (.cells #[.int .i64 m.seed, .float .f64 m.fin, .slice ad m.delays.length cd, .slice ap m.programs.length cp, .slice al m.lps.length cl, .slice ai m.init.length ci] 28 (0, 0)) := (HG.out.block _ (by simp)).trans (lit_heap w _ _)
      rw [hW6]; exact (((Gr.refl w1).alloc _).alloc _).block _ (Out.lt (T := 28) (cs := [.int .i64 m.seed, .float .f64 m.fin, .slice ad m.delays.length cd, .slice ap m.programs.length cp, .slice al m.lps.length cl, .slice ai m.init.length ci]) h1) |>.trans h1
    have hfi : W6.heap[w1.heap.size]? = some (.cells #[.func (.func 96) #[] #[]] 131 (0, 0)) := by
      rw [hW6]; exact ((Gr.refl _).alloc _).block _ (by simp) |>.trans (lit_heap w1 _ _)
    have hfw : W6.heap[w1.heap.size + 1]? = some (.cells #[.func (.func 98) #[] #[]] 132 (0, 0)) := by
      rw [hW6]; exact lit_at (by simp)
    have KS := Lib.hid (fun (W : World) (g : St w.heap.size W6 W) => show (W.cell? ⟨w.heap.size, 0, none⟩ = some (.int .i64 m.seed) ∧ W.cell? ⟨w.heap.size, 1, none⟩ = some (.float .f64 m.fin) ∧ W.cell? ⟨w.heap.size, 2, none⟩ = some (.slice ad m.delays.length cd) ∧ W.cell? ⟨w.heap.size, 3, none⟩ = some (.slice ap m.programs.length cp) ∧ W.cell? ⟨w.heap.size, 4, none⟩ = some (.slice al m.lps.length cl) ∧ W.cell? ⟨w.heap.size, 5, none⟩ = some (.slice ai m.init.length ci)) ∧ St w.heap.size W6 W from
      ⟨⟨g.2.cell hbox (by decide) (by simp [World.cell?, hbox]), g.2.cell hbox (by decide) (by simp [World.cell?, hbox]), g.2.cell hbox (by decide) (by simp [World.cell?, hbox]), g.2.cell hbox (by decide) (by simp [World.cell?, hbox]), g.2.cell hbox (by decide) (by simp [World.cell?, hbox]), g.2.cell hbox (by decide) (by simp [World.cell?, hbox])⟩, g⟩)
    have KI := Lib.hid (fun (W : World) (g : St w.heap.size W6 W) => show W.cell? ⟨w1.heap.size, 0, none⟩ = some (.func (.func 96) #[] #[]) from g.2.cell hfi (by decide) (by simp [World.cell?, hfi]))
    have KW := Lib.hid (fun (W : World) (g : St w.heap.size W6 W) => show W.cell? ⟨w1.heap.size + 1, 0, none⟩ = some (.func (.func 98) #[] #[]) from g.2.cell hfw (by decide) (by simp [World.cell?, hfw]))
    have HS0 := Lib.hid (St.refl (n := w.heap.size) (a := W6) hg6.size)
    rw [← hW6]
    have HG6 := Lib.hid hg6
    clear hbox hfi hfw hg6 hW6
    go_cut [7] from 13 to 19 (fun t7 W => ∃ a mm c, t7 = .slice a mm c ∧ Buf w.heap.size W (.slice a mm c) (encI m.seed ++ be8 m.fin) ∧ St w.heap.size W6 W)
    case first =>
      go_region_held3 (fun W => (W.cell? ⟨w.heap.size, 0, none⟩ = some (.int .i64 m.seed) ∧ W.cell? ⟨w.heap.size, 1, none⟩ = some (.float .f64 m.fin) ∧ W.cell? ⟨w.heap.size, 2, none⟩ = some (.slice ad m.delays.length cd) ∧ W.cell? ⟨w.heap.size, 3, none⟩ = some (.slice ap m.programs.length cp) ∧ W.cell? ⟨w.heap.size, 4, none⟩ = some (.slice al m.lps.length cl) ∧ W.cell? ⟨w.heap.size, 5, none⟩ = some (.slice ai m.init.length ci)) ∧ St w.heap.size W6 W)
        (exact KS.out _ (by repeat (first | exact HS0.out | with_reducible assumption | with_reducible exact And.right (by assumption) | with_reducible refine St.alloc ?_ _ | with_reducible refine St.drew ?_)))
        (first
          | (go_at_call 97
             refine (ints_any w.heap.size _ _ [] [m.seed] _ (St.le (by repeat (first | exact HS0.out | with_reducible assumption | with_reducible exact And.right (by assumption) | with_reducible refine St.alloc ?_ _ | with_reducible refine St.drew ?_))) (by exact Buf.nil _ _) (lit1h (by first | exact lit_at (by first | rfl | (simp; done)) | exact lit_atD (by first | rfl | (simp; done)))) (by simp)).mono ?_
             rintro e w' ⟨v', rfl, hb', hs'⟩
             obtain ⟨a1, m1, c1, rfl⟩ := hb'.shape
             have hst1 : St w.heap.size W6 w' := St.step (by repeat (first | exact HS0.out | with_reducible assumption | with_reducible exact And.right (by assumption) | with_reducible refine St.alloc ?_ _ | with_reducible refine St.drew ?_)) hs'
             have HB' := Lib.hid hb'
             clear hb' hs')
          | (go_at_call 99
             refine (float8_any w.heap.size _ (encI m.seed) m.fin _ (St.le (by exact And.right (by assumption))) (by have := HB'.out; rw [encL_one, List.nil_append] at this; repeat (first | exact this | refine Buf.alloc ?_ _ | refine Buf.drew ?_)) (by rw [encI_len]; omega)).mono ?_
             rintro e w2 ⟨v2, rfl, hb2, hs2⟩
             obtain ⟨a2, m2, c2, rfl⟩ := hb2.shape
             have hst2 : St w.heap.size W6 w2 := St.step (by exact And.right (by assumption)) hs2
             have HB2 := Lib.hid hb2
             clear hb2 hs2))
      all_goals (go_wp2; go_meet)
      all_goals
        case rel => exact ⟨a2, m2, c2, rfl, HB2.out, hst2⟩
    case rest =>
      obtain ⟨a, mm, c, rfl, hb, hst⟩ := hcut
      have HT0 := Lib.hid hst
      have HB0 := Lib.hid hb
      obtain ⟨⟨-, -, p2, -, -, -⟩, -⟩ := KS.out wc hst
      clear hb hst
      have hmf : ∀ (fn : Fn) (first cap : Array Value) (w : World), (Instr.makeFunc fn first cap).run Try.prog w = .ok (.func fn first cap) w := fun _ _ _ _ => rfl
      go_wp2_with (first
      | (go_at_call 100
         refine (listF_any w _ _ _ (encI m.seed ++ be8 m.fin) m.delays (HT0.out.2.old HG6.out) HB0.out Q.out.delays (by have h1 := HS.out.d; have h2 := HS.out.p; have h3 := HS.out.l; have h4 := HS.out.i; simp only [List.length_append, encA_len, encI_len, be8_len]; omega)).mono ?_
         rintro e w2 ⟨v2, rfl, hb', hs'⟩
         obtain ⟨a2, m2, c2, rfl⟩ := hb'.shape
         have HT2 := Lib.hid (HT0.out.step hs')
         have HB2 := Lib.hid hb'
         obtain ⟨⟨-, -, -, p3_2, -, -⟩, -⟩ := KS.out w2 HT2.out
         clear p2
         clear hb' hs')
      | (go_at_call 101
         refine (listProg_any w _ _ _ (encI m.seed ++ be8 m.fin ++ encA encF m.delays) m.programs _ (fun W hW => KI.out W (HT2.out.step hW)) (HT2.out.2.old HG6.out) HB2.out Q.out.programs (by have h1 := HS.out.d; have h2 := HS.out.p; have h3 := HS.out.l; have h4 := HS.out.i; simp only [List.length_append, encA_len, encI_len, be8_len]; omega)).mono ?_
         rintro e w3 ⟨v3, rfl, hb', hs'⟩
         obtain ⟨a3, m3, c3, rfl⟩ := hb'.shape
         have HT3 := Lib.hid (HT2.out.step hs')
         have HB3 := Lib.hid hb'
         obtain ⟨⟨-, -, -, -, p4_3, -⟩, -⟩ := KS.out w3 HT3.out
         clear p3_2
         clear hb' hs')
      | (go_at_call 104
         refine (listLP_any w _ _ _ (encI m.seed ++ be8 m.fin ++ encA encF m.delays ++ encA encProg m.programs) m.lps _ (fun W hW => KW.out W (HT3.out.step hW)) (HT3.out.2.old HG6.out) HB3.out Q.out.lps (by have h1 := HS.out.d; have h2 := HS.out.p; have h3 := HS.out.l; have h4 := HS.out.i; simp only [List.length_append, encA_len, encI_len, be8_len]; omega)).mono ?_
         rintro e w4 ⟨v4, rfl, hb', hs'⟩
         obtain ⟨a4, m4, c4, rfl⟩ := hb'.shape
         have HT4 := Lib.hid (HT3.out.step hs')
         have HB4 := Lib.hid hb'
         obtain ⟨⟨-, -, -, -, -, p5_4⟩, -⟩ := KS.out w4 HT4.out
         clear p4_3
         clear hb' hs')
      | (go_at_call 107
         refine (listInit_any w _ _ _ (encI m.seed ++ be8 m.fin ++ encA encF m.delays ++ encA encProg m.programs ++ encA encLP m.lps) m.init (HT4.out.2.old HG6.out) HB4.out Q.out.init (by have h1 := HS.out.d; have h2 := HS.out.p; have h3 := HS.out.l; have h4 := HS.out.i; simp only [List.length_append, encA_len, encI_len, be8_len]; omega)).mono ?_
         rintro e w5 ⟨v5, rfl, hb', hs'⟩
         obtain ⟨a5, m5, c5, rfl⟩ := hb'.shape
         have HT5 := Lib.hid (HT4.out.step hs')
         have HB5 := Lib.hid hb'
         clear p5_4
         have hcv : (convert 105 9 (.slice a5 m5 c5)).run Try.prog w5 = .ok (.string (S8 (lay m))) w5 := HB5.out.string
         clear hb' hs'))
      go_wp2
      go_ret2
      exact ⟨by rw [HE.out, putS, HC.out]; rfl, HT5.out.2.old HG6.out⟩
end Go.Proofs.Ytkoopobfelcgpaa
end -- C4

section -- C5
/- layer 6: the reference's bytes: Ints, bits -/
namespace Go.Proofs.Ytkoopobfelcgpaa
open Go.RowKit Go.Proofs.YtkoopobfelcgpaaW.PrintWords Go.Proofs.YtkoopobfelcgpaaW.PrintMore

theorem refI_at (k : Nat) (n : Int) : Pa.horologeref01_I.f (20 + k) n = some (S8 (encI n)) := by
  induction k with
  | zero => exact refI_is n
  | succ k ih => exact Pa.horologeref01_I.mono n (20 + k) _ ih
theorem refInts_l0 (l : List Int) (hl : l.length ≤ 1000000) : ∀ (d j : Nat), j + d = l.length → Pa.horologeref06_Ints.l0 (21 + d) l (encL (l.take j)) j = some (S8 (encL l))
  | 0, j, h => by
    rw [Pa.horologeref06_Ints.l0, if_neg (by omega), List.take_of_length_le (by omega)]
  | d + 1, j, h => by
    have hlt : j < l.length := by omega
    have e1 : rd l (j : Int) = l[j] := by unfold rd; simp [hlt]
    have e2 : (encL (l.take j)).length = 8 * j := by rw [encL_len, List.length_take, Nat.min_eq_left (by omega)]
    have e3 : wrap64 ((j : Int) + 1) = ((j + 1 : Nat) : Int) := by unfold wrap64; omega
    rw [show 21 + (d + 1) = (20 + (d + 1)) + 1 by omega, Pa.horologeref06_Ints.l0, if_pos (by omega), if_pos (by omega), e1, refI_at, Option.bind_some, if_pos (by rw [e2, strOfNums_size, encI_len]; omega), e3, bytesOf_str _ (encI_ok _), ← encL_snoc l j hlt]
    rw [show 20 + (d + 1) = 21 + d by omega]
    exact refInts_l0 l hl d (j + 1) (by omega)
theorem refInts_is (l : List Int) (hl : l.length ≤ 1000000) : Pa.horologeref06_Ints.f (21 + l.length) l = some (S8 (encL l)) := by
  exact refInts_l0 l hl l.length 0 (by omega)
theorem Sl.kd {w : World} {a : Option Addr} {n c : Nat} {l : List Int} (h : Sl 1 IntAt w (.slice a n c) l) : n = l.length ∧ l.length ≤ c ∧ Kd.C (Kd.int .i64) w a l.length l := by
  obtain ⟨e, h1, h2, h3⟩ := h.cells
  unfold maxLen at h2
  refine ⟨e, h1, rfl, by omega, fun hn => ?_⟩
  obtain ⟨b, o, ea, _⟩ := h3 0 hn
  refine ⟨⟨b, o, none⟩, ea, fun j p hj => ⟨[.int .i64 p], rfl, rfl, fun i u hu => ?_⟩⟩
  have hlt : j < l.length := by
    rcases Nat.lt_or_ge j l.length with g | g
    · exact g
    · rw [List.getElem?_eq_none g] at hj; cases hj
  obtain ⟨b', o', ea', hc⟩ := h3 j hlt
  rw [ea] at ea'
  injection ea' with ea'
  injection ea' with e1 e2
  subst e1 e2
  rw [List.getElem?_eq_getElem hlt] at hj
  injection hj with hj
  subst hj
  match i with
  | 0 =>
    simp only [List.getElem?_cons_zero, Option.some.injEq] at hu
    subst hu
    show w.cell? ((⟨b, o, none⟩ : Addr).add (j * 1 + 0)) = _
    rw [Nat.mul_one, Nat.add_zero, add_plain]
    exact hc
theorem refInts_any (u : Value) (l : List Int) (w : World) (h : Sl 1 IntAt w u l) (hl : l.length ≤ 1000000) :
    Calls Try.prog 110 #[u] w fun e w' => e = .returned (.string (S8 (encL l))) ∧ Gr w w' := by
  obtain ⟨a, c, rfl, h1, -⟩ := id h
  obtain ⟨-, -, h2⟩ := h.kd
  exact Pa.horologeref06_Ints.calls (21 + l.length) a c l _ w h2 h1 (refInts_is l hl)

theorem bits_any (x : Nat) (w : World) : Calls Try.prog 109 #[.float .f64 x] w fun e w' => e = .returned (.string (S8 (be8 x))) ∧ Gr w w' := by
  have hx := run_fbits
  go_enter Try.func109, Try.ntmps109
  go_wp2_with (go_at_call 153; refine (refU_any _ (by omega) _).mono ?_; rintro e w' ⟨rfl, hg⟩; have HG := Lib.hid hg; clear hg)
  clear hx
  go_ret
  exact ⟨rfl, HG.out⟩

theorem S8_append (a b : List Int) : S8 a ++ S8 b = S8 (a ++ b) := by
  unfold S8 strOfNums
  apply ByteArray.ext
  simp
end Go.Proofs.Ytkoopobfelcgpaa
end -- C5

section -- C6
/- layer 6: the reference's Lay -/
set_option linter.unusedSimpArgs false
namespace Go.Proofs.Ytkoopobfelcgpaa
open Go.RowKit Go.Proofs.YtkoopobfelcgpaaW.PrintWords Go.Proofs.YtkoopobfelcgpaaW.PrintMore

theorem strAdd {l r t : List Int} (e : l ++ r = t) (h : t.length ≤ 1000000) : ∀ w : World, (Op.stringOp .add (S8 l) (S8 r)).run Try.prog w = .ok (.string (S8 t)) w := fun w => by
  have h1 := run_string_add_sum (P := Try.prog) (w := w) (S8 l) (S8 r) (by rw [strOfNums_size, strOfNums_size, ← List.length_append, e]; omega)
  rw [S8_append, e] at h1
  exact h1
theorem take_fm_len {α : Type} (f : α → List Int) (l : List α) (k : Nat) : ((l.take k).flatMap f).length ≤ (l.flatMap f).length := by
  have h := congrArg (List.flatMap f) (List.take_append_drop k l)
  rw [List.flatMap_append] at h
  rw [← h, List.length_append]; omega

/-- what Lay has laid, step by step -/
def layA (m : PModel) : List Int := encI m.seed ++ be8 m.fin
def LD (m : PModel) (k : Nat) : List Int := layA m ++ encI m.delays.length ++ (m.delays.take k).flatMap encF
def LP (m : PModel) (k : Nat) : List Int := LD m m.delays.length ++ encI m.programs.length ++ (m.programs.take k).flatMap encProg
def LPq (m : PModel) (k : Nat) (p : List PIns) (j : Nat) : List Int := LP m k ++ encI p.length ++ (p.take j).flatMap encIns
def LL (m : PModel) (k : Nat) : List Int := LP m m.programs.length ++ encI m.lps.length ++ (m.lps.take k).flatMap encLP
def LL1 (m : PModel) (k : Nat) (x : PLP) : List Int := LL m k ++ encL [x.prog, (x.words.length : Int)]
def LI (m : PModel) (k : Nat) : List Int := LL m m.lps.length ++ encI m.init.length ++ (m.init.take k).flatMap encInit
def LI1 (m : PModel) (k : Nat) (x : PInit) : List Int := LI m k ++ be8 x.t
section
variable {m : PModel}
theorem LI_end : LI m m.init.length = lay m := by
  simp only [LI, LL, LP, LD, layA, lay, encA, List.take_length, List.append_assoc]
theorem LD_len (h : LaySizes m) (k : Nat) : (LD m k).length ≤ 100 := by
  have := take_fm_len encF m.delays k; have := h.d
  simp only [LD, layA, List.length_append, encI_len, be8_len]; omega
theorem LP_len (h : LaySizes m) (k : Nat) : (LP m k).length ≤ 7000 := by
  have := take_fm_len encProg m.programs k; have := h.p; have := LD_len h m.delays.length
  simp only [LP, List.length_append, encI_len]; omega
theorem LPq_len (h : LaySizes m) (k : Nat) (p : List PIns) (hp : p.length ≤ 48) (j : Nat) : (LPq m k p j).length ≤ 10000 := by
  have := take_fm_len encIns p j; have := LP_len h k
  have := fm_bound encIns 32 p (fun x _ => by rw [encIns_len]; exact Nat.le_refl _)
  simp only [LPq, List.length_append, encI_len]; omega
theorem LL_len (h : LaySizes m) (k : Nat) : (LL m k).length ≤ 8000 := by
  have := take_fm_len encLP m.lps k; have := h.l; have := LP_len h m.programs.length
  simp only [LL, List.length_append, encI_len]; omega
theorem LI_len (h : LaySizes m) (k : Nat) : (LI m k).length ≤ 9000 := by
  have := take_fm_len encInit m.init k; have := h.i; have := LL_len h m.lps.length
  simp only [LI, List.length_append, encI_len]; omega
end

theorem lit2g {B : Nat} {W0 : World} {x y : Int} (hB : W0.heap[B]? = some (.cells #[.int .i64 x, .int .i64 y] 3 (0, 0))) : Sl 1 IntAt W0 (.slice (some ⟨B, 0, none⟩) 2 2) [x, y] := lit2h hB W0 (Step8.refl 0 W0)

set_option maxHeartbeats 4000000 in
set_option maxRecDepth 100000 in
theorem Lay_any (m : PModel) (vd vp vl vi : Value) (w : World) (h : ModelAt w vd vp vl vi m) (hs : Sized m) :
    Calls Try.prog 41 #[.agg #[.int .i64 m.seed, .float .f64 m.fin, vd, vp, vl, vi]] w fun e w' => e = .returned (.string (S8 (lay m))) ∧ Gr w w' := by
  have Q := Lib.hid h
  have HS := Lib.hid hs
  have HZ := Lib.hid (lay_sizes hs)
  obtain ⟨ad, cd, rfl, hd1, hd2, -, hd⟩ := h.delays
  obtain ⟨ap, cp, rfl, hp1, hp2, -, hp⟩ := h.programs
  obtain ⟨al, cl, rfl, hl1, hl2, -, hl⟩ := h.lps
  obtain ⟨ai, ci, rfl, hi1, hi2, -, hi⟩ := h.init
  unfold maxLen at hd2 hp2 hl2 hi2
  have HD := Lib.hid hd
  have HP := Lib.hid hp
  have HL := Lib.hid hl
  have HI := Lib.hid hi
  clear h hd hp hl hi hs
  obtain ⟨W1, hW1⟩ : ∃ W1, W1 = (w.alloc (.cells #[.int .i64 m.seed, .float .f64 m.fin, .slice ad m.delays.length cd, .slice ap m.programs.length cp, .slice al m.lps.length cl, .slice ai m.init.length ci] 28)) := ⟨_, rfl⟩
  have hW := Gr.refl W1
  obtain ⟨K, q0, q1, q2, q3, q4, q5⟩ := After.box6 (w := w) (W := W1) (a0 := .int .i64 m.seed) (a1 := .float .f64 m.fin) (a2 := .slice ad m.delays.length cd) (a3 := .slice ap m.programs.length cp) (a4 := .slice al m.lps.length cl) (a5 := .slice ai m.init.length ci) (t := 28) (hW1 ▸ Gr.refl _)
  have HK := Lib.hid K
  clear K
  have s1 := strAdd (l := encI m.seed) (r := be8 m.fin) (t := layA m) rfl (by simp only [layA, List.length_append, encI_len, be8_len]; omega)
  have s2 := strAdd (l := layA m) (r := encI m.delays.length) (t := LD m 0) (by simp [LD]) (by have := LD_len HZ.out 0; omega)
  go_enter Try.func41, Try.ntmps41
  go_wp2_with fail
  rw [← hW1]
  clear hW1
  refine wp_region_grow W1 hW mixed (by kernel_rfl) ?_
  repeat (go_big_quiet_step (first
    | (go_at_call 95; exact After.calls (refI_any _ _))
    | (go_at_call 109; exact After.calls (bits_any _ _))))
  refine wpQuiet_nil ?_
  intro _ hw'
  obtain ⟨x, rfl⟩ := hw'
  have HQ2 := Lib.hid (fun (W : World) (g : Gr W1 W) => q2 ⟨W, g⟩)
  have HQ3 := Lib.hid (fun (W : World) (g : Gr W1 W) => q3 ⟨W, g⟩)
  have HQ4 := Lib.hid (fun (W : World) (g : Gr W1 W) => q4 ⟨W, g⟩)
  have HQ5 := Lib.hid (fun (W : World) (g : Gr W1 W) => q5 ⟨W, g⟩)
  have HK1 := Lib.hid (fun (W : World) (g : Gr W1 W) => HK.out ⟨W, g⟩)
  have hx := x.h
  clear q0 q1 q2 q3 q4 q5 s1 s2 hW HK
  go_wp2
  go_loopg [3, 4] m.delays.length (fun g s i wr => ∃ k : Nat, g + k = m.delays.length ∧ i = .int .i64 k ∧ s = .string (S8 (LD m k)) ∧ Gr W1 wr)
  case atStart => exact ⟨0, by omega, rfl, rfl, hx⟩
  case round =>
    clear hx
    obtain ⟨k, hk, rfl, rfl, hg⟩ := hrel
    have HG := Lib.hid hg
    have p2 := HQ2.out wr hg
    clear hg
    by_cases hlt : k < m.delays.length
    · obtain ⟨b, o, rfl, hR⟩ := HD.out k m.delays[k] (by simp [hlt])
      have p0 := (HK1.out wr HG.out).cell hR
      rw [Nat.mul_one] at p0
      clear hR
      have s1 := strAdd (l := LD m k) (r := be8 m.delays[k]) (t := LD m (k + 1)) (by simp only [LD]; rw [fm_snoc encF _ k hlt, ← List.append_assoc]; rfl) (by have := LD_len HZ.out (k + 1); omega)
      go_wp2_with (go_at_call 109; refine (bits_any _ _).mono ?_; rintro e w2 ⟨rfl, hg2⟩; have HG2 := Lib.hid (HG.out.trans hg2); clear hg2)
      go_roundg (gk - 1)
      case measure => omega
      case rel => exact ⟨k + 1, by omega, by go_num, rfl, HG2.out⟩
    · have e := LD_len HZ.out k
      obtain rfl : k = m.delays.length := by omega
      clear e p2
      have p3 := HQ3.out wr HG.out
      have s1 := strAdd (l := LD m m.delays.length) (r := encI m.programs.length) (t := LP m 0) (by simp [LP]) (by have := LP_len HZ.out 0; omega)
      have p2 := HQ2.out wr HG.out
      go_wp2_with (go_at_call 95; refine (refI_any _ _).mono ?_; rintro e w2 ⟨rfl, hg2⟩; have HG2 := Lib.hid (HG.out.trans hg2); clear hg2)
      clear s1 p2 p3 hlt
      go_loopg [3, 5] m.programs.length (fun g s i wr => ∃ k : Nat, g + k = m.programs.length ∧ i = .int .i64 k ∧ s = .string (S8 (LP m k)) ∧ Gr W1 wr)
      case atStart => exact ⟨0, by omega, rfl, rfl, HG2.out⟩
      case round =>
        clear HG2 HG
        obtain ⟨k, hk, rfl, rfl, hg⟩ := hrel
        have HG := Lib.hid hg
        have p3 := HQ3.out wr hg
        clear hg
        by_cases hlt : k < m.programs.length
        · obtain ⟨b, o, rfl, v, hv, hel⟩ := HP.out k m.programs[k] (by simp [hlt])
          obtain ⟨av, cv, rfl, hc1, hc2, -, hel⟩ := hel
          unfold maxLen at hc2
          have HV := Lib.hid (fun (W : World) (g : Gr W1 W) => (HK1.out W g).cell hv)
          have HEL := Lib.hid hel
          have hpl := HS.out.code _ (List.getElem_mem hlt)
          clear hv hel
          have p0 := HV.out wr HG.out
          rw [Nat.mul_one] at p0
          have s1 := strAdd (l := LP m k) (r := encI m.programs[k].length) (t := LPq m k m.programs[k] 0) (by simp [LPq]) (by have := LPq_len HZ.out k _ hpl 0; omega)
          go_wp2_with (go_at_call 95; refine (refI_any _ _).mono ?_; rintro e w2 ⟨rfl, hg2⟩; have HG2 := Lib.hid (HG.out.trans hg2); clear hg2)
          clear s1 p0 p3
          go_loopg [3, 6] m.programs[k].length (fun g s i wr => ∃ j : Nat, g + j = m.programs[k].length ∧ i = .int .i64 j ∧ s = .string (S8 (LPq m k m.programs[k] j)) ∧ Gr W1 wr)
          case atStart => exact ⟨0, by omega, rfl, rfl, HG2.out⟩
          case round =>
            clear HG2 HG
            obtain ⟨j, hj, rfl, rfl, hg⟩ := hrel
            have HG := Lib.hid hg
            have p3 := HQ3.out wr hg
            have p0 := HV.out wr HG.out
            rw [Nat.mul_one] at p0
            clear hg
            by_cases hjt : j < m.programs[k].length
            · obtain ⟨b', o', rfl, hR⟩ := HEL.out j m.programs[k][j] (by simp [hjt])
              obtain ⟨r0, r1, r2, r3⟩ := InsAt.gr _ _ _ _ _ (HK1.out wr HG.out) hR
              clear hR
              have s1 := strAdd (l := LPq m k m.programs[k] j) (r := encL [m.programs[k][j].op, m.programs[k][j].a, m.programs[k][j].b, m.programs[k][j].c]) (t := LPq m k m.programs[k] (j + 1)) (by simp only [LPq]; rw [fm_snoc encIns _ j hjt, ← List.append_assoc]; rfl) (by have := LPq_len HZ.out k _ hpl (j + 1); omega)
              go_wp2_with (go_at_call 110; refine (refInts_any _ [m.programs[k][j].op, m.programs[k][j].a, m.programs[k][j].b, m.programs[k][j].c] _ (lit4 (n := 0) (by simp) _ (Step8.refl _ _)) (by simp)).mono ?_; rintro e w2 ⟨rfl, hg2⟩; have HG2 := Lib.hid (((HG.out.alloc _).alloc _).trans hg2); clear hg2)
              go_roundg (m.programs[k].length - (j + 1))
              case measure => omega
              case rel => exact ⟨j + 1, by omega, by go_num, rfl, HG2.out⟩
            · obtain rfl : j = m.programs[k].length := by omega
              go_wp2
              go_roundg (m.programs.length - (k + 1))
              case measure => omega
              case rel => exact ⟨k + 1, by omega, by go_num, by simp only [LPq, LP, List.take_length]; rw [fm_snoc encProg _ k hlt, List.append_assoc, List.append_assoc]; rfl, HG.out⟩
        · obtain rfl : k = m.programs.length := by omega
          have p4 := HQ4.out wr HG.out
          have s1 := strAdd (l := LP m m.programs.length) (r := encI m.lps.length) (t := LL m 0) (by simp [LL]) (by have := LL_len HZ.out 0; omega)
          go_wp2_with (go_at_call 95; refine (refI_any _ _).mono ?_; rintro e w2 ⟨rfl, hg2⟩; have HG2 := Lib.hid (HG.out.trans hg2); clear hg2)
          clear s1 p3 p4 hlt
          go_loopg [3, 8] m.lps.length (fun g s i wr => ∃ k : Nat, g + k = m.lps.length ∧ i = .int .i64 k ∧ s = .string (S8 (LL m k)) ∧ Gr W1 wr)
          case atStart => exact ⟨0, by omega, rfl, rfl, HG2.out⟩
          case round =>
            clear HG2 HG
            obtain ⟨k, hk, rfl, rfl, hg⟩ := hrel
            have HG := Lib.hid hg
            have p4 := HQ4.out wr hg
            clear hg
            by_cases hlt : k < m.lps.length
            · obtain ⟨b, o, rfl, r0, v, r1, hv⟩ := HL.out k m.lps[k] (by simp [hlt])
              have HVS := Lib.hid hv
              obtain ⟨av, cv, rfl, hc1, hc2, -, -⟩ := hv
              unfold maxLen at hc2
              have hwl := HS.out.words _ (List.getElem_mem hlt)
              have KS := Lib.hid (fun (W : World) (g : Gr W1 W) => show (W.cell? ⟨w.heap.size, 4, none⟩ = some (.slice (some ⟨b, o, none⟩) m.lps.length cl) ∧ W.cell? ⟨b, o + k * 2, none⟩ = some (.int .i64 m.lps[k].prog) ∧ W.cell? ⟨b, o + k * 2 + 1, none⟩ = some (.slice av m.lps[k].words.length cv)) ∧ Gr W1 W from
                ⟨⟨HQ4.out W g, (HK1.out W g).cell r0, (HK1.out W g).cell r1⟩, g⟩)
              have s1 := strAdd (l := LL m k) (r := encL [m.lps[k].prog, (m.lps[k].words.length : Int)]) (t := LL1 m k m.lps[k]) rfl (by have := LL_len HZ.out k; have e := encL_len [m.lps[k].prog, (m.lps[k].words.length : Int)]; simp only [LL1, List.length_append, e]; simp; omega)
              have s2 := strAdd (l := LL1 m k m.lps[k]) (r := encL m.lps[k].words) (t := LL m (k + 1)) (by simp only [LL1, LL]; rw [fm_snoc encLP _ k hlt]; simp [encLP, encA, encL]) (by have := LL_len HZ.out (k + 1); omega)
              have j0 : (0 : Int) ≤ (k : Int) := by omega
              have j1 : (k : Int) < (m.lps.length : Int) := by omega
              clear r0 r1
              go_wp2
              clear p4
              go_region_held3 (fun W => (W.cell? ⟨w.heap.size, 4, none⟩ = some (.slice (some ⟨b, o, none⟩) m.lps.length cl) ∧ W.cell? ⟨b, o + k * 2, none⟩ = some (.int .i64 m.lps[k].prog) ∧ W.cell? ⟨b, o + k * 2 + 1, none⟩ = some (.slice av m.lps[k].words.length cv)) ∧ Gr W1 W)
                (exact KS.out _ (by repeat (first | exact HG.out | with_reducible assumption | with_reducible exact And.right (by assumption) | with_reducible refine Gr.alloc ?_ _ | with_reducible refine Gr.drew ?_)))
                (first
                  | (go_at_call 110
                     with_reducible refine (refInts_any _ [m.lps[k].prog, (m.lps[k].words.length : Int)] _ (lit2g (by first | exact lit_at (by first | rfl | (simp; done)) | exact lit_atD (by first | rfl | (simp; done)))) (by simp)).mono ?_
                     rintro e w2 ⟨rfl, hg2⟩
                     have hg3 : Gr W1 w2 := Gr.trans (by repeat (first | exact HG.out | with_reducible assumption | with_reducible exact And.right (by assumption) | with_reducible refine Gr.alloc ?_ _ | with_reducible refine Gr.drew ?_)) hg2
                     clear hg2)
                  | (go_at_call 110
                     refine (refInts_any _ m.lps[k].words _ (HVS.out.gr IntAt.gr (HK1.out _ (And.right (by assumption)))) (by omega)).mono ?_
                     rintro e w4 ⟨rfl, hg4⟩
                     have hg5 : Gr W1 w4 := Gr.trans (by exact And.right (by assumption)) hg4
                     clear hg4))
              all_goals
                go_wp2
                go_roundg (m.lps.length - (k + 1))
                case measure => omega
                case rel => exact ⟨k + 1, by omega, by go_num, rfl, hg5⟩
            · obtain rfl : k = m.lps.length := by omega
              have p5 := HQ5.out wr HG.out
              have s1 := strAdd (l := LL m m.lps.length) (r := encI m.init.length) (t := LI m 0) (by simp [LI]) (by have := LI_len HZ.out 0; omega)
              go_wp2_with (go_at_call 95; refine (refI_any _ _).mono ?_; rintro e w2 ⟨rfl, hg2⟩; have HG2 := Lib.hid (HG.out.trans hg2); clear hg2)
              clear s1 p4 p5 hlt
              go_loopg [3, 9] m.init.length (fun g s i wr => ∃ k : Nat, g + k = m.init.length ∧ i = .int .i64 k ∧ s = .string (S8 (LI m k)) ∧ Gr W1 wr)
              case atStart => exact ⟨0, by omega, rfl, rfl, HG2.out⟩
              case round =>
                clear HG2 HG
                obtain ⟨k, hk, rfl, rfl, hg⟩ := hrel
                have HG := Lib.hid hg
                have p5 := HQ5.out wr hg
                clear hg
                by_cases hlt : k < m.init.length
                · obtain ⟨b, o, rfl, r0, r1, r2⟩ := HI.out k m.init[k] (by simp [hlt])
                  have KS := Lib.hid (fun (W : World) (g : Gr W1 W) => show (W.cell? ⟨w.heap.size, 5, none⟩ = some (.slice (some ⟨b, o, none⟩) m.init.length ci) ∧ W.cell? ⟨b, o + k * 3, none⟩ = some (.float .f64 m.init[k].t) ∧ W.cell? ⟨b, o + k * 3 + 1, none⟩ = some (.int .i64 m.init[k].dst) ∧ W.cell? ⟨b, o + k * 3 + 2, none⟩ = some (.int .i64 m.init[k].pay)) ∧ Gr W1 W from
                    ⟨⟨HQ5.out W g, (HK1.out W g).cell r0, (HK1.out W g).cell r1, (HK1.out W g).cell r2⟩, g⟩)
                  have s1 := strAdd (l := LI m k) (r := be8 m.init[k].t) (t := LI1 m k m.init[k]) rfl (by have := LI_len HZ.out k; simp only [LI1, List.length_append, be8_len]; omega)
                  have s2 := strAdd (l := LI1 m k m.init[k]) (r := encL [m.init[k].dst, m.init[k].pay]) (t := LI m (k + 1)) (by simp only [LI1, LI]; rw [fm_snoc encInit _ k hlt]; simp [encInit]) (by have := LI_len HZ.out (k + 1); omega)
                  have j0 : (0 : Int) ≤ (k : Int) := by omega
                  have j1 : (k : Int) < (m.init.length : Int) := by omega
                  clear r0 r1 r2
                  go_wp2
                  clear p5
                  go_region_held3 (fun W => (W.cell? ⟨w.heap.size, 5, none⟩ = some (.slice (some ⟨b, o, none⟩) m.init.length ci) ∧ W.cell? ⟨b, o + k * 3, none⟩ = some (.float .f64 m.init[k].t) ∧ W.cell? ⟨b, o + k * 3 + 1, none⟩ = some (.int .i64 m.init[k].dst) ∧ W.cell? ⟨b, o + k * 3 + 2, none⟩ = some (.int .i64 m.init[k].pay)) ∧ Gr W1 W)
                    (exact KS.out _ (by repeat (first | exact HG.out | with_reducible assumption | with_reducible exact And.right (by assumption) | with_reducible refine Gr.alloc ?_ _ | with_reducible refine Gr.drew ?_)))
                    (first
                      | (go_at_call 109
                         refine (bits_any _ _).mono ?_
                         rintro e w2 ⟨rfl, hg2⟩
                         have hg3 : Gr W1 w2 := Gr.trans (by repeat (first | exact HG.out | with_reducible assumption | with_reducible exact And.right (by assumption) | with_reducible refine Gr.alloc ?_ _ | with_reducible refine Gr.drew ?_)) hg2
                         have HLK := Lib.hid hg2
                         clear hg2)
                      | (go_at_call 110
                         refine (refInts_any _ [m.init[k].dst, m.init[k].pay] _ (lit2g (by first | exact lit_at (by first | rfl | (simp; done)) | exact lit_atD (by first | rfl | (simp; done)) | exact (HLK.out.block _ (by simp)).trans (by first | exact lit_at (by first | rfl | (simp; done)) | exact lit_atD (by first | rfl | (simp; done))))) (by simp)).mono ?_
                         rintro e w4 ⟨rfl, hg4⟩
                         have hg5 : Gr W1 w4 := Gr.trans (by exact And.right (by assumption)) hg4
                         clear hg4))
                  all_goals
                    go_wp2
                    go_roundg (m.init.length - (k + 1))
                    case measure => omega
                    case rel => exact ⟨k + 1, by omega, by go_num, rfl, hg5⟩
                · obtain rfl : k = m.init.length := by omega
                  have HE := Lib.hid (LI_end (m := m))
                  go_wp2
                  go_ret
                  exact ⟨by rw [← HE.out]; rfl, HK1.out wr HG.out⟩
end Go.Proofs.Ytkoopobfelcgpaa
end -- C6
