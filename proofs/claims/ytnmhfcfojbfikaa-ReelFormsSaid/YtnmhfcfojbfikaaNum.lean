/- Plain facts on whole numbers in their kinds: ranges, wraps, bits by bits, shifts. No program in sight. Conditions: as each lemma says. -/
import Derived.Test.YtnmhfcfojbfikaaWMore
import Derived.Laws.BitsLemmas
import Derived.DataShut
namespace Go.Proofs.Ytnmhfcfojbfikaa.Num
open Go.RowKit Go.Proofs.YtnmhfcfojbfikaaW.PrintWords

theorem wf_u8 {a : Int} (h : (Lit.int .u8 a).wf = true) : 0 ≤ a ∧ a < 256 := by
  simp only [Lit.wf, IntKind.min, IntKind.max, IntKind.signed, IntKind.bits, Bool.and_eq_true, decide_eq_true_eq, Bool.false_eq_true, if_false] at h
  omega
theorem wf_u32 {a : Int} (h : (Lit.int .u32 a).wf = true) : 0 ≤ a ∧ a < 4294967296 := by
  simp only [Lit.wf, IntKind.min, IntKind.max, IntKind.signed, IntKind.bits, Bool.and_eq_true, decide_eq_true_eq, Bool.false_eq_true, if_false] at h
  omega
theorem wf_u64 {a : Int} (h : (Lit.int .u64 a).wf = true) : 0 ≤ a ∧ a < 18446744073709551616 := by
  simp only [Lit.wf, IntKind.min, IntKind.max, IntKind.signed, IntKind.bits, Bool.and_eq_true, decide_eq_true_eq, Bool.false_eq_true, if_false] at h
  omega
theorem wf_i64 {a : Int} (h : (Lit.int .i64 a).wf = true) : -9223372036854775808 ≤ a ∧ a < 9223372036854775808 := by
  simp only [Lit.wf, IntKind.min, IntKind.max, IntKind.signed, IntKind.bits, Bool.and_eq_true, decide_eq_true_eq, if_true] at h
  omega
theorem wrap_u64 (n : Int) : IntKind.u64.wrap n = n % 18446744073709551616 := by simp [IntKind.wrap, IntKind.bits, IntKind.signed]
theorem wrap_u32 (n : Int) : IntKind.u32.wrap n = n % 4294967296 := IntKind.wrap_u32 n
theorem u64_id {n : Int} (h : 0 ≤ n) (h' : n < 18446744073709551616) : IntKind.u64.wrap n = n := by rw [wrap_u64]; omega
theorem u32_id {n : Int} (h : 0 ≤ n) (h' : n < 4294967296) : IntKind.u32.wrap n = n := by rw [wrap_u32]; omega
theorem w64_id {n : Int} (h : -9223372036854775808 ≤ n) (h' : n < 9223372036854775808) : wrap64 n = n := by unfold wrap64; omega

/-- The bits of two numbers of an unsigned kind, as natural numbers. -/
theorem ofInt_toNat (m a : Nat) (h : a < 2 ^ m) : (BitVec.ofInt m (a : Int)).toNat = a := by
  rw [BitVec.ofInt_natCast, BitVec.toNat_ofNat, Nat.mod_eq_of_lt h]
theorem u32_nat (a : Nat) (h : a < 4294967296) : IntKind.u32.wrap (a : Int) = a := by rw [wrap_u32]; omega
theorem u64_nat (a : Nat) (h : a < 18446744073709551616) : IntKind.u64.wrap (a : Int) = a := by rw [wrap_u64]; omega
theorem n32_and (a b : Nat) (ha : a < 4294967296) (hb : b < 4294967296) : bits .and .u32 (a : Int) (b : Int) = ((a &&& b : Nat) : Int) := by
  show IntKind.u32.wrap (((BitVec.ofInt 32 (a : Int) &&& BitVec.ofInt 32 (b : Int)).toNat : Nat) : Int) = _
  rw [BitVec.toNat_and, ofInt_toNat 32 a ha, ofInt_toNat 32 b hb]
  exact u32_nat _ (Nat.and_lt_two_pow (n := 32) _ hb)
theorem n32_or (a b : Nat) (ha : a < 4294967296) (hb : b < 4294967296) : bits .or .u32 (a : Int) (b : Int) = ((a ||| b : Nat) : Int) := by
  show IntKind.u32.wrap (((BitVec.ofInt 32 (a : Int) ||| BitVec.ofInt 32 (b : Int)).toNat : Nat) : Int) = _
  rw [BitVec.toNat_or, ofInt_toNat 32 a ha, ofInt_toNat 32 b hb]
  exact u32_nat _ (Nat.or_lt_two_pow (n := 32) ha hb)
theorem n32_xor (a b : Nat) (ha : a < 4294967296) (hb : b < 4294967296) : bits .xor .u32 (a : Int) (b : Int) = ((a ^^^ b : Nat) : Int) := by
  show IntKind.u32.wrap (((BitVec.ofInt 32 (a : Int) ^^^ BitVec.ofInt 32 (b : Int)).toNat : Nat) : Int) = _
  rw [BitVec.toNat_xor, ofInt_toNat 32 a ha, ofInt_toNat 32 b hb]
  exact u32_nat _ (Nat.xor_lt_two_pow (n := 32) ha hb)
theorem n64_and (a b : Nat) (ha : a < 18446744073709551616) (hb : b < 18446744073709551616) : bits .and .u64 (a : Int) (b : Int) = ((a &&& b : Nat) : Int) := by
  show IntKind.u64.wrap (((BitVec.ofInt 64 (a : Int) &&& BitVec.ofInt 64 (b : Int)).toNat : Nat) : Int) = _
  rw [BitVec.toNat_and, ofInt_toNat 64 a ha, ofInt_toNat 64 b hb]
  exact u64_nat _ (Nat.and_lt_two_pow (n := 64) _ hb)
theorem n64_or (a b : Nat) (ha : a < 18446744073709551616) (hb : b < 18446744073709551616) : bits .or .u64 (a : Int) (b : Int) = ((a ||| b : Nat) : Int) := by
  show IntKind.u64.wrap (((BitVec.ofInt 64 (a : Int) ||| BitVec.ofInt 64 (b : Int)).toNat : Nat) : Int) = _
  rw [BitVec.toNat_or, ofInt_toNat 64 a ha, ofInt_toNat 64 b hb]
  exact u64_nat _ (Nat.or_lt_two_pow (n := 64) ha hb)
theorem n64_xor (a b : Nat) (ha : a < 18446744073709551616) (hb : b < 18446744073709551616) : bits .xor .u64 (a : Int) (b : Int) = ((a ^^^ b : Nat) : Int) := by
  show IntKind.u64.wrap (((BitVec.ofInt 64 (a : Int) ^^^ BitVec.ofInt 64 (b : Int)).toNat : Nat) : Int) = _
  rw [BitVec.toNat_xor, ofInt_toNat 64 a ha, ofInt_toNat 64 b hb]
  exact u64_nat _ (Nat.xor_lt_two_pow (n := 64) ha hb)
/-- The lowest bits of a number. -/
theorem u64_mask (i : Nat) (hi : i ≤ 64) (x : Int) (h0 : 0 ≤ x) (h1 : x < 18446744073709551616) : bits .and .u64 x (2 ^ i - 1) = x % 2 ^ i :=
  bits_mask .u64 64 (by decide) (fun n a b => u64_id a (by simpa using b)) i hi x h0 (by simpa using h1)
theorem u32_mask (i : Nat) (hi : i ≤ 32) (x : Int) (h0 : 0 ≤ x) (h1 : x < 4294967296) : bits .and .u32 x (2 ^ i - 1) = x % 2 ^ i :=
  bits_mask .u32 32 (by decide) (fun n a b => u32_id a (by simpa using b)) i hi x h0 (by simpa using h1)
theorem u64_join (i : Nat) (x y : Int) (hx0 : 0 ≤ x) (hx : x % 2 ^ i = 0) (hx1 : x < 18446744073709551616) (hy0 : 0 ≤ y) (hy : y < 2 ^ i) (hy1 : y < 18446744073709551616) : bits .or .u64 x y = x + y :=
  bits_join .u64 64 (by decide) (fun n a b => u64_id a (by simpa using b)) i x y hx0 hx (by simpa using hx1) hy0 hy (by simpa using hy1)
theorem u32_join (i : Nat) (x y : Int) (hx0 : 0 ≤ x) (hx : x % 2 ^ i = 0) (hx1 : x < 4294967296) (hy0 : 0 ≤ y) (hy : y < 2 ^ i) (hy1 : y < 4294967296) : bits .or .u32 x y = x + y :=
  bits_join .u32 32 (by decide) (fun n a b => u32_id a (by simpa using b)) i x y hx0 hx (by simpa using hx1) hy0 hy (by simpa using hy1)
/-- The complement of a signed number. -/
theorem i64_not (x : Int) (h0 : -9223372036854775808 ≤ x) (h1 : x < 9223372036854775808) : bits .xor .i64 (-1) x = -1 - x := by
  have e1 : BitVec.ofInt 64 (-1) = BitVec.allOnes 64 := by decide
  show IntKind.i64.wrap (((BitVec.ofInt 64 (-1) ^^^ BitVec.ofInt 64 x).toNat : Nat) : Int) = _
  rw [e1, BitVec.allOnes_xor, BitVec.toNat_not, IntKind.wrap_i64]
  have hx : ((BitVec.ofInt 64 x).toNat : Int) = x % 18446744073709551616 := by simp [BitVec.toNat_ofInt]; omega
  have hlt := (BitVec.ofInt 64 x).isLt
  generalize (BitVec.ofInt 64 x).toNat = n at hx hlt
  omega
/-- The sign bit of 32. -/
theorem and_bit31 (a : Nat) (h : a < 4294967296) : a &&& 2147483648 = if a < 2147483648 then 0 else 2147483648 := by
  have h3 : (2147483648 : Nat) = 2 ^ 31 := by decide
  apply Nat.eq_of_testBit_eq
  intro i
  rw [Nat.testBit_and]
  by_cases e : 31 = i
  · subst e
    split
    · rename_i h'
      have : a.testBit 31 = false := Nat.testBit_lt_two_pow (by rw [← h3]; exact h')
      simp [this]
    · rename_i h'
      have : a.testBit 31 = true := by
        rw [Nat.testBit_eq_decide_div_mod_eq, ← h3]
        have : a / 2147483648 % 2 = 1 := by omega
        simp [this]
      simp [this]
  · have h4 : (2147483648 : Nat).testBit i = false := by rw [h3, Nat.testBit_two_pow]; simp [e]
    rw [h4, Bool.and_false]
    split
    · simp
    · exact h4.symm
theorem xor_bit31_low (r : Nat) (h : r < 2147483648) : r ^^^ 2147483648 = r + 2147483648 := by
  have h1 : 2 ^ 31 * 1 + r = 2 ^ 31 * 1 ||| r := Nat.two_pow_add_eq_or_of_lt h 1
  have h2 : (2 : Nat) ^ 31 * 1 = 2147483648 := by decide
  rw [h2] at h1
  rw [Nat.add_comm, h1]
  apply Nat.eq_of_testBit_eq
  intro i
  have h3 : (2147483648 : Nat) = 2 ^ 31 := by decide
  rw [Nat.testBit_xor, Nat.testBit_or, h3, Nat.testBit_two_pow]
  by_cases e : 31 = i
  · subst e
    have : r.testBit 31 = false := Nat.testBit_lt_two_pow h
    simp [this]
  · simp [e]
theorem xor_bit31 (a : Nat) (h : a < 4294967296) : a ^^^ 2147483648 = if a < 2147483648 then a + 2147483648 else a - 2147483648 := by
  split
  · rename_i h'; exact xor_bit31_low a h'
  · rename_i h'
    have e : a = (a - 2147483648) ^^^ 2147483648 := by rw [xor_bit31_low _ (by omega)]; omega
    rw [e, Nat.xor_assoc, Nat.xor_self, Nat.xor_zero]
    rw [← e]
/-- The same of numbers. -/
theorem u32_sign (x : Int) (h0 : 0 ≤ x) (h1 : x < 4294967296) : bits .and .u32 x 2147483648 = if x < 2147483648 then 0 else 2147483648 := by
  obtain ⟨a, rfl⟩ := Int.eq_ofNat_of_zero_le h0
  have := n32_and a 2147483648 (by omega) (by decide)
  rw [and_bit31 a (by omega)] at this
  have e : ((2147483648 : Nat) : Int) = 2147483648 := rfl
  rw [e] at this
  rw [this]
  split <;> split <;> omega
theorem u32_flip (x : Int) (h0 : 0 ≤ x) (h1 : x < 4294967296) : bits .xor .u32 x 2147483648 = if x < 2147483648 then x + 2147483648 else x - 2147483648 := by
  obtain ⟨a, rfl⟩ := Int.eq_ofNat_of_zero_le h0
  have := n32_xor a 2147483648 (by omega) (by decide)
  rw [xor_bit31 a (by omega)] at this
  have e : ((2147483648 : Nat) : Int) = 2147483648 := rfl
  rw [e] at this
  rw [this]
  split <;> split <;> omega
theorem u32_unsign (x : Int) (h0 : 0 ≤ x) (h1 : x < 4294967296) : bits .andNot .u32 x 2147483648 = x % 2147483648 := by
  obtain ⟨a, rfl⟩ := Int.eq_ofNat_of_zero_le h0
  show IntKind.u32.wrap (((BitVec.ofInt 32 (a : Int) &&& ~~~ BitVec.ofInt 32 2147483648).toNat : Nat) : Int) = _
  have e1 : ~~~ (BitVec.ofInt 32 2147483648) = BitVec.ofNat 32 2147483647 := by decide
  rw [e1, BitVec.toNat_and, ofInt_toNat 32 a (by omega)]
  have e2 : (BitVec.ofNat 32 2147483647).toNat = 2 ^ 31 - 1 := by decide
  rw [e2, Nat.and_two_pow_sub_one_eq_mod]
  have h2 : (2 : Nat) ^ 31 = 2147483648 := by decide
  rw [h2, u32_nat _ (by omega)]
  omega
theorem u32_or31 (x : Int) (h0 : 0 ≤ x) (h1 : x < 2147483648) : bits .or .u32 x 2147483648 = x + 2147483648 := by
  obtain ⟨a, rfl⟩ := Int.eq_ofNat_of_zero_le h0
  have := n32_or a 2147483648 (by omega) (by decide)
  have h1' : 2 ^ 31 * 1 + a = 2 ^ 31 * 1 ||| a := Nat.two_pow_add_eq_or_of_lt (by omega) 1
  have h2 : (2 : Nat) ^ 31 * 1 = 2147483648 := by decide
  rw [h2] at h1'
  have e : ((2147483648 : Nat) : Int) = 2147483648 := rfl
  rw [e, Nat.or_comm, ← h1'] at this
  rw [this]; omega
theorem tmod_nonneg (a : Int) (n : Int) (h : 0 ≤ a) : Int.tmod a n = a % n := Int.tmod_eq_emod_of_nonneg h
theorem tdiv_nonneg (a : Int) (n : Int) (h : 0 ≤ a) : Int.tdiv a n = a / n := Int.tdiv_eq_ediv_of_nonneg h
end Go.Proofs.Ytnmhfcfojbfikaa.Num
