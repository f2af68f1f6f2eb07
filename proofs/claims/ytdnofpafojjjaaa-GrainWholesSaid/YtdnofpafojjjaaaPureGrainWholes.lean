/- GrainWholes, the pure part: the checked sums, differences, products, quotients, rests and negatives of the program are those of the document, at every two numbers of 64 bits. Conditions: none. -/
import Derived.Test.YtdnofpafojjjaaaQGrainWholesx11
import Derived.Test.YtdnofpafojjjaaaNum
namespace Go.Proofs.Ytdnofpafojjjaaa.Pure
open Go.RowKit Go.Proofs.Ytdnofpafojjjaaa.QGrainWholes Go.Proofs.YtdnofpafojjjaaaW.PrintWords Go.Proofs.YtdnofpafojjjaaaW.PrintLast
open Go.Proofs.Ytdnofpafojjjaaa.Num

theorem gw_add (a b : Int) (ha0 : -9223372036854775808 ≤ a) (ha1 : a < 9223372036854775808) (hb0 : -9223372036854775808 ≤ b) (hb1 : b < 9223372036854775808) :
    ∃ r, grain_Add.f a b = some r ∧ sluiceref01_Add.f a b = some r := by
  unfold grain_Add.f sluiceref01_Add.f wrap64
  simp only [beq_iff_eq, bne_iff_ne, ne_eq, decide_eq_decide]
  by_cases h : -9223372036854775808 ≤ a + b ∧ a + b < 9223372036854775808
  · refine ⟨(a + b, 0), ?_, ?_⟩
    · repeat' split
      all_goals first | (exfalso; omega) | (simp only [Option.some.injEq, Prod.mk.injEq, and_true]; omega)
    · repeat' split
      all_goals first | (exfalso; omega) | (simp only [Option.some.injEq, Prod.mk.injEq, and_true]; omega)
  · refine ⟨(0, 13), ?_, ?_⟩
    · repeat' split
      all_goals first | rfl | (exfalso; omega)
    · repeat' split
      all_goals first | rfl | (exfalso; omega)

theorem gw_sub (a b : Int) (ha0 : -9223372036854775808 ≤ a) (ha1 : a < 9223372036854775808) (hb0 : -9223372036854775808 ≤ b) (hb1 : b < 9223372036854775808) :
    ∃ r, grain_Sub.f a b = some r ∧ sluiceref01_Sub.f a b = some r := by
  unfold grain_Sub.f sluiceref01_Sub.f wrap64
  simp only [bne_iff_ne, ne_eq, decide_eq_decide]
  by_cases h : -9223372036854775808 ≤ a - b ∧ a - b < 9223372036854775808
  · refine ⟨(a - b, 0), ?_, ?_⟩
    · repeat' split
      all_goals first | (exfalso; omega) | (simp only [Option.some.injEq, Prod.mk.injEq, and_true]; omega)
    · repeat' split
      all_goals first | (exfalso; omega) | (simp only [Option.some.injEq, Prod.mk.injEq, and_true]; omega)
  · refine ⟨(0, 13), ?_, ?_⟩
    · repeat' split
      all_goals first | rfl | (exfalso; omega)
    · repeat' split
      all_goals first | rfl | (exfalso; omega)

/-- The product's parts: 32 bits by 32 bits. -/
theorem gw_parts (x y : Nat) (hx : x < 18446744073709551616) (hy : y < 18446744073709551616) :
    bits_Mul64.f x y = some (((x * y / 18446744073709551616 : Nat) : Int), ((x * y % 18446744073709551616 : Nat) : Int)) := by
  have m1 : Go.bits .and .u64 (x : Int) 4294967295 = ((x % 4294967296 : Nat) : Int) := by
    have := u64_mask 32 (by decide) x (by omega) (by omega); simp at this; rw [this]; omega
  have m2 : Go.bits .and .u64 (y : Int) 4294967295 = ((y % 4294967296 : Nat) : Int) := by
    have := u64_mask 32 (by decide) y (by omega) (by omega); simp at this; rw [this]; omega
  unfold bits_Mul64.f
  rw [m1, m2]
  have e1 : ((x : Int) / 4294967296) = ((x / 4294967296 : Nat) : Int) := by omega
  have e2 : ((y : Int) / 4294967296) = ((y / 4294967296 : Nat) : Int) := by omega
  rw [e1, e2]
  have hxx : x = 4294967296 * (x / 4294967296) + x % 4294967296 := by omega
  have hyy : y = 4294967296 * (y / 4294967296) + y % 4294967296 := by omega
  have b1 : x / 4294967296 ≤ 4294967295 := by omega
  have b0 : x % 4294967296 ≤ 4294967295 := by omega
  have c1 : y / 4294967296 ≤ 4294967295 := by omega
  have c0 : y % 4294967296 ≤ 4294967295 := by omega
  generalize x / 4294967296 = x1 at *
  generalize x % 4294967296 = x0 at *
  generalize y / 4294967296 = y1 at *
  generalize y % 4294967296 = y0 at *
  have p11 : x1 * y1 ≤ 4294967295 * 4294967295 := Nat.mul_le_mul b1 c1
  have p10 : x1 * y0 ≤ 4294967295 * 4294967295 := Nat.mul_le_mul b1 c0
  have p01 : x0 * y1 ≤ 4294967295 * 4294967295 := Nat.mul_le_mul b0 c1
  have p00 : x0 * y0 ≤ 4294967295 * 4294967295 := Nat.mul_le_mul b0 c0
  have hp : x * y = 18446744073709551616 * (x1 * y1) + 4294967296 * (x1 * y0 + x0 * y1) + x0 * y0 := by
    rw [hxx, hyy, Nat.mul_add, Nat.add_mul, Nat.add_mul]
    have h1 : 4294967296 * x1 * (4294967296 * y1) = 18446744073709551616 * (x1 * y1) := by
      rw [Nat.mul_assoc, Nat.mul_left_comm x1, ← Nat.mul_assoc]
    have h2 : x0 * (4294967296 * y1) = 4294967296 * (x0 * y1) := Nat.mul_left_comm _ _ _
    have h3 : 4294967296 * x1 * y0 = 4294967296 * (x1 * y0) := Nat.mul_assoc _ _ _
    rw [h1, h2, h3]; omega
  rw [hp]
  have k11 : ((x1 : Int) * (y1 : Int)) = ((x1 * y1 : Nat) : Int) := by simp
  have k10 : ((x1 : Int) * (y0 : Int)) = ((x1 * y0 : Nat) : Int) := by simp
  have k01 : ((x0 : Int) * (y1 : Int)) = ((x0 * y1 : Nat) : Int) := by simp
  have k00 : ((x0 : Int) * (y0 : Int)) = ((x0 * y0 : Nat) : Int) := by simp
  have kk : ((x : Int) * (y : Int)) = ((x * y : Nat) : Int) := by simp
  rw [k11, k10, k01, k00, kk, hp]
  generalize x1 * y1 = p at *
  generalize x1 * y0 = q at *
  generalize x0 * y1 = r at *
  generalize x0 * y0 = s at *
  have ee : ∀ n : Int, 0 ≤ n → n < 18446744073709551616 → Go.bits .and .u64 n 4294967295 = n % 4294967296 := by
    intro n h0 h1
    have := u64_mask 32 (by decide) n h0 h1; simpa using this
  simp only [wrap_u64]
  rw [ee _ (by omega) (by omega)]
  simp only [Option.some.injEq, Prod.mk.injEq]
  constructor <;> omega

theorem gw_size (a : Int) (ha0 : -9223372036854775808 ≤ a) (ha1 : a < 9223372036854775808) : grain_size.f a = some (a.natAbs : Int) := by
  unfold grain_size.f
  simp only [wrap_u64]
  split <;> (simp only [Option.some.injEq]; omega)

theorem gw_natAbs_mul (a b : Int) : ((a.natAbs * b.natAbs : Nat) : Int) = if (a < 0 ∧ 0 ≤ b) ∨ (0 ≤ a ∧ b < 0) then -(a * b) else a * b := by
  rcases Int.natAbs_eq a with h | h <;> rcases Int.natAbs_eq b with k | k <;> generalize a.natAbs = m at * <;> generalize b.natAbs = n at * <;> subst h <;> subst k
  all_goals
    simp only [Int.natCast_mul, Int.neg_mul, Int.mul_neg, Int.neg_neg]
    split
    all_goals first | rfl | (rename_i h; exfalso; omega) | skip
  all_goals
    rename_i h
    have : (m : Int) = 0 ∨ (n : Int) = 0 := by omega
    rcases this with e | e <;> simp [e]

/-- What a checked product tells. -/
def mulr (p : Int) : Int × Int := if -9223372036854775808 ≤ p ∧ p < 9223372036854775808 then (p, 0) else (0, 13)

theorem gw_mul (a b : Int) (ha0 : -9223372036854775808 ≤ a) (ha1 : a < 9223372036854775808) (hb0 : -9223372036854775808 ≤ b) (hb1 : b < 9223372036854775808) (k : Nat) :
    grain_Mul.f (k + 1) a b = some (mulr (a * b)) := by
  have hna := gw_natAbs_mul a b
  have hz : a = 0 ∨ b = 0 → a * b = 0 := by rintro (h | h) <;> simp [h]
  have sgn : (a < 0 ∧ 0 < b) ∨ (0 < a ∧ b < 0) → a * b < 0 := by
    rintro (⟨h1, h2⟩ | ⟨h1, h2⟩)
    · exact Int.mul_neg_of_neg_of_pos h1 h2
    · exact Int.mul_neg_of_pos_of_neg h1 h2
  have sgp : (a < 0 ∧ b < 0) ∨ (0 < a ∧ 0 < b) → 0 < a * b := by
    rintro (⟨h1, h2⟩ | ⟨h1, h2⟩)
    · exact Int.mul_pos_of_neg_of_neg h1 h2
    · exact Int.mul_pos h1 h2
  unfold grain_Mul.f
  rw [gw_size a ha0 ha1, gw_size b hb0 hb1]
  simp only [Option.bind_some]
  rw [gw_parts a.natAbs b.natAbs (by omega) (by omega)]
  simp only [Option.bind_some, grain_Mul.j0, mulr]
  generalize a.natAbs * b.natAbs = p at *
  generalize a * b = q at *
  simp only [bne_iff_ne, ne_eq, decide_eq_decide, decide_eq_true_eq, wrap_u64, wrap64]
  have hp0 : 0 ≤ (p : Int) := by omega
  have e1 : ((p / 18446744073709551616 : Nat) : Int) = (p : Int) / 18446744073709551616 := by omega
  have e2 : ((p % 18446744073709551616 : Nat) : Int) = (p : Int) % 18446744073709551616 := by omega
  rw [e1, e2]
  generalize (p : Int) = P at *
  by_cases hn : (a < 0 ∧ 0 ≤ b) ∨ (0 ≤ a ∧ b < 0)
  · rw [if_pos hn] at hna
    have hc : ¬ (a < 0 ↔ b < 0) := by omega
    have hq : q ≤ 0 := by
      by_cases z : a = 0 ∨ b = 0
      · have := hz z; omega
      · have := sgn (by omega); omega
    simp only [hc, not_false_eq_true, if_true]
    repeat' split
    all_goals first | (simp only [Option.some.injEq, Prod.mk.injEq, and_true]; omega) | (exfalso; omega) | rfl | simp_all
  · rw [if_neg hn] at hna
    have hc : (a < 0 ↔ b < 0) := by omega
    have hq : 0 ≤ q := by
      by_cases z : a = 0 ∨ b = 0
      · have := hz z; omega
      · have := sgp (by omega); omega
    simp only [hc, not_true_eq_false, if_false]
    repeat' split
    all_goals first | (simp only [Option.some.injEq, Prod.mk.injEq, and_true]; omega) | (exfalso; omega) | rfl | simp_all

theorem gw_tdiv (c b : Int) (hb : b ≠ 0) : ∃ r, c = b * Int.tdiv c b + r ∧ -(b.natAbs : Int) < r ∧ r < b.natAbs := by
  refine ⟨Int.tmod c b, ?_, ?_, ?_⟩
  · have := Int.mul_tdiv_add_tmod c b; omega
  · have h1 : (Int.tmod c b).natAbs < b.natAbs := by rw [Int.natAbs_tmod]; exact Nat.mod_lt _ (by omega)
    omega
  · have h1 : (Int.tmod c b).natAbs < b.natAbs := by rw [Int.natAbs_tmod]; exact Nat.mod_lt _ (by omega)
    omega

theorem gw_rmul (a b : Int) (ha0 : -9223372036854775808 ≤ a) (ha1 : a < 9223372036854775808) (hb0 : -9223372036854775808 ≤ b) (hb1 : b < 9223372036854775808) (k : Nat) :
    sluiceref01_Mul.f (k + 2) a b = some (mulr (a * b)) := by
  unfold sluiceref01_Mul.f
  by_cases ha : a = 0
  · simp [ha, sluiceref01_Mul.j0, mulr]
  by_cases hb : b = 0
  · simp [hb, ha, sluiceref01_Mul.j0, mulr]
  have hb' : (b == 0) = false := beq_eq_false_iff_ne.mpr hb
  rw [if_neg ha, hb']
  by_cases e1 : a = -1 ∧ b = -9223372036854775808
  · obtain ⟨rfl, rfl⟩ := e1; simp [sluiceref01_Mul.j0, sluiceref01_Mul.j1, mulr]
  by_cases e2 : b = -1 ∧ a = -9223372036854775808
  · obtain ⟨rfl, rfl⟩ := e2; simp [sluiceref01_Mul.j0, sluiceref01_Mul.j1, mulr]
  have hj : sluiceref01_Mul.j0 (k + 2) a b false = sluiceref01_Mul.j1 (k + 1) a b false := by
    have h3 : ¬ (a = -1 ∧ b = -9223372036854775808) := e1
    simp only [sluiceref01_Mul.j0]
    by_cases f1 : a = -1
    · have f2 : b ≠ -9223372036854775808 := fun h => e1 ⟨f1, h⟩
      by_cases f3 : b = -1
      · simp [f1, f3]
      · simp [f1, f2, f3]
    · by_cases f3 : b = -1
      · have : a ≠ -9223372036854775808 := fun h => e2 ⟨f3, h⟩
        have h4 : (a == -9223372036854775808) = false := beq_eq_false_iff_ne.mpr this
        simp [f1, f3, h4]
      · simp [f1, f3]
  rw [hj]
  simp only [sluiceref01_Mul.j1, Bool.false_eq_true, if_false]
  rw [if_neg hb]
  by_cases hin : -9223372036854775808 ≤ a * b ∧ a * b < 9223372036854775808
  · have hw : wrap64 (a * b) = a * b := w64_id hin.1 hin.2
    rw [hw, Int.mul_tdiv_cancel a hb, w64_id ha0 ha1, if_pos rfl]
    simp [mulr, hin]
  · have hm : mulr (a * b) = (0, 13) := by unfold mulr; rw [if_neg hin]
    rw [hm]
    refine if_neg ?_
    intro h
    obtain ⟨q, hq⟩ : ∃ q : Int, wrap64 (a * b) = a * b + 18446744073709551616 * q :=
      ⟨-((a * b + 9223372036854775808) / 18446744073709551616), by unfold wrap64; omega⟩
    obtain ⟨r, hr, hr0, hr1⟩ := gw_tdiv (wrap64 (a * b)) b hb
    have hc0 : -9223372036854775808 ≤ wrap64 (a * b) := by unfold wrap64; omega
    have hc1 : wrap64 (a * b) < 9223372036854775808 := by unfold wrap64; omega
    have hd : Int.tdiv (wrap64 (a * b)) b = a ∨ (b = -1 ∧ wrap64 (a * b) = -9223372036854775808) := by
      by_cases g : b = -1 ∧ wrap64 (a * b) = -9223372036854775808
      · exact .inr g
      · left
        have hn : (Int.tdiv (wrap64 (a * b)) b).natAbs ≤ (wrap64 (a * b)).natAbs := by
          rw [Int.natAbs_tdiv]; exact Nat.div_le_self _ _
        have hu : Int.tdiv (wrap64 (a * b)) b ≠ 9223372036854775808 := by
          intro hx
          rw [hx] at hr
          have g1 : b = 1 ∨ b = -1 ∨ 2 ≤ b ∨ b ≤ -2 := by omega
          rcases g1 with g1 | g1 | g1 | g1
          · subst g1; omega
          · subst g1; exact g ⟨rfl, by omega⟩
          · have hh : 2 * 9223372036854775808 ≤ b * 9223372036854775808 := Int.mul_le_mul_of_nonneg_right g1 (by decide)
            omega
          · have hh : b * 9223372036854775808 ≤ (-2) * 9223372036854775808 := Int.mul_le_mul_of_nonneg_right g1 (by decide)
            omega
        rw [w64_id (by omega) (by omega)] at h
        exact h
    rcases hd with hd | ⟨hd, hd2⟩
    · rw [hd, Int.mul_comm b a] at hr
      have : 18446744073709551616 * q = r := by omega
      have hq0 : q = 0 := by omega
      subst hq0
      exact hin ⟨by omega, by omega⟩
    · subst hd
      have : a = 9223372036854775808 ∨ a = -9223372036854775808 ∨ (-9223372036854775808 < a ∧ a < 9223372036854775808) := by omega
      have := e2
      omega

theorem gw_neg (a : Int) (ha0 : -9223372036854775808 ≤ a) (ha1 : a < 9223372036854775808) :
    ∃ r, grain_Neg.f a = some r ∧ sluiceref01_Neg.f a = some r := by
  obtain ⟨r, h1, h2⟩ := gw_sub 0 a (by omega) (by omega) ha0 ha1
  exact ⟨r, by simp [grain_Neg.f, h1], by simp [sluiceref01_Neg.f, h2]⟩

theorem gw_quo (a b : Int) (ha0 : -9223372036854775808 ≤ a) (ha1 : a < 9223372036854775808) :
    ∃ r, grain_Quo.f a b = some r ∧ sluiceref01_Quo.f a b = some r := by
  unfold grain_Quo.f sluiceref01_Quo.f
  obtain ⟨r, h1, h2⟩ := gw_neg a ha0 ha1
  rw [h1, h2]
  by_cases e : b = 0
  · simp [e]
  by_cases f : b = -1
  · simp [f]
  · simp [e, f]

theorem gw_rem (a b : Int) : ∃ r, grain_Rem.f a b = some r ∧ sluiceref01_Rem.f a b = some r := by
  unfold grain_Rem.f sluiceref01_Rem.f
  by_cases e : b = 0
  · simp [e]
  by_cases f : b = -1
  · simp [f]
  · simp [e, f]

theorem GrainWholes : sluicelaw01_GrainWholes.Pure := by
  intro a b wa wb
  obtain ⟨ha0, ha1⟩ := wf_i64 wa
  obtain ⟨hb0, hb1⟩ := wf_i64 wb
  obtain ⟨r1, h1, h1'⟩ := gw_add a b ha0 ha1 hb0 hb1
  obtain ⟨r2, h2, h2'⟩ := gw_sub a b ha0 ha1 hb0 hb1
  have h3 := fun k => gw_mul a b ha0 ha1 hb0 hb1 k
  have h3' := fun k => gw_rmul a b ha0 ha1 hb0 hb1 k
  obtain ⟨r4, h4, h4'⟩ := gw_quo a b ha0 ha1
  obtain ⟨r5, h5, h5'⟩ := gw_rem a b
  obtain ⟨r6, h6, h6'⟩ := gw_neg a ha0 ha1
  refine ⟨10, ?_⟩
  simp only [sluicelaw01_GrainWholes.f, sluicelaw01_GrainWholes.j0, sluicelaw01_GrainWholes.j1, sluicelaw01_GrainWholes.j2, sluicelaw01_GrainWholes.j3, sluicelaw01_GrainWholes.j4, sluicelaw01_num.f,
    h1, h1', h2, h2', h3, h3', h4, h4', h5, h5', h6, h6', Option.bind_some, if_true, bne_self_eq_false, Bool.false_eq_true, if_false, beq_self_eq_true]

end Go.Proofs.Ytdnofpafojjjaaa.Pure
