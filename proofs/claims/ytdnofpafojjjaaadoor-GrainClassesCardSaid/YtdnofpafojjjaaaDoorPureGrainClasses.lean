/- GrainClasses, the pure part: what every pattern of bits is, its place in the order, which pattern has every place, and its parts are the document's. Conditions: none. -/
import Derived.Test.YtdnofpafojjjaaaDoorQGrainClassesx2
import Derived.Test.YtdnofpafojjjaaaDoorNum
namespace Go.Proofs.YtdnofpafojjjaaaDoor.Pure
open Go.RowKit Go.Proofs.YtdnofpafojjjaaaDoor.QGrainClasses Go.Proofs.YtdnofpafojjjaaaDoorW.PrintWords Go.Proofs.YtdnofpafojjjaaaDoorW.PrintLast Go.Proofs.YtdnofpafojjjaaaDoorW.PrintMore
open Go.Proofs.YtdnofpafojjjaaaDoor.Num

theorem log_p (m : Nat) (h : 0 < m) : ∃ p, 2 ^ p ≤ m ∧ m < 2 ^ (p + 1) := ⟨m.log2, Nat.log2_self_le (by omega), Nat.lt_log2_self⟩
theorem p_lt {p m n : Nat} (hlo : 2 ^ p ≤ m) (h : m < 2 ^ n) : p < n := (Nat.pow_lt_pow_iff_right (by decide : 1 < 2)).mp (Nat.lt_of_le_of_lt hlo h)
theorem half_u64 (x : Nat) (hx : x < 18446744073709551616) : IntKind.u64.wrap (Int.tdiv (x : Int) 2) = ((x / 2 : Nat) : Int) := by
  rw [tdiv_nonneg _ _ (by omega), wrap_u64]; omega
theorem class_eq (k : Nat) (u : Int) (h0 : 0 ≤ u) (h1 : u < 4294967296) :
    sluiceref01_Class.f (k + 1) u = some (if u % 2147483648 = 0 then 0 else if u % 2147483648 < 8388608 then 1 else if u % 2147483648 < 2139095040 then 2 else if u % 2147483648 = 2139095040 then 3 else 4) := by
  unfold sluiceref01_Class.f
  rw [tmod_nonneg _ _ (by omega), tmod_nonneg _ _ (by omega)]
  simp only [sluiceref01_Class.j0, bne_iff_ne, ne_eq]
  repeat' split
  all_goals first | rfl | (exfalso; omega) | (simp at *; done) | (simp at *; omega)
/-! ### Trailing zeros -/
/-- An odd number times a power of two: the lowest bit alone stands in it and in its complement to 2^32. -/
theorem low_bit (m j q : Nat) (hm : m = 2 ^ j * (2 * q + 1)) (h : m < 2 ^ 32) : m &&& (2 ^ 32 - m) = 2 ^ j := by
  have hp : 0 < 2 ^ j := Nat.two_pow_pos j
  have hm1 : m - 1 + 1 = m := by
    have : 1 ≤ m := by rw [hm]; exact Nat.mul_pos hp (by omega)
    omega
  have hmm : m - 1 = 2 ^ j * (2 * q) + (2 ^ j - 1) := by
    have : m = 2 ^ j * (2 * q) + 2 ^ j := by rw [hm, Nat.mul_add, Nat.mul_one]
    omega
  have hm0 : m = 2 ^ j * (2 * q + 1) + 0 := by omega
  apply Nat.eq_of_testBit_eq
  intro i
  rw [Nat.testBit_and, Nat.testBit_two_pow]
  have h2 : (2 ^ 32 - m).testBit i = (decide (i < 32) && !(m - 1).testBit i) := by
    have := Nat.testBit_two_pow_sub_succ (x := m - 1) (n := 32) (by omega) i
    rw [hm1] at this
    exact this
  rw [h2]
  have hb : (m - 1).testBit i = if i < j then (2 ^ j - 1).testBit i else (2 * q).testBit (i - j) := by
    rw [hmm]; exact Nat.testBit_two_pow_mul_add _ (by omega) i
  have ha : m.testBit i = if i < j then (0 : Nat).testBit i else (2 * q + 1).testBit (i - j) := by
    conv => lhs; rw [hm0]
    exact Nat.testBit_two_pow_mul_add _ hp i
  have hj : j < 32 := by
    have h5 : 2 ^ j ≤ m := by rw [hm]; exact Nat.le_mul_of_pos_right _ (by omega)
    exact (Nat.pow_lt_pow_iff_right (by decide : 1 < 2)).mp (Nat.lt_of_le_of_lt h5 h)
  rw [ha, hb]
  by_cases c : i < j
  · rw [if_pos c]
    have : ¬ j = i := by omega
    simp [this]
  · rw [if_neg c, if_neg c]
    by_cases e : j = i
    · subst e
      simp [hj]
    · obtain ⟨d, hd⟩ : ∃ d, i - j = d + 1 := ⟨i - j - 1, by omega⟩
      rw [hd]
      have g1 : (2 * q + 1).testBit (d + 1) = q.testBit d := by rw [Nat.testBit_succ]; congr 1; omega
      have g2 : (2 * q).testBit (d + 1) = q.testBit d := by rw [Nat.testBit_succ]; congr 1; omega
      rw [g1, g2]
      cases q.testBit d <;> simp [e]
theorem table_ok : ∀ j : Nat, j < 32 → Glob.debruijn.getD ((2 ^ j * 125613361 % 4294967296) / 134217728) 0 = (j : Int) := by decide +kernel
theorem tz_eq (m j q : Nat) (hm : m = 2 ^ j * (2 * q + 1)) (h : m < 4294967296) : bits_TrailingZeros32.f (m : Int) = some (j : Int) := by
  have hp : 0 < 2 ^ j := Nat.two_pow_pos j
  have hm1 : 1 ≤ m := by rw [hm]; exact Nat.mul_pos hp (by omega)
  have e32 : (2 : Nat) ^ 32 = 4294967296 := by decide
  have hj : j < 32 := by
    have h5 : 2 ^ j ≤ m := by rw [hm]; exact Nat.le_mul_of_pos_right _ (by omega)
    exact (Nat.pow_lt_pow_iff_right (by decide : 1 < 2)).mp (Nat.lt_of_le_of_lt h5 (by omega))
  unfold bits_TrailingZeros32.f
  rw [if_neg (by omega)]
  have hix : (bits_TrailingZeros32.ix (m : Int)).toNat = (2 ^ j * 125613361 % 4294967296) / 134217728 := by
    unfold bits_TrailingZeros32.ix
    have e1 : (-(m : Int)) % 4294967296 = ((4294967296 - m : Nat) : Int) := by omega
    rw [e1, n32_and m (4294967296 - m) h (by omega)]
    have := low_bit m j q hm (by omega)
    rw [e32] at this
    rw [this]
    generalize 2 ^ j = X
    have e : ((X : Int) * 125613361 % 4294967296) / 134217728 = (((X * 125613361 % 4294967296) / 134217728 : Nat) : Int) := by
      rw [Int.natCast_ediv, Int.natCast_emod, Int.natCast_mul]; rfl
    rw [e, Int.toNat_natCast]
  rw [hix, table_ok j hj, w64_id (by omega) (by omega)]

/-! ### Parts -/
theorem parts_loop (neg : Bool) : ∀ (p m : Nat) (t : Int), 2 ^ p ≤ m → m < 2 ^ (p + 1) → m < 16777216 → p ≤ 24 → -1000 ≤ t → t + p ≤ 1000 →
    ∃ j q : Nat, j ≤ p ∧ m = 2 ^ j * (2 * q + 1) ∧ ∀ k, sluiceref01_Parts.l0 (k + 1 + p) neg m t = some (neg, ((2 * q + 1 : Nat) : Int), t + j, 0) := by
  intro p
  induction p with
  | zero =>
    intro m t h1 h2 h3 _ h4 h5
    have : m = 1 := by simp at h1 h2; omega
    subst this
    refine ⟨0, 0, by omega, by simp, fun k => ?_⟩
    show sluiceref01_Parts.l0 (k + 1) neg _ t = _
    rw [sluiceref01_Parts.l0, if_neg (by decide)]
    simp
  | succ p ih =>
    intro m t h1 h2 h3 h4 h5 h6
    have g1 : 2 ^ p ≤ m / 2 := by rw [Nat.pow_succ] at h1; omega
    have g2 : m / 2 < 2 ^ (p + 1) := by rw [Nat.pow_succ] at h2; omega
    by_cases c : m % 2 = 0
    · obtain ⟨j, q, hj, hm, hk⟩ := ih (m / 2) (t + 1) g1 g2 (by omega) (by omega) (by omega) (by omega)
      refine ⟨j + 1, q, by omega, ?_, fun k => ?_⟩
      · have : m = m / 2 * 2 := by omega
        rw [this, hm, Nat.pow_succ]
        rw [Nat.mul_right_comm]
      · have e2 : k + 1 + (p + 1) = (k + 1 + p) + 1 := by omega
        rw [e2, sluiceref01_Parts.l0, tmod_nonneg _ _ (by omega), if_pos (by omega), half_u64 m (by omega), w64_id (by omega) (by omega), hk k]
        simp only [Option.some.injEq, Prod.mk.injEq, true_and, and_true]
        omega
    · refine ⟨0, m / 2, by omega, by simp; omega, fun k => ?_⟩
      have e2 : k + 1 + (p + 1) = (k + 1 + p) + 1 := by omega
      rw [e2, sluiceref01_Parts.l0, tmod_nonneg _ _ (by omega), if_neg (by omega)]
      simp only [Option.some.injEq, Prod.mk.injEq, true_and, and_true]
      omega
theorem shr32_nat (m j : Nat) (hj : j ≤ 32) : shr .u32 (m : Int) (j : Int) = ((m / 2 ^ j : Nat) : Int) := by
  unfold shr
  have e : min (j : Int).toNat IntKind.u32.bits = j := by simp only [Int.toNat_natCast, IntKind.bits]; omega
  rw [e]; simp
theorem sign_ne (u : Int) (h0 : 0 ≤ u) (h1 : u < 4294967296) : ((Go.bits .and .u32 u 2147483648) != 0) = decide (u ≥ 2147483648) := by
  rw [u32_sign u h0 h1, Bool.eq_iff_iff, bne_iff_ne, decide_eq_true_eq]
  split <;> omega
/-- The parts of a number that is not 0: m of at most 24 bits at the place t. -/
theorem parts_both (u : Int) (m : Nat) (t : Int) (hm0 : 0 < m) (hm : m < 16777216) (ht : -149 ≤ t) (ht' : t ≤ 200) :
    ∃ (q j : Nat), (∀ k, sluiceref01_Parts.l0 (k + 40) (decide (u ≥ 2147483648)) m t = some (decide (u ≥ 2147483648), ((2 * q + 1 : Nat) : Int), t + j, 0)) ∧
      bits_TrailingZeros32.f (m : Int) = some (j : Int) ∧ shr .u32 (m : Int) (j : Int) = ((2 * q + 1 : Nat) : Int) ∧ j < 32 := by
  obtain ⟨p, hlo, hhi⟩ := log_p m hm0
  have hp : p < 24 := p_lt hlo (by have : (2 : Nat) ^ 24 = 16777216 := by decide
                                   omega)
  obtain ⟨j, q, hj, hmq, hk⟩ := parts_loop (decide (u ≥ 2147483648)) p m t hlo hhi hm (by omega) (by omega) (by omega)
  refine ⟨q, j, fun k => ?_, tz_eq m j q hmq (by omega), ?_, by omega⟩
  · have e : k + 40 = (k + 39 - p) + 1 + p := by omega
    rw [e]; exact hk _
  · rw [shr32_nat m j (by omega), hmq, Nat.mul_div_cancel_left _ (Nat.two_pow_pos _)]

theorem parts_eq (u : Int) (h0 : 0 ≤ u) (h1 : u < 4294967296) (k : Nat) : ∃ r, grain_Parts.f u = some r ∧ sluiceref01_Parts.f (k + 50) u = some r := by
  have hc := class_eq (k + 49) u h0 h1
  have hmod : Int.tmod u 2147483648 = u % 2147483648 := tmod_nonneg _ _ h0
  unfold grain_Parts.f sluiceref01_Parts.f
  rw [hc, u32_unsign u h0 h1]
  simp only [Option.bind_some]
  by_cases cb : u % 2147483648 ≥ 2139095040
  · rw [if_pos cb]
    refine ⟨_, rfl, ?_⟩
    by_cases c3 : u % 2147483648 = 2139095040
    · rw [if_pos (by rw [if_neg (by omega), if_neg (by omega), if_neg (by omega), if_pos c3]), sluiceref01_Parts.j0, if_pos rfl]
    · have e4 : (if u % 2147483648 = 0 then (0 : Int) else if u % 2147483648 < 8388608 then 1 else if u % 2147483648 < 2139095040 then 2 else if u % 2147483648 = 2139095040 then 3 else 4) = 4 := by
        rw [if_neg (by omega), if_neg (by omega), if_neg (by omega), if_neg c3]
      rw [e4, if_neg (by decide), sluiceref01_Parts.j0]
      rfl
  · rw [if_neg cb]
    obtain ⟨C, hC⟩ : ∃ C, (if u % 2147483648 = 0 then (0 : Int) else if u % 2147483648 < 8388608 then 1 else if u % 2147483648 < 2139095040 then 2 else if u % 2147483648 = 2139095040 then 3 else 4) = C := ⟨_, rfl⟩
    have hCr : C = 0 ∨ C = 1 ∨ C = 2 := by
      rw [← hC]
      by_cases d1 : u % 2147483648 = 0
      · rw [if_pos d1]; omega
      rw [if_neg d1]
      by_cases d2 : u % 2147483648 < 8388608
      · rw [if_pos d2]; omega
      rw [if_neg d2, if_pos (by omega)]; omega
    rw [hC, if_neg (show ¬ C = 3 by omega)]
    have hCb : (C == 4) = false := by rw [beq_eq_false_iff_ne]; omega
    rw [hCb, sluiceref01_Parts.j0, if_neg (show ¬ (false = true) by decide), hmod]
    have hmask : Go.bits .and .u32 u 8388607 = u % 8388608 := by
      have := u32_mask 23 (by decide) u h0 h1
      simpa using this
    rw [hmask, sign_ne u h0 h1]
    by_cases ce : u % 2147483648 < 8388608
    · -- below 2^-126
      have hsz : sluiceref01_size.f (u % 2147483648) = some (u % 8388608, -149) := by
        unfold sluiceref01_size.f
        rw [w64_id (by omega) (by omega), if_pos (by omega), tmod_nonneg _ _ (by omega), wrap_u64]
        congr 2
        omega
      rw [hsz, w64_id (n := u % 2147483648 / 8388608) (by omega) (by omega), if_neg (show ¬ u % 2147483648 / 8388608 > 0 by omega)]
      simp only [Option.bind_some]
      by_cases cz : u % 8388608 = 0
      · rw [if_pos cz, if_pos cz]; exact ⟨_, rfl, rfl⟩
      · rw [if_neg cz, if_neg cz]
        obtain ⟨m, hm⟩ := Int.eq_ofNat_of_zero_le (show 0 ≤ u % 8388608 by omega)
        rw [hm]
        obtain ⟨q, j, g1, g2, g3, g4⟩ := parts_both u m (-149) (by omega) (by omega) (by omega) (by omega)
        rw [g2]
        simp only [Option.bind_some]
        rw [if_pos (show (0 : Int) ≤ (j : Int) by omega), g3, g1 (k + 9)]
        refine ⟨_, rfl, ?_⟩
        congr 4
        rw [w64_id (n := u % 2147483648 / 8388608 - 149) (by omega) (by omega), w64_id (by omega) (by omega)]
        omega
    · have hsz : sluiceref01_size.f (u % 2147483648) = some (u % 8388608 + 8388608, u % 2147483648 / 8388608 - 150) := by
        unfold sluiceref01_size.f
        rw [w64_id (n := u % 2147483648 / 8388608) (by omega) (by omega), if_neg (by omega), tmod_nonneg _ _ (by omega), wrap_u64, wrap_u64, w64_id (by omega) (by omega)]
        congr 2
        omega
      have hor : Go.bits .or .u32 (u % 8388608) 8388608 = u % 8388608 + 8388608 := by
        have := u32_join 23 8388608 (u % 8388608) (by decide) (by decide) (by decide) (by omega) (by omega) (by omega)
        have hcomm : Go.bits .or .u32 (u % 8388608) 8388608 = Go.bits .or .u32 8388608 (u % 8388608) := by
          obtain ⟨m, hm⟩ := Int.eq_ofNat_of_zero_le (show 0 ≤ u % 8388608 by omega)
          rw [hm]
          have a1 := n32_or m 8388608 (by omega) (by decide)
          have a2 := n32_or 8388608 m (by decide) (by omega)
          rw [Nat.or_comm] at a2
          exact a1.trans a2.symm
        rw [hcomm, this]; omega
      rw [hsz, hor, w64_id (n := u % 2147483648 / 8388608) (by omega) (by omega), if_pos (show u % 2147483648 / 8388608 > 0 by omega), if_neg (show ¬ u % 8388608 + 8388608 = 0 by omega)]
      simp only [Option.bind_some]
      rw [if_neg (show ¬ u % 8388608 + 8388608 = 0 by omega)]
      obtain ⟨m, hm⟩ := Int.eq_ofNat_of_zero_le (show 0 ≤ u % 8388608 + 8388608 by omega)
      rw [hm]
      obtain ⟨q, j, g1, g2, g3, g4⟩ := parts_both u m (u % 2147483648 / 8388608 - 150) (by omega) (by omega) (by omega) (by omega)
      rw [g2]
      simp only [Option.bind_some]
      rw [if_pos (show (0 : Int) ≤ (j : Int) by omega), g3, g1 (k + 9)]
      refine ⟨_, rfl, ?_⟩
      congr 4
      rw [w64_id (n := u % 2147483648 / 8388608 - 1) (by omega) (by omega), w64_id (n := u % 2147483648 / 8388608 - 1 - 149) (by omega) (by omega), w64_id (by omega) (by omega)]
      omega

theorem gclass_eq (u : Int) (h0 : 0 ≤ u) (h1 : u < 4294967296) : grain_Class.f u = some (if u % 2147483648 = 0 then 0 else if u % 2147483648 < 8388608 then 1 else if u % 2147483648 < 2139095040 then 2 else if u % 2147483648 = 2139095040 then 3 else 4) := by
  unfold grain_Class.f
  rw [u32_unsign u h0 h1]
  repeat' split
  all_goals first | rfl | (exfalso; omega)
theorem grank_eq (u : Int) (h0 : 0 ≤ u) (h1 : u < 4294967296) : ∃ r, grain_Rank.f u = some r ∧ sluiceref01_Rank.f u = some r := by
  refine ⟨if u < 2147483648 then u else 2147483647 - u, ?_, ?_⟩
  · unfold grain_Rank.f
    rw [u32_sign u h0 h1, u32_unsign u h0 h1, w64_id (by omega) (by omega), w64_id (by omega) (by omega), i64_not _ (by omega) (by omega)]
    by_cases c : u < 2147483648
    · simp [c]
    · rw [if_neg c, if_neg (by decide), if_neg c]
      congr 1; omega
  · unfold sluiceref01_Rank.f
    by_cases c : u < 2147483648
    · rw [if_pos c, if_pos c, w64_id (by omega) (by omega)]
    · rw [if_neg c, if_neg c, w64_id (n := u) (by omega) (by omega), w64_id (n := u - 2147483648) (by omega) (by omega), w64_id (by omega) (by omega)]
      congr 1; omega
theorem gofrank_eq (r : Int) (h0 : -9223372036854775808 ≤ r) (h1 : r < 9223372036854775808) (k : Nat) : ∃ x, grain_OfRank.f (k + 1) r = some x ∧ sluiceref01_OfRank.f (k + 1) r = some x := by
  unfold grain_OfRank.f sluiceref01_OfRank.f
  by_cases c1 : r < -2147483648
  · rw [if_pos c1, if_pos c1, grain_OfRank.j0, sluiceref01_OfRank.j0]
    exact ⟨_, if_pos rfl, if_pos rfl⟩
  rw [if_neg c1, if_neg c1]
  by_cases c2 : r > 2147483647
  · rw [decide_eq_true c2, decide_eq_true (by omega), grain_OfRank.j0, sluiceref01_OfRank.j0]
    exact ⟨_, if_pos rfl, if_pos rfl⟩
  rw [decide_eq_false c2, decide_eq_false (by omega), grain_OfRank.j0, sluiceref01_OfRank.j0, if_neg (show ¬ (false = true) by decide), if_neg (show ¬ (false = true) by decide)]
  by_cases c3 : r < 0
  · rw [if_pos c3, if_neg (show ¬ r ≥ 0 by omega), i64_not _ (by omega) (by omega)]
    have e : (-1 - r) % 4294967296 = -1 - r := by omega
    rw [e, u32_or31 _ (by omega) (by omega)]
    refine ⟨_, rfl, ?_⟩
    congr 2
    rw [w64_id (n := -1 - r) (by omega) (by omega), w64_id (by omega) (by omega)]
    omega
  · rw [if_neg c3, if_pos (show r ≥ 0 by omega)]
    exact ⟨_, rfl, rfl⟩

theorem GrainClasses : sluicelaw01_GrainClasses.Pure := by
  intro u r wu wr
  obtain ⟨hu0, hu1⟩ := wf_u32 wu
  obtain ⟨hr0, hr1⟩ := wf_i64 wr
  have hc : ∀ k, sluiceref01_Class.f (k + 1) u = _ := fun k => class_eq k u hu0 hu1
  have hg := gclass_eq u hu0 hu1
  generalize (if u % 2147483648 = 0 then (0 : Int) else if u % 2147483648 < 8388608 then 1 else if u % 2147483648 < 2139095040 then 2 else if u % 2147483648 = 2139095040 then 3 else 4) = C at hc hg
  obtain ⟨a, ha1, ha2⟩ := grank_eq u hu0 hu1
  obtain ⟨x, hx1, hx2⟩ := gofrank_eq r hr0 hr1 60
  obtain ⟨y, hy1, hy2⟩ := parts_eq u hu0 hu1 10
  have hback : ((u.toNat : Nat) : Int) = u := by omega
  have hj1 : sluicelaw01_GrainClasses.j1 61 u false = some true := by
    rw [sluicelaw01_GrainClasses.j1, if_neg (by decide), hy1, hy2]
    simp [sluicelaw01_num.f]
  have hj0 : sluicelaw01_GrainClasses.j0 62 u r false = some true := by
    rw [sluicelaw01_GrainClasses.j0, if_neg (by decide), hx1, hx2, hg, hc 60, ha1, ha2]
    simp only [Option.bind_some, if_true, sluicelaw01_num.f, bne_self_eq_false]
    exact hj1
  refine ⟨62, ?_⟩
  unfold sluicelaw01_GrainClasses.f grain_Float.f grain_Bits.f
  simp only [Option.bind_some]
  rw [hc 61, hback]
  simp only [Option.bind_some]
  by_cases c : C = 4
  · rw [if_pos c, hc 61]
    simp only [Option.bind_some]
    subst c
    exact hj0
  · rw [if_neg c, if_pos trivial]
    exact hj0

end Go.Proofs.YtdnofpafojjjaaaDoor.Pure
