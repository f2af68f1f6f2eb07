/- What the functions that the statement GrainParts reaches come to, and that the given program's calls come to it; written by this session's program printx.py (wip/tpl), which runs the kit's print over the translation with additions of its own. No printed file. Conditions: as each theorem says. -/
import Derived.Test.YtdnofpafojjjaaaDoorQGrainPartsx0
namespace Go.Proofs.YtdnofpafojjjaaaDoor.QGrainParts
open Go.RowKit Go.Proofs.YtdnofpafojjjaaaDoorW.PrintWords Go.Proofs.YtdnofpafojjjaaaDoorW.PrintLast Go.Proofs.YtdnofpafojjjaaaDoorW.PrintMore
attribute [local go_sem] max2_int min2_int max_two min_two max_three min_three max_four min_four   -- for this text's walks alone
set_option linter.unusedVariables false
set_option linter.unusedSimpArgs false

/-! ### bits_TrailingZeros32: function 39 -/
def bits_TrailingZeros32.ix (a0 : Int) : Int := (((Go.bits .and .u32 a0 ((-a0) % 4294967296)) * 125613361) % 4294967296) / 134217728
def bits_TrailingZeros32.f (a0 : Int) : Option (Int) := if a0 = 0 then some 32 else some (wrap64 (Glob.debruijn.getD (bits_TrailingZeros32.ix a0).toNat 0))
theorem bits_TrailingZeros32.ix_range (a0 : Int) : 0 ≤ bits_TrailingZeros32.ix a0 ∧ bits_TrailingZeros32.ix a0 < 32 := by
  unfold bits_TrailingZeros32.ix
  generalize Go.bits .and .u32 a0 ((-a0) % 4294967296) = b
  omega
set_option maxHeartbeats 2000000 in
set_option maxRecDepth 100000 in
theorem bits_TrailingZeros32.calls (a0 : Int) (r : Int) (w : World) (h : bits_TrailingZeros32.f a0 = some r) (hGD : Glob.GD w) :
    Calls Tryd.prog 39 #[.int .u32 a0] w fun e w' => e = .returned (.int .i64 r) ∧ Drawn0 w w' := by
  unfold bits_TrailingZeros32.f at h
  by_cases c : a0 = 0
  · rw [if_pos c] at h
    have cb : (a0 == 0) = true := beq_iff_eq.mpr c
    obtain rfl := Option.some.inj h
    clear c h hGD
    go_enter Tryd.func39, Tryd.ntmps39
    go_wp2
    go_ret
    exact ⟨by first | rfl | (simp; done) | (simp [*]; done), by repeat (first | exact Drawn0.refl _ | apply Drawn0.step)⟩
  · rw [if_neg c] at h
    have cb : (a0 == 0) = false := beq_eq_false_iff_ne.mpr c
    obtain rfl := Option.some.inj h
    have hr := bits_TrailingZeros32.ix_range a0
    have hc := hGD.cell (bits_TrailingZeros32.ix a0) hr.1 hr.2
    clear c h hGD
    generalize hT : Glob.debruijn.getD (bits_TrailingZeros32.ix a0).toNat 0 = T at *
    unfold bits_TrailingZeros32.ix at hc hr
    obtain ⟨h0, h1⟩ := hr
    clear hT
    go_enter Tryd.func39, Tryd.ntmps39
    go_wp2
    go_ret
    exact ⟨by first | rfl | (simp; done) | (simp [*]; done), by repeat (first | exact Drawn0.refl _ | apply Drawn0.step)⟩
theorem bits_TrailingZeros32.low_bit (m j q : Nat) (hm : m = 2 ^ j * (2 * q + 1)) (h : m < 2 ^ 32) : m &&& (2 ^ 32 - m) = 2 ^ j := by
  have hp : 0 < 2 ^ j := Nat.two_pow_pos j
  have hm1 : m - 1 + 1 = m := by
    have : 1 ≤ m := by rw [hm]; exact Nat.mul_pos hp (by omega)
    omega
  have hmm : m - 1 = 2 ^ j * (2 * q) + (2 ^ j - 1) := by
    have : m = 2 ^ j * (2 * q) + 2 ^ j := by rw [hm, Nat.mul_add, Nat.mul_one]
    omega
  have hm0 : m = 2 ^ j * (2 * q + 1) + 0 := by omega
  apply Nat.eq_of_testBit_eq
  intro i
  rw [Nat.testBit_and, Nat.testBit_two_pow]
  have h2 : (2 ^ 32 - m).testBit i = (decide (i < 32) && !(m - 1).testBit i) := by
    have := Nat.testBit_two_pow_sub_succ (x := m - 1) (n := 32) (by omega) i
    rw [hm1] at this
    exact this
  rw [h2]
  have hb : (m - 1).testBit i = if i < j then (2 ^ j - 1).testBit i else (2 * q).testBit (i - j) := by
    rw [hmm]; exact Nat.testBit_two_pow_mul_add _ (by omega) i
  have ha : m.testBit i = if i < j then (0 : Nat).testBit i else (2 * q + 1).testBit (i - j) := by
    conv => lhs; rw [hm0]
    exact Nat.testBit_two_pow_mul_add _ hp i
  have hj : j < 32 := by
    have h5 : 2 ^ j ≤ m := by rw [hm]; exact Nat.le_mul_of_pos_right _ (by omega)
    exact (Nat.pow_lt_pow_iff_right (by decide : 1 < 2)).mp (Nat.lt_of_le_of_lt h5 h)
  rw [ha, hb]
  by_cases c : i < j
  · rw [if_pos c]
    have : ¬ j = i := by omega
    simp [this]
  · rw [if_neg c, if_neg c]
    by_cases e : j = i
    · subst e
      simp [hj]
    · obtain ⟨d, hd⟩ : ∃ d, i - j = d + 1 := ⟨i - j - 1, by omega⟩
      rw [hd]
      have g1 : (2 * q + 1).testBit (d + 1) = q.testBit d := by rw [Nat.testBit_succ]; congr 1; omega
      have g2 : (2 * q).testBit (d + 1) = q.testBit d := by rw [Nat.testBit_succ]; congr 1; omega
      rw [g1, g2]
      cases q.testBit d <;> simp [e]
theorem bits_TrailingZeros32.table_ok : ∀ j : Nat, j < 32 → Glob.debruijn.getD ((2 ^ j * 125613361 % 4294967296) / 134217728) 0 = (j : Int) := by decide +kernel
theorem bits_TrailingZeros32.tz_eq (m j q : Nat) (hm : m = 2 ^ j * (2 * q + 1)) (h : m < 4294967296) : bits_TrailingZeros32.f (m : Int) = some (j : Int) := by
  have hp : 0 < 2 ^ j := Nat.two_pow_pos j
  have hm1 : 1 ≤ m := by rw [hm]; exact Nat.mul_pos hp (by omega)
  have e32 : (2 : Nat) ^ 32 = 4294967296 := by decide
  have hj : j < 32 := by
    have h5 : 2 ^ j ≤ m := by rw [hm]; exact Nat.le_mul_of_pos_right _ (by omega)
    exact (Nat.pow_lt_pow_iff_right (by decide : 1 < 2)).mp (Nat.lt_of_le_of_lt h5 (by omega))
  unfold bits_TrailingZeros32.f
  rw [if_neg (by omega)]
  have hix : (bits_TrailingZeros32.ix (m : Int)).toNat = (2 ^ j * 125613361 % 4294967296) / 134217728 := by
    unfold bits_TrailingZeros32.ix
    have e1 : (-(m : Int)) % 4294967296 = ((4294967296 - m : Nat) : Int) := by omega
    rw [e1, Num.n32_and m (4294967296 - m) h (by omega)]
    have := bits_TrailingZeros32.low_bit m j q hm (by omega)
    rw [e32] at this
    rw [this]
    generalize 2 ^ j = X
    have e : ((X : Int) * 125613361 % 4294967296) / 134217728 = (((X * 125613361 % 4294967296) / 134217728 : Nat) : Int) := by
      rw [Int.natCast_ediv, Int.natCast_emod, Int.natCast_mul]; rfl
    rw [e, Int.toNat_natCast]
  rw [hix, bits_TrailingZeros32.table_ok j hj, Num.w64_id (by omega) (by omega)]

end Go.Proofs.YtdnofpafojjjaaaDoor.QGrainParts
