/- GrainRounds, the pure part: the program's rounding of every m * 2^e to a float32 is the document's. Conditions: none. -/
import Derived.Test.YtdnofpafojjjaaaQGrainRoundsx2
import Derived.Test.YtdnofpafojjjaaaFlo
namespace Go.Proofs.Ytdnofpafojjjaaa.Pure
open Go.RowKit Go.Proofs.Ytdnofpafojjjaaa.QGrainRounds Go.Proofs.YtdnofpafojjjaaaW.PrintWords Go.Proofs.YtdnofpafojjjaaaW.PrintLast
open Go.Proofs.Ytdnofpafojjjaaa.Num Go.Proofs.Ytdnofpafojjjaaa.Flo

/-! ### The document's rounding -/
theorem log_p (m : Nat) (h : 0 < m) : ∃ p, 2 ^ p ≤ m ∧ m < 2 ^ (p + 1) := ⟨m.log2, Nat.log2_self_le (by omega), Nat.lt_log2_self⟩
theorem p_lt {p m n : Nat} (hlo : 2 ^ p ≤ m) (h : m < 2 ^ n) : p < n := (Nat.pow_lt_pow_iff_right (by decide : 1 < 2)).mp (Nat.lt_of_le_of_lt hlo h)
theorem half_u64 (x : Nat) (hx : x < 18446744073709551616) : IntKind.u64.wrap (Int.tdiv (x : Int) 2) = ((x / 2 : Nat) : Int) := by
  rw [tdiv_nonneg _ _ (by omega), wrap_u64]; omega
theorem rr_loop (neg : Bool) (m e : Int) : ∀ (p x : Nat) (t : Int) (k : Nat), 2 ^ p ≤ x → x < 2 ^ (p + 1) → x < 18446744073709551616 → -1000 ≤ t → t + p ≤ 1000 →
    sluiceref01_Round.l0 (k + 1 + p) neg m e t x = sluiceref01_Round.l0 (k + 1) neg m e (t + p) 1 := by
  intro p
  induction p with
  | zero =>
    intro x t k h1 h2 _ _ _
    have : x = 1 := by simp at h1 h2; omega
    subst this
    simp
  | succ p ih =>
    intro x t k h1 h2 h3 h4 h5
    have g1 : 2 ^ p ≤ x / 2 := by rw [Nat.pow_succ] at h1; omega
    have g2 : x / 2 < 2 ^ (p + 1) := by rw [Nat.pow_succ] at h2; omega
    have g0 : 1 ≤ 2 ^ p := Nat.one_le_two_pow
    have hx : (x : Int) > 1 := by rw [Nat.pow_succ] at h1; omega
    have e1 : k + 1 + (p + 1) = (k + 1 + p) + 1 := by omega
    rw [e1]
    rw [sluiceref01_Round.l0]
    rw [if_pos hx, half_u64 x h3, w64_id (by omega) (by omega), ih (x / 2) (t + 1) k g1 g2 (by omega) (by omega) (by omega)]
    congr 1
    omega

theorem rr_j3 (k : Nat) (neg : Bool) (U : Int) (q : Nat) (up : Bool) (h1 : -149 ≤ U) (h2 : U ≤ 1000) (hq : q ≤ 16777216) :
    sluiceref01_Round.j3 (k + 1) neg U q up = sluiceref01_signed.f neg (if -149 < U then (if (U + 149) * 8388608 + ((if up = true then q + 1 else q : Nat) : Int) < 2139095040 then (U + 149) * 8388608 + ((if up = true then q + 1 else q : Nat) : Int) else 2139095040) else ((if up = true then q + 1 else q : Nat) : Int)) := by
  simp only [sluiceref01_Round.j3, Option.bind_fun_some, gt_iff_lt]
  have hs : ∀ u v : Int, u = v → sluiceref01_signed.f neg u = sluiceref01_signed.f neg v := fun _ _ h => by rw [h]
  cases up with
  | true =>
    simp only [if_true]
    split
    · apply hs; simp only [wrap_u64, wrap64, mn]; split <;> split <;> omega
    · apply hs; simp only [wrap_u64, mn]; split <;> omega
  | false =>
    simp only [Bool.false_eq_true, if_false]
    split
    · apply hs; simp only [wrap_u64, wrap64, mn]; split <;> split <;> omega
    · apply hs; simp only [mn]; split <;> omega

theorem rr_j2 (k : Nat) (neg : Bool) (U : Int) (q rest half : Nat) (h1 : -149 ≤ U) (h2 : U ≤ 1000) (hq : q ≤ 16777216) (hh : 0 < half) :
    sluiceref01_Round.j2 (k + 2) neg U q rest half = sluiceref01_signed.f neg (if -149 < U then (if (U + 149) * 8388608 + (rup q rest half : Int) < 2139095040 then (U + 149) * 8388608 + (rup q rest half : Int) else 2139095040) else (rup q rest half : Int)) := by
  have ht : Int.tmod (q : Int) 2 = ((q % 2 : Nat) : Int) := by rw [tmod_nonneg _ _ (by omega)]; omega
  rw [sluiceref01_Round.j2]
  rw [if_pos (by omega : (half : Int) > 0), ht]
  by_cases c1 : (rest : Int) > (half : Int)
  · rw [if_pos c1, rr_j3 k neg U q true h1 h2 hq]
    have : rup q rest half = q + 1 := by unfold rup; rw [if_pos (by omega)]
    simp only [this, if_true]
  · rw [if_neg c1]
    by_cases c2 : (rest : Int) = (half : Int)
    · rw [if_pos c2, rr_j3 k neg U q _ h1 h2 hq]
      have : (if (((q % 2 : Nat) : Int) == 1) = true then q + 1 else q) = rup q rest half := by
        unfold rup
        simp only [beq_iff_eq]
        split <;> split <;> omega
      rw [this]
    · rw [if_neg c2, rr_j3 k neg U q false h1 h2 hq]
      have : rup q rest half = q := by unfold rup; rw [if_neg (by omega)]
      simp only [this, Bool.false_eq_true, if_false]

theorem rr_j2z (k : Nat) (neg : Bool) (U : Int) (q : Nat) (h1 : -149 ≤ U) (h2 : U ≤ 1000) (hq : q ≤ 16777216) :
    sluiceref01_Round.j2 (k + 2) neg U q 0 0 = sluiceref01_signed.f neg (if -149 < U then (if (U + 149) * 8388608 + (q : Int) < 2139095040 then (U + 149) * 8388608 + (q : Int) else 2139095040) else (q : Int)) := by
  rw [sluiceref01_Round.j2]
  rw [if_neg (by omega : ¬ (0 : Int) > 0), rr_j3 k neg U q false h1 h2 hq]
  simp only [Bool.false_eq_true, if_false]

theorem shl_nat (m j : Nat) (hj : j ≤ 64) (h : m * 2 ^ j < 18446744073709551616) : shl .u64 (m : Int) (j : Int) = ((m * 2 ^ j : Nat) : Int) := by
  unfold shl
  have e : min (j : Int).toNat IntKind.u64.bits = j := by simp only [Int.toNat_natCast, IntKind.bits]; omega
  have e2 : (m : Int) * 2 ^ j = ((m * 2 ^ j : Nat) : Int) := by simp
  rw [e, e2, u64_id (by omega) (by omega)]
theorem shr_nat (m j : Nat) (hj : j ≤ 64) : shr .u64 (m : Int) (j : Int) = ((m / 2 ^ j : Nat) : Int) := by
  unfold shr
  have e : min (j : Int).toNat IntKind.u64.bits = j := by simp only [Int.toNat_natCast, IntKind.bits]; omega
  rw [e]; simp

theorem rr_after (k : Nat) (neg : Bool) (m : Nat) (e : Int) (p : Nat) (hlo : 2 ^ p ≤ m) (hhi : m < 2 ^ (p + 1)) (hm : m < 18446744073709551616) (he : -300 ≤ e) (he' : e ≤ 200) :
    sluiceref01_Round.l0 (k + 3) neg m e (e + p) 1 = sluiceref01_signed.f neg (rspec p m e) := by
  have hp : p < 64 := p_lt hlo hm
  have hu := unit_ge p e
  have hU : mx (wrap64 (e + p - 23)) (-149) = unitOf p e := by
    rw [w64_id (by omega) (by omega)]; unfold mx unitOf; split <;> split <;> omega
  have hc := core_range (d := unitOf p e - e) hhi (by omega)
  unfold rspec
  rw [sluiceref01_Round.l0]
  rw [if_neg (by decide : ¬ (1 : Int) > 1), hU, w64_id (n := unitOf p e - e) (by omega) (by omega)]
  generalize hd : unitOf p e - e = d at *
  generalize unitOf p e = U at *
  by_cases c1 : d ≤ 0
  · have hcore : core m d = m * 2 ^ (-d).toNat := by unfold core; rw [if_pos c1]
    rw [hcore] at hc ⊢
    obtain ⟨j, hj⟩ := Int.eq_ofNat_of_zero_le (show 0 ≤ -d by omega)
    have hjn : (-d).toNat = j := by omega
    rw [hjn] at hc ⊢
    rw [if_pos c1, w64_id (n := -d) (by omega) (by omega), if_pos (by omega : 0 ≤ -d), hj]
    rw [shl_nat m j (by omega) (by omega), rr_j2z k neg U _ (by omega) (by omega) hc]
  · rw [if_neg c1]
    obtain ⟨j, hj⟩ := Int.eq_ofNat_of_zero_le (show 0 ≤ d by omega)
    have hcore : core m d = rup (m / 2 ^ j) (m % 2 ^ j) (2 ^ (j - 1)) := by unfold core; rw [if_neg c1, hj, Int.toNat_natCast]
    rw [hcore] at hc ⊢
    have hr := rup_le (m / 2 ^ j) (m % 2 ^ j) (2 ^ (j - 1))
    have hjj : wrap64 (d - 1) = ((j - 1 : Nat) : Int) := by rw [w64_id (by omega) (by omega)]; omega
    have hhalf : ∀ n : Nat, n < 64 → shl .u64 1 (n : Int) = ((2 ^ n : Nat) : Int) := by
      intro n hn
      have := shl_nat 1 n (by omega) (by
        have h3 : 2 ^ n < 2 ^ 64 := Nat.pow_lt_pow_right (by decide) hn
        have h4 : (2 : Nat) ^ 64 = 18446744073709551616 := by decide
        omega)
      simpa using this
    rw [hjj]
    by_cases c2 : d ≤ 64
    · rw [if_pos c2]
      by_cases c3 : d < 64
      · rw [if_pos c3, if_pos (by omega : (0 : Int) ≤ d), if_pos (by omega), hj, shr_nat m j (by omega), hhalf (j - 1) (by omega)]
        have hle : m / 2 ^ j * 2 ^ j ≤ m := Nat.div_mul_le_self _ _
        rw [shl_nat _ j (by omega) (by omega)]
        have hrest : IntKind.u64.wrap ((m : Int) - ((m / 2 ^ j * 2 ^ j : Nat) : Int)) = ((m % 2 ^ j : Nat) : Int) := by
          have h5 := Nat.div_add_mod m (2 ^ j)
          rw [Nat.mul_comm] at h5
          rw [u64_id (by omega) (by omega)]; omega
        rw [hrest, rr_j2 k neg U _ _ _ (by omega) (by omega) (by omega) (Nat.two_pow_pos _)]
      · have h64 : j = 64 := by omega
        subst h64
        rw [if_neg c3, if_pos (by omega), hhalf 63 (by decide)]
        have q0 : m / 2 ^ 64 = 0 := Nat.div_eq_of_lt (by simpa using hm)
        have r0 : m % 2 ^ 64 = m := Nat.mod_eq_of_lt (by simpa using hm)
        rw [q0, r0]
        have := rr_j2 k neg U 0 m (2 ^ 63) (by omega) (by omega) (by omega) (Nat.two_pow_pos _)
        simpa using this
    · rw [if_neg c2]
      have h4 : (2 : Nat) ^ 64 = 18446744073709551616 := by decide
      have h5 : 2 ^ 64 ≤ 2 ^ (j - 1) := Nat.pow_le_pow_right (by decide) (by omega)
      have h6 : 2 ^ (j - 1) ≤ 2 ^ j := Nat.pow_le_pow_right (by decide) (by omega)
      have q0 : m / 2 ^ j = 0 := Nat.div_eq_of_lt (by omega)
      have r0 : m % 2 ^ j = m := Nat.mod_eq_of_lt (by omega)
      have : rup (m / 2 ^ j) (m % 2 ^ j) (2 ^ (j - 1)) = 0 := by
        rw [q0, r0]; unfold rup; rw [if_neg (by omega)]
      rw [this]
      have := rr_j2z k neg U 0 (by omega) (by omega) (by omega)
      simpa using this

theorem rr_round (k : Nat) (neg : Bool) (m : Nat) (e : Int) (p : Nat) (hlo : 2 ^ p ≤ m) (hhi : m < 2 ^ (p + 1)) (hm : m < 18446744073709551616) (he : -300 ≤ e) (he' : e ≤ 200) :
    sluiceref01_Round.f (k + 80) neg m e = sluiceref01_signed.f neg (rspec p m e) := by
  have hp : p < 64 := p_lt hlo hm
  have h0 : 1 ≤ 2 ^ p := Nat.one_le_two_pow
  unfold sluiceref01_Round.f
  rw [if_neg (by omega), decide_eq_false (by omega)]
  rw [sluiceref01_Round.j0]
  rw [if_neg (by decide), if_neg (by omega)]
  have e1 : k + 79 = ((k + 79 - p - 1) + 1) + p := by omega
  rw [e1, rr_loop neg m e p m e (k + 79 - p - 1) hlo hhi hm (by omega) (by omega)]
  have e2 : (k + 79 - p - 1) + 1 = (k + 79 - p - 3) + 3 := by omega
  rw [e2, rr_after _ neg m e p hlo hhi hm he he']

/-! ### The length of a number in bits -/
def len8 : ByteArray := ⟨#[0, 1, 2, 2, 3, 3, 3, 3, 4, 4, 4, 4, 4, 4, 4, 4, 5, 5, 5, 5, 5, 5, 5, 5, 5, 5, 5, 5, 5, 5, 5, 5, 6, 6, 6, 6, 6, 6, 6, 6, 6, 6, 6, 6, 6, 6, 6, 6, 6, 6, 6, 6, 6, 6, 6, 6, 6, 6, 6, 6, 6, 6, 6, 6, 7, 7, 7, 7, 7, 7, 7, 7, 7, 7, 7, 7, 7, 7, 7, 7, 7, 7, 7, 7, 7, 7, 7, 7, 7, 7, 7, 7, 7, 7, 7, 7, 7, 7, 7, 7, 7, 7, 7, 7, 7, 7, 7, 7, 7, 7, 7, 7, 7, 7, 7, 7, 7, 7, 7, 7, 7, 7, 7, 7, 7, 7, 7, 7, 8, 8, 8, 8, 8, 8, 8, 8, 8, 8, 8, 8, 8, 8, 8, 8, 8, 8, 8, 8, 8, 8, 8, 8, 8, 8, 8, 8, 8, 8, 8, 8, 8, 8, 8, 8, 8, 8, 8, 8, 8, 8, 8, 8, 8, 8, 8, 8, 8, 8, 8, 8, 8, 8, 8, 8, 8, 8, 8, 8, 8, 8, 8, 8, 8, 8, 8, 8, 8, 8, 8, 8, 8, 8, 8, 8, 8, 8, 8, 8, 8, 8, 8, 8, 8, 8, 8, 8, 8, 8, 8, 8, 8, 8, 8, 8, 8, 8, 8, 8, 8, 8, 8, 8, 8, 8, 8, 8, 8, 8, 8, 8, 8, 8, 8, 8, 8, 8, 8, 8, 8, 8, 8, 8, 8, 8, 8, 8]⟩
theorem len_j0 (k : Nat) (x0 x2 : Int) : bits_Len64.j0 (k + 1) x0 x2 = if x0 ≥ 65536 then (if (x0 / 65536) ≥ 256 then (if 0 ≤ (((x0 / 65536) / 256) % 256) then (if (((x0 / 65536) / 256) % 256) < 256 then (some (wrap64 ((wrap64 ((wrap64 (x2 + 16)) + 8)) + (wrap64 (bt len8 (((x0 / 65536) / 256) % 256)))))) else (none)) else (none)) else (if 0 ≤ ((x0 / 65536) % 256) then (if ((x0 / 65536) % 256) < 256 then (some (wrap64 ((wrap64 (x2 + 16)) + (wrap64 (bt len8 ((x0 / 65536) % 256)))))) else (none)) else (none))) else (if x0 ≥ 256 then (if 0 ≤ ((x0 / 256) % 256) then (if ((x0 / 256) % 256) < 256 then (some (wrap64 ((wrap64 (x2 + 8)) + (wrap64 (bt len8 ((x0 / 256) % 256)))))) else (none)) else (none)) else (if 0 ≤ ((x0) % 256) then (if ((x0) % 256) < 256 then (some (wrap64 (x2 + (wrap64 (bt len8 ((x0) % 256)))))) else (none)) else (none))) := rfl

theorem len8_ok : ∀ i : Nat, i < 256 → 0 < i → bt len8 (i : Int) = ((Nat.log2 i + 1 : Nat) : Int) := by decide +kernel
theorem log_of {p m : Nat} (hlo : 2 ^ p ≤ m) (hhi : m < 2 ^ (p + 1)) : Nat.log2 m = p := by
  have h0 : m ≠ 0 := by have := Nat.one_le_two_pow (n := p); omega
  exact (Nat.log2_eq_iff h0).mpr ⟨hlo, hhi⟩
theorem len_step {p m : Nat} (hlo : 2 ^ p ≤ m) (hhi : m < 2 ^ (p + 1)) (j : Nat) (hj : j ≤ p) (h : m / 2 ^ j < 256) : bt len8 ((m / 2 ^ j : Nat) : Int) = ((p - j + 1 : Nat) : Int) := by
  have h1 : 2 ^ (p - j) ≤ m / 2 ^ j := by
    rw [Nat.le_div_iff_mul_le (Nat.two_pow_pos _), ← Nat.pow_add]
    have : p - j + j = p := by omega
    rw [this]; exact hlo
  have h2 : m / 2 ^ j < 2 ^ (p - j + 1) := by
    rw [Nat.div_lt_iff_lt_mul (Nat.two_pow_pos _), ← Nat.pow_add]
    have : p - j + 1 + j = p + 1 := by omega
    rw [this]; exact hhi
  have h3 : 0 < m / 2 ^ j := Nat.lt_of_lt_of_le (Nat.two_pow_pos _) h1
  rw [len8_ok _ h h3, log_of h1 h2]
theorem p_ge {p m n : Nat} (hhi : m < 2 ^ (p + 1)) (h : 2 ^ n ≤ m) : n ≤ p := by
  have := (Nat.pow_lt_pow_iff_right (by decide : 1 < 2)).mp (Nat.lt_of_le_of_lt h hhi)
  omega
theorem len_low {p x : Nat} (hlo : 2 ^ p ≤ x) (hhi : x < 2 ^ (p + 1)) (hx : x < 4294967296) (n : Int) (hn : 0 ≤ n) (hn' : n ≤ 32) (k : Nat) :
    bits_Len64.j0 (k + 1) (x : Int) n = some (n + p + 1) := by
  rw [len_j0]
  have e8 : (2 : Nat) ^ 8 = 256 := by decide
  have e16 : (2 : Nat) ^ 16 = 65536 := by decide
  have e24 : (2 : Nat) ^ 24 = 16777216 := by decide
  have e32 : (2 : Nat) ^ 32 = 4294967296 := by decide
  have hp : p < 32 := p_lt hlo (by omega)
  have st : ∀ j : Nat, j ≤ p → x / 2 ^ j < 256 → ∀ y : Int, y = ((x / 2 ^ j : Nat) : Int) → wrap64 (bt len8 y) = p - j + 1 := by
    intro j hj h y hy
    rw [hy, len_step hlo hhi j hj h, w64_id (by omega) (by omega)]
    omega
  by_cases c1 : (x : Int) ≥ 65536
  · rw [if_pos c1]
    have g16 : 16 ≤ p := p_ge hhi (by omega)
    by_cases c2 : ((x : Int) / 65536) ≥ 256
    · rw [if_pos c2]
      have g24 : 24 ≤ p := p_ge hhi (by omega)
      rw [if_pos (by omega), if_pos (by omega), st 24 g24 (by omega) _ (by rw [e24]; omega)]
      congr 1
      simp only [wrap64]; omega
    · rw [if_neg c2, if_pos (by omega), if_pos (by omega), st 16 g16 (by omega) _ (by rw [e16]; omega)]
      congr 1
      simp only [wrap64]; omega
  · rw [if_neg c1]
    by_cases c2 : (x : Int) ≥ 256
    · rw [if_pos c2]
      have g8 : 8 ≤ p := p_ge hhi (by omega)
      rw [if_pos (by omega), if_pos (by omega), st 8 g8 (by omega) _ (by rw [e8]; omega)]
      congr 1
      simp only [wrap64]; omega
    · rw [if_neg c2, if_pos (by omega), if_pos (by omega), st 0 (by omega) (by simp; omega) _ (by simp; omega)]
      congr 1
      simp only [wrap64]; omega
theorem len_eq {p m : Nat} (hlo : 2 ^ p ≤ m) (hhi : m < 2 ^ (p + 1)) (hm : m < 18446744073709551616) (k : Nat) : bits_Len64.f (k + 1) (m : Int) = some ((p : Int) + 1) := by
  unfold bits_Len64.f
  have e32 : (2 : Nat) ^ 32 = 4294967296 := by decide
  by_cases c : (m : Int) ≥ 4294967296
  · rw [if_pos c]
    have g : 32 ≤ p := p_ge hhi (by omega)
    have h1 : 2 ^ (p - 32) ≤ m / 4294967296 := by
      rw [← e32, Nat.le_div_iff_mul_le (Nat.two_pow_pos _), ← Nat.pow_add]
      have : p - 32 + 32 = p := by omega
      rw [this]; exact hlo
    have h2 : m / 4294967296 < 2 ^ (p - 32 + 1) := by
      rw [← e32, Nat.div_lt_iff_lt_mul (Nat.two_pow_pos _), ← Nat.pow_add]
      have : p - 32 + 1 + 32 = p + 1 := by omega
      rw [this]; exact hhi
    have e : (m : Int) / 4294967296 = ((m / 4294967296 : Nat) : Int) := by omega
    rw [e, len_low h1 h2 (by omega) 32 (by decide) (by decide) k]
    congr 1; omega
  · rw [if_neg c, len_low hlo hhi (by omega) 0 (by decide) (by decide) k]
    congr 1; omega

/-! ### The program's rounding -/
theorem mg_j3 (k : Nat) (U : Int) (q : Nat) (h1 : -149 ≤ U) (h2 : U ≤ 1000) (hq : q ≤ 16777216) :
    grain_magnitude.j3 (k + 1) U q = some (if -149 < U then (if (U + 149) * 8388608 + (q : Int) < 2139095040 then (U + 149) * 8388608 + (q : Int) else 2139095040) else (q : Int)) := by
  rw [grain_magnitude.j3]
  by_cases c : U = -149
  · rw [if_pos c, if_neg (by omega : ¬ -149 < U)]; congr 1; omega
  · have hv : IntKind.u64.wrap ((IntKind.u64.wrap ((IntKind.u64.wrap (wrap64 (U + 149))) * 8388608)) + (q : Int)) = (U + 149) * 8388608 + q := by
      rw [w64_id (by omega) (by omega), u64_id (n := U + 149) (by omega) (by omega), u64_id (n := (U + 149) * 8388608) (by omega) (by omega), u64_id (by omega) (by omega)]
    rw [if_neg c, hv, if_pos (by omega : -149 < U)]
    by_cases c2 : (U + 149) * 8388608 + (q : Int) < 2139095040
    · rw [if_pos c2, if_pos c2]; congr 1; omega
    · rw [if_neg c2, if_neg c2]
theorem and_one (q : Nat) (h : q < 18446744073709551616) : ((Go.bits .and .u64 (q : Int) 1) == 1) = decide (q % 2 = 1) := by
  have := u64_mask 1 (by decide) (q : Int) (by omega) (by omega)
  have e : ((2 : Int) ^ 1 - 1) = 1 := by decide
  have e2 : ((2 : Int) ^ 1) = 2 := by decide
  rw [e, e2] at this
  rw [this, Bool.eq_iff_iff, beq_iff_eq, decide_eq_true_eq]
  omega
theorem mg_j1 (k : Nat) (U : Int) (q rest : Nat) (up : Bool) (h1 : -149 ≤ U) (h2 : U ≤ 1000) (hq : q + 1 ≤ 16777216 ∨ (up = false ∧ q ≤ 16777216))
    (hup : up = decide (9223372036854775808 < rest ∨ (rest = 9223372036854775808 ∧ q % 2 = 1))) :
    grain_magnitude.j1 (k + 3) U q rest = some (if -149 < U then (if (U + 149) * 8388608 + ((if up = true then q + 1 else q : Nat) : Int) < 2139095040 then (U + 149) * 8388608 + ((if up = true then q + 1 else q : Nat) : Int) else 2139095040) else ((if up = true then q + 1 else q : Nat) : Int)) := by
  have hj2 : grain_magnitude.j1 (k + 3) U q rest = grain_magnitude.j2 (k + 2) U q up := by
    rw [grain_magnitude.j1, hup]
    by_cases c1 : (rest : Int) > 9223372036854775808
    · rw [if_pos c1, decide_eq_true (.inl (by omega))]
    · rw [if_neg c1]
      by_cases c2 : (rest : Int) = 9223372036854775808
      · rw [if_pos c2, and_one q (by omega)]
        congr 1
        rw [decide_eq_decide]; omega
      · rw [if_neg c2, decide_eq_false (by omega)]
  rw [hj2, grain_magnitude.j2]
  cases up with
  | true =>
    rw [if_pos rfl, u64_id (by omega) (by omega)]
    have e : ((q : Int) + 1) = ((q + 1 : Nat) : Int) := by omega
    rw [e, mg_j3 k U (q + 1) h1 h2 (by simp at hq; omega)]
    simp only [if_true]
  | false =>
    rw [if_neg (by decide), mg_j3 k U q h1 h2 (by omega)]
    simp only [Bool.false_eq_true, if_false]

theorem mg_eq (m : Nat) (e : Int) (p : Nat) (hlo : 2 ^ p ≤ m) (hhi : m < 2 ^ (p + 1)) (hm : m < 18446744073709551616) (he : -400 ≤ e) (he' : e ≤ 400) (k : Nat) :
    grain_magnitude.f (k + 5) m e = some (rspec p m e) := by
  have hp : p < 64 := p_lt hlo (by have : (2 : Nat) ^ 64 = 18446744073709551616 := by decide
                                   omega)
  have hu := unit_ge p e
  have e64 : (2 : Nat) ^ 64 = 18446744073709551616 := by decide
  have hz : m * 2 ^ (63 - p) < 18446744073709551616 := by
    have h1 : m * 2 ^ (63 - p) < 2 ^ (p + 1) * 2 ^ (63 - p) := Nat.mul_lt_mul_of_pos_right hhi (Nat.two_pow_pos _)
    rw [← Nat.pow_add] at h1
    have : p + 1 + (63 - p) = 64 := by omega
    rw [this] at h1; omega
  have hL : bits_LeadingZeros64.f (k + 5) (m : Int) = some ((63 - p : Nat) : Int) := by
    unfold bits_LeadingZeros64.f
    rw [len_eq hlo hhi hm (k + 4)]
    simp only [Option.bind_some]
    rw [w64_id (by omega) (by omega)]
    congr 1; omega
  have hj0 : grain_magnitude.f (k + 5) m e = grain_magnitude.j0 (k + 5) ((m * 2 ^ (63 - p) : Nat) : Int) (e - (63 - p : Nat)) (unitOf p e) := by
    unfold grain_magnitude.f
    rw [hL]
    simp only [Option.bind_some]
    rw [if_pos (by omega), shl_nat m (63 - p) (by omega) hz, w64_id (n := e - ((63 - p : Nat) : Int)) (by omega) (by omega), w64_id (by omega) (by omega)]
    unfold unitOf
    by_cases c : e - ((63 - p : Nat) : Int) + 40 < -149
    · rw [if_pos c, if_neg (by omega)]
    · rw [if_neg c, if_pos (by omega)]; congr 1; omega
  have hc := core_range (d := unitOf p e - e) hhi (by omega)
  rw [hj0, grain_magnitude.j0]
  unfold rspec
  obtain ⟨D, hD⟩ := Int.eq_ofNat_of_zero_le (show 0 ≤ unitOf p e - (e - ((63 - p : Nat) : Int)) by omega)
  rw [w64_id (n := unitOf p e - (e - ((63 - p : Nat) : Int))) (by omega) (by omega), hD]
  generalize hd : unitOf p e - e = d at *
  have hUd : d = p + 1 → unitOf p e = -149 := by omega
  have hUd' : (p : Int) + 1 < d → unitOf p e = -149 := by omega
  generalize unitOf p e = U at *
  have hDd : (D : Int) = d + ((63 - p : Nat) : Int) := by omega
  by_cases c1 : (D : Int) > 64
  · have hdp : (p : Int) + 1 < d := by omega
    rw [if_pos c1, if_neg (by have := hUd' hdp; omega)]
    have : core m d = 0 := by
      unfold core
      rw [if_neg (by omega)]
      have h5 : 2 ^ (p + 1) ≤ 2 ^ (d.toNat - 1) := Nat.pow_le_pow_right (by decide) (by omega)
      have h6 : 2 ^ (d.toNat - 1) ≤ 2 ^ d.toNat := Nat.pow_le_pow_right (by decide) (by omega)
      have q0 : m / 2 ^ d.toNat = 0 := Nat.div_eq_of_lt (by omega)
      have r0 : m % 2 ^ d.toNat = m := Nat.mod_eq_of_lt (by omega)
      rw [q0, r0]; unfold rup; rw [if_neg (by omega)]
    rw [this]; rfl
  · rw [if_neg c1]
    by_cases c2 : (D : Int) = 64
    · rw [if_pos c2]
      have hdp : d = p + 1 := by omega
      have hdn : d.toNat = p + 1 := by omega
      have hcore : core m d = rup 0 m (2 ^ p) := by
        unfold core
        rw [if_neg (by omega), hdn, Nat.div_eq_of_lt hhi, Nat.mod_eq_of_lt hhi]
        rfl
      have e63 : 2 ^ p * 2 ^ (63 - p) = 9223372036854775808 := by
        rw [← Nat.pow_add]
        have : p + (63 - p) = 63 := by omega
        rw [this]
      have hiff : (9223372036854775808 < m * 2 ^ (63 - p)) ↔ 2 ^ p < m := by
        rw [← e63]; exact Nat.mul_lt_mul_right (Nat.two_pow_pos _)
      have := mg_j1 (k + 1) U 0 (m * 2 ^ (63 - p)) (decide (9223372036854775808 < m * 2 ^ (63 - p))) (by omega) (by omega) (.inl (by decide)) (by rw [decide_eq_decide]; omega)
      have hr : (if decide (9223372036854775808 < m * 2 ^ (63 - p)) = true then 0 + 1 else 0) = rup 0 m (2 ^ p) := by
        unfold rup
        simp only [decide_eq_true_eq, hiff]
        by_cases c : 2 ^ p < m
        · rw [if_pos c, if_pos (.inl c)]
        · rw [if_neg c, if_neg (by omega)]
      rw [hr] at this
      rw [hcore]
      exact this
    · rw [if_neg c2, if_pos (by omega), w64_id (n := 64 - (D : Int)) (by omega) (by omega), if_pos (by omega)]
      have e1 : 64 - (D : Int) = ((64 - D : Nat) : Int) := by omega
      rw [e1, shr_nat _ D (by omega)]
      have hshl : shl .u64 ((m * 2 ^ (63 - p) : Nat) : Int) ((64 - D : Nat) : Int) = ((m * 2 ^ (63 - p) * 2 ^ (64 - D) % 18446744073709551616 : Nat) : Int) := by
        unfold shl
        have e2 : min (((64 - D : Nat) : Int)).toNat IntKind.u64.bits = 64 - D := by simp only [Int.toNat_natCast, IntKind.bits]; omega
        rw [e2, wrap_u64]
        simp
      rw [hshl]
      by_cases cd : d ≤ 0
      · -- nothing is cut off
        obtain ⟨j, hj⟩ := Int.eq_ofNat_of_zero_le (show 0 ≤ -d by omega)
        have hjn : (-d).toNat = j := by omega
        have hcore : core m d = m * 2 ^ j := by unfold core; rw [if_pos cd, hjn]
        rw [hcore] at hc ⊢
        have hs : m * 2 ^ (63 - p) = m * 2 ^ j * 2 ^ D := by
          rw [Nat.mul_assoc, ← Nat.pow_add]
          have : 63 - p = j + D := by omega
          rw [this]
        have hq : m * 2 ^ (63 - p) / 2 ^ D = m * 2 ^ j := by rw [hs, Nat.mul_div_cancel _ (Nat.two_pow_pos _)]
        have hr : m * 2 ^ (63 - p) * 2 ^ (64 - D) % 18446744073709551616 = 0 := by
          rw [hs, Nat.mul_assoc (m * 2 ^ j), ← Nat.pow_add]
          have : D + (64 - D) = 64 := by omega
          rw [this, e64, Nat.mul_mod_left]
        rw [hq, hr]
        have := mg_j1 (k + 1) U (m * 2 ^ j) 0 false (by omega) (by omega) (.inr ⟨rfl, hc⟩) (by rw [decide_eq_false (by omega)])
        simpa using this
      · obtain ⟨j, hj⟩ := Int.eq_ofNat_of_zero_le (show 0 ≤ d by omega)
        have hjn : d.toNat = j := by omega
        have hcore : core m d = rup (m / 2 ^ j) (m % 2 ^ j) (2 ^ (j - 1)) := by unfold core; rw [if_neg cd, hjn]
        rw [hcore] at hc ⊢
        have hDj : D = j + (63 - p) := by omega
        have hq : m * 2 ^ (63 - p) / 2 ^ D = m / 2 ^ j := by
          rw [hDj, Nat.pow_add, Nat.mul_div_mul_right _ _ (Nat.two_pow_pos _)]
        have hr : m * 2 ^ (63 - p) * 2 ^ (64 - D) % 18446744073709551616 = m % 2 ^ j * 2 ^ (64 - j) := by
          rw [Nat.mul_assoc, ← Nat.pow_add]
          have g1 : 63 - p + (64 - D) = 64 - j := by omega
          have g2 : 18446744073709551616 = 2 ^ j * 2 ^ (64 - j) := by
            rw [← Nat.pow_add, ← e64]
            have : j + (64 - j) = 64 := by omega
            rw [this]
          rw [g1, g2, Nat.mul_mod_mul_right]
        have e63 : 9223372036854775808 = 2 ^ (j - 1) * 2 ^ (64 - j) := by
          rw [← Nat.pow_add]
          have : j - 1 + (64 - j) = 63 := by omega
          rw [this]
        have i1 : (9223372036854775808 < m % 2 ^ j * 2 ^ (64 - j)) ↔ 2 ^ (j - 1) < m % 2 ^ j := by
          rw [e63]; exact Nat.mul_lt_mul_right (Nat.two_pow_pos _)
        have i2 : (m % 2 ^ j * 2 ^ (64 - j) = 9223372036854775808) ↔ m % 2 ^ j = 2 ^ (j - 1) := by
          rw [e63]; exact Nat.mul_left_inj (Nat.ne_of_gt (Nat.two_pow_pos _))
        rw [hq, hr]
        have hqs : m / 2 ^ j + 1 ≤ 16777216 := by
          have h1 : m / 2 ^ j < 2 ^ 24 := by
            rw [Nat.div_lt_iff_lt_mul (Nat.two_pow_pos _), ← Nat.pow_add]
            exact Nat.lt_of_lt_of_le hhi (Nat.pow_le_pow_right (by decide) (by omega))
          have h2 : (2 : Nat) ^ 24 = 16777216 := by decide
          omega
        have := mg_j1 (k + 1) U (m / 2 ^ j) (m % 2 ^ j * 2 ^ (64 - j)) _ (by omega) (by omega) (.inl hqs) rfl
        have hrr : (if decide (9223372036854775808 < m % 2 ^ j * 2 ^ (64 - j) ∨ (m % 2 ^ j * 2 ^ (64 - j) = 9223372036854775808 ∧ m / 2 ^ j % 2 = 1)) = true then m / 2 ^ j + 1 else m / 2 ^ j) = rup (m / 2 ^ j) (m % 2 ^ j) (2 ^ (j - 1)) := by
          unfold rup
          simp only [decide_eq_true_eq, i1, i2]
        rw [hrr] at this
        exact this

theorem or_sign (neg : Bool) (x : Int) (h0 : 0 ≤ x) (h1 : x ≤ 2139095040) : (if neg = true then some (Go.bits .or .u32 x 2147483648) else some x) = sluiceref01_signed.f neg x := by
  unfold sluiceref01_signed.f
  rw [u32_or31 x h0 (by omega)]
  have : (x + 2147483648) % 4294967296 = x + 2147483648 := by omega
  rw [this]

theorem GrainRounds : sluicelaw01_GrainRounds.Pure := by
  intro neg mi e wm we
  obtain ⟨hm0, hm1⟩ := wf_u64 wm
  obtain ⟨he0, he1⟩ := wf_i64 we
  obtain ⟨m, rfl⟩ := Int.eq_ofNat_of_zero_le hm0
  refine ⟨100, ?_⟩
  suffices h : grain_Round.f 100 neg m e = sluiceref01_Round.f 100 neg m e ∧ ∃ r, sluiceref01_Round.f 100 neg m e = some r by
    obtain ⟨h1, r, h2⟩ := h
    unfold sluicelaw01_GrainRounds.f
    rw [h1, h2]
    simp
  have hsg : ∀ x, 0 ≤ x → x ≤ 2139095040 → ∃ r, sluiceref01_signed.f neg x = some r := fun x _ _ => by unfold sluiceref01_signed.f; split <;> exact ⟨_, rfl⟩
  by_cases z : m = 0
  · subst z
    have h1 : sluiceref01_Round.f 100 neg ((0 : Nat) : Int) e = sluiceref01_signed.f neg 0 := by
      unfold sluiceref01_Round.f
      rw [if_pos (show ((0 : Nat) : Int) = 0 from rfl), sluiceref01_Round.j0, if_pos rfl, Option.bind_fun_some]
    rw [h1]
    refine ⟨?_, hsg 0 (by decide) (by decide)⟩
    unfold grain_Round.f
    rw [if_pos (show ((0 : Nat) : Int) = 0 from rfl)]
    exact or_sign neg 0 (by decide) (by decide)
  · obtain ⟨p, hlo, hhi⟩ := log_p m (by omega)
    have hp : p < 64 := p_lt hlo (by have : (2 : Nat) ^ 64 = 18446744073709551616 := by decide
                                     omega)
    obtain ⟨c, hc⟩ : ∃ c, mn (mx e (-400)) 400 = c := ⟨_, rfl⟩
    have hcr : -400 ≤ c ∧ c ≤ 400 ∧ (c = e ∨ (c = -400 ∧ e < -400) ∨ (c = 400 ∧ 400 < e)) := by
      rw [← hc]; unfold mn mx; split <;> split <;> omega
    have hR := rspec_range (e := c) hhi
    have hg : grain_Round.f 100 neg m e = sluiceref01_signed.f neg (rspec p m c) := by
      unfold grain_Round.f
      rw [if_neg (by omega), hc, mg_eq m c p hlo hhi (by omega) hcr.1 hcr.2.1 95]
      simp only [Option.bind_some]
      exact or_sign neg _ hR.1 hR.2
    rw [hg]
    have hu := unit_ge p c
    by_cases c1 : e < -300
    · have h1 : sluiceref01_Round.f 100 neg m e = sluiceref01_signed.f neg 0 := by
        unfold sluiceref01_Round.f
        rw [if_neg (by omega), decide_eq_true c1, sluiceref01_Round.j0, if_pos rfl, Option.bind_fun_some]
      have h2 : rspec p m c = 0 := by
        have hU : unitOf p c = -149 := by omega
        unfold rspec
        rw [if_neg (by omega), hU]
        have : core m (-149 - c) = 0 := by
          unfold core
          rw [if_neg (by omega)]
          have h5 : 2 ^ (p + 1) ≤ 2 ^ ((-149 - c).toNat - 1) := Nat.pow_le_pow_right (by decide) (by omega)
          have h6 : 2 ^ ((-149 - c).toNat - 1) ≤ 2 ^ (-149 - c).toNat := Nat.pow_le_pow_right (by decide) (by omega)
          have q0 : m / 2 ^ (-149 - c).toNat = 0 := Nat.div_eq_of_lt (by omega)
          have r0 : m % 2 ^ (-149 - c).toNat = m := Nat.mod_eq_of_lt (by omega)
          rw [q0, r0]; unfold rup; rw [if_neg (by omega)]
        rw [this]; rfl
      rw [h1, h2]
      exact ⟨rfl, hsg 0 (by decide) (by decide)⟩
    · by_cases c2 : e > 200
      · have h1 : sluiceref01_Round.f 100 neg m e = sluiceref01_signed.f neg 2139095040 := by
          unfold sluiceref01_Round.f
          rw [if_neg (by omega), decide_eq_false c1, sluiceref01_Round.j0, if_neg (by decide), if_pos c2, Option.bind_fun_some]
        have h2 : rspec p m c = 2139095040 := by
          unfold rspec
          rw [if_pos (by omega), if_neg (by omega)]
        rw [h1, h2]
        exact ⟨rfl, hsg _ (by decide) (by decide)⟩
      · have hce : c = e := by omega
        rw [hce] at hR ⊢
        rw [rr_round 20 neg m e p hlo hhi (by omega) (by omega) (by omega)]
        exact ⟨rfl, hsg _ hR.1 hR.2⟩

end Go.Proofs.Ytdnofpafojjjaaa.Pure
