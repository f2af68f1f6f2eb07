/- GrainOrder, the pure part: the places of two float32s in the order are those of the numbers. Conditions: none. -/
import Derived.Test.YtdnofpafojjjaaaPGrainOrderx3
import Derived.Test.YtdnofpafojjjaaaFlo
namespace Go.Proofs.Ytdnofpafojjjaaa.Pure
open Go.RowKit Go.Proofs.Ytdnofpafojjjaaa.PGrainOrder Go.Proofs.YtdnofpafojjjaaaW.PrintWords Go.Proofs.YtdnofpafojjjaaaW.PrintLast
open Go.Proofs.Ytdnofpafojjjaaa.Num Go.Proofs.Ytdnofpafojjjaaa.Flo

/-! ### The document's rounding -/
theorem log_p (m : Nat) (h : 0 < m) : ∃ p, 2 ^ p ≤ m ∧ m < 2 ^ (p + 1) := ⟨m.log2, Nat.log2_self_le (by omega), Nat.lt_log2_self⟩
theorem p_lt {p m n : Nat} (hlo : 2 ^ p ≤ m) (h : m < 2 ^ n) : p < n := (Nat.pow_lt_pow_iff_right (by decide : 1 < 2)).mp (Nat.lt_of_le_of_lt hlo h)
theorem half_u64 (x : Nat) (hx : x < 18446744073709551616) : IntKind.u64.wrap (Int.tdiv (x : Int) 2) = ((x / 2 : Nat) : Int) := by
  rw [tdiv_nonneg _ _ (by omega), wrap_u64]; omega
theorem rr_loop (neg : Bool) (m e : Int) : ∀ (p x : Nat) (t : Int) (k : Nat), 2 ^ p ≤ x → x < 2 ^ (p + 1) → x < 18446744073709551616 → -1000 ≤ t → t + p ≤ 1000 →
    sluiceref01_Round.l0 (k + 1 + p) neg m e t x = sluiceref01_Round.l0 (k + 1) neg m e (t + p) 1 := by
  intro p
  induction p with
  | zero =>
    intro x t k h1 h2 _ _ _
    have : x = 1 := by simp at h1 h2; omega
    subst this
    simp
  | succ p ih =>
    intro x t k h1 h2 h3 h4 h5
    have g1 : 2 ^ p ≤ x / 2 := by rw [Nat.pow_succ] at h1; omega
    have g2 : x / 2 < 2 ^ (p + 1) := by rw [Nat.pow_succ] at h2; omega
    have g0 : 1 ≤ 2 ^ p := Nat.one_le_two_pow
    have hx : (x : Int) > 1 := by rw [Nat.pow_succ] at h1; omega
    have e1 : k + 1 + (p + 1) = (k + 1 + p) + 1 := by omega
    rw [e1]
    rw [sluiceref01_Round.l0]
    rw [if_pos hx, half_u64 x h3, w64_id (by omega) (by omega), ih (x / 2) (t + 1) k g1 g2 (by omega) (by omega) (by omega)]
    congr 1
    omega

theorem rr_j3 (k : Nat) (neg : Bool) (U : Int) (q : Nat) (up : Bool) (h1 : -149 ≤ U) (h2 : U ≤ 1000) (hq : q ≤ 16777216) :
    sluiceref01_Round.j3 (k + 1) neg U q up = sluiceref01_signed.f neg (if -149 < U then (if (U + 149) * 8388608 + ((if up = true then q + 1 else q : Nat) : Int) < 2139095040 then (U + 149) * 8388608 + ((if up = true then q + 1 else q : Nat) : Int) else 2139095040) else ((if up = true then q + 1 else q : Nat) : Int)) := by
  simp only [sluiceref01_Round.j3, Option.bind_fun_some, gt_iff_lt]
  have hs : ∀ u v : Int, u = v → sluiceref01_signed.f neg u = sluiceref01_signed.f neg v := fun _ _ h => by rw [h]
  cases up with
  | true =>
    simp only [if_true]
    split
    · apply hs; simp only [wrap_u64, wrap64, mn]; split <;> split <;> omega
    · apply hs; simp only [wrap_u64, mn]; split <;> omega
  | false =>
    simp only [Bool.false_eq_true, if_false]
    split
    · apply hs; simp only [wrap_u64, wrap64, mn]; split <;> split <;> omega
    · apply hs; simp only [mn]; split <;> omega

theorem rr_j2 (k : Nat) (neg : Bool) (U : Int) (q rest half : Nat) (h1 : -149 ≤ U) (h2 : U ≤ 1000) (hq : q ≤ 16777216) (hh : 0 < half) :
    sluiceref01_Round.j2 (k + 2) neg U q rest half = sluiceref01_signed.f neg (if -149 < U then (if (U + 149) * 8388608 + (rup q rest half : Int) < 2139095040 then (U + 149) * 8388608 + (rup q rest half : Int) else 2139095040) else (rup q rest half : Int)) := by
  have ht : Int.tmod (q : Int) 2 = ((q % 2 : Nat) : Int) := by rw [tmod_nonneg _ _ (by omega)]; omega
  rw [sluiceref01_Round.j2]
  rw [if_pos (by omega : (half : Int) > 0), ht]
  by_cases c1 : (rest : Int) > (half : Int)
  · rw [if_pos c1, rr_j3 k neg U q true h1 h2 hq]
    have : rup q rest half = q + 1 := by unfold rup; rw [if_pos (by omega)]
    simp only [this, if_true]
  · rw [if_neg c1]
    by_cases c2 : (rest : Int) = (half : Int)
    · rw [if_pos c2, rr_j3 k neg U q _ h1 h2 hq]
      have : (if (((q % 2 : Nat) : Int) == 1) = true then q + 1 else q) = rup q rest half := by
        unfold rup
        simp only [beq_iff_eq]
        split <;> split <;> omega
      rw [this]
    · rw [if_neg c2, rr_j3 k neg U q false h1 h2 hq]
      have : rup q rest half = q := by unfold rup; rw [if_neg (by omega)]
      simp only [this, Bool.false_eq_true, if_false]

theorem rr_j2z (k : Nat) (neg : Bool) (U : Int) (q : Nat) (h1 : -149 ≤ U) (h2 : U ≤ 1000) (hq : q ≤ 16777216) :
    sluiceref01_Round.j2 (k + 2) neg U q 0 0 = sluiceref01_signed.f neg (if -149 < U then (if (U + 149) * 8388608 + (q : Int) < 2139095040 then (U + 149) * 8388608 + (q : Int) else 2139095040) else (q : Int)) := by
  rw [sluiceref01_Round.j2]
  rw [if_neg (by omega : ¬ (0 : Int) > 0), rr_j3 k neg U q false h1 h2 hq]
  simp only [Bool.false_eq_true, if_false]

theorem shl_nat (m j : Nat) (hj : j ≤ 64) (h : m * 2 ^ j < 18446744073709551616) : shl .u64 (m : Int) (j : Int) = ((m * 2 ^ j : Nat) : Int) := by
  unfold shl
  have e : min (j : Int).toNat IntKind.u64.bits = j := by simp only [Int.toNat_natCast, IntKind.bits]; omega
  have e2 : (m : Int) * 2 ^ j = ((m * 2 ^ j : Nat) : Int) := by simp
  rw [e, e2, u64_id (by omega) (by omega)]
theorem shr_nat (m j : Nat) (hj : j ≤ 64) : shr .u64 (m : Int) (j : Int) = ((m / 2 ^ j : Nat) : Int) := by
  unfold shr
  have e : min (j : Int).toNat IntKind.u64.bits = j := by simp only [Int.toNat_natCast, IntKind.bits]; omega
  rw [e]; simp

theorem rr_after (k : Nat) (neg : Bool) (m : Nat) (e : Int) (p : Nat) (hlo : 2 ^ p ≤ m) (hhi : m < 2 ^ (p + 1)) (hm : m < 18446744073709551616) (he : -300 ≤ e) (he' : e ≤ 200) :
    sluiceref01_Round.l0 (k + 3) neg m e (e + p) 1 = sluiceref01_signed.f neg (rspec p m e) := by
  have hp : p < 64 := p_lt hlo hm
  have hu := unit_ge p e
  have hU : mx (wrap64 (e + p - 23)) (-149) = unitOf p e := by
    rw [w64_id (by omega) (by omega)]; unfold mx unitOf; split <;> split <;> omega
  have hc := core_range (d := unitOf p e - e) hhi (by omega)
  unfold rspec
  rw [sluiceref01_Round.l0]
  rw [if_neg (by decide : ¬ (1 : Int) > 1), hU, w64_id (n := unitOf p e - e) (by omega) (by omega)]
  generalize hd : unitOf p e - e = d at *
  generalize unitOf p e = U at *
  by_cases c1 : d ≤ 0
  · have hcore : core m d = m * 2 ^ (-d).toNat := by unfold core; rw [if_pos c1]
    rw [hcore] at hc ⊢
    obtain ⟨j, hj⟩ := Int.eq_ofNat_of_zero_le (show 0 ≤ -d by omega)
    have hjn : (-d).toNat = j := by omega
    rw [hjn] at hc ⊢
    rw [if_pos c1, w64_id (n := -d) (by omega) (by omega), if_pos (by omega : 0 ≤ -d), hj]
    rw [shl_nat m j (by omega) (by omega), rr_j2z k neg U _ (by omega) (by omega) hc]
  · rw [if_neg c1]
    obtain ⟨j, hj⟩ := Int.eq_ofNat_of_zero_le (show 0 ≤ d by omega)
    have hcore : core m d = rup (m / 2 ^ j) (m % 2 ^ j) (2 ^ (j - 1)) := by unfold core; rw [if_neg c1, hj, Int.toNat_natCast]
    rw [hcore] at hc ⊢
    have hr := rup_le (m / 2 ^ j) (m % 2 ^ j) (2 ^ (j - 1))
    have hjj : wrap64 (d - 1) = ((j - 1 : Nat) : Int) := by rw [w64_id (by omega) (by omega)]; omega
    have hhalf : ∀ n : Nat, n < 64 → shl .u64 1 (n : Int) = ((2 ^ n : Nat) : Int) := by
      intro n hn
      have := shl_nat 1 n (by omega) (by
        have h3 : 2 ^ n < 2 ^ 64 := Nat.pow_lt_pow_right (by decide) hn
        have h4 : (2 : Nat) ^ 64 = 18446744073709551616 := by decide
        omega)
      simpa using this
    rw [hjj]
    by_cases c2 : d ≤ 64
    · rw [if_pos c2]
      by_cases c3 : d < 64
      · rw [if_pos c3, if_pos (by omega : (0 : Int) ≤ d), if_pos (by omega), hj, shr_nat m j (by omega), hhalf (j - 1) (by omega)]
        have hle : m / 2 ^ j * 2 ^ j ≤ m := Nat.div_mul_le_self _ _
        rw [shl_nat _ j (by omega) (by omega)]
        have hrest : IntKind.u64.wrap ((m : Int) - ((m / 2 ^ j * 2 ^ j : Nat) : Int)) = ((m % 2 ^ j : Nat) : Int) := by
          have h5 := Nat.div_add_mod m (2 ^ j)
          rw [Nat.mul_comm] at h5
          rw [u64_id (by omega) (by omega)]; omega
        rw [hrest, rr_j2 k neg U _ _ _ (by omega) (by omega) (by omega) (Nat.two_pow_pos _)]
      · have h64 : j = 64 := by omega
        subst h64
        rw [if_neg c3, if_pos (by omega), hhalf 63 (by decide)]
        have q0 : m / 2 ^ 64 = 0 := Nat.div_eq_of_lt (by simpa using hm)
        have r0 : m % 2 ^ 64 = m := Nat.mod_eq_of_lt (by simpa using hm)
        rw [q0, r0]
        have := rr_j2 k neg U 0 m (2 ^ 63) (by omega) (by omega) (by omega) (Nat.two_pow_pos _)
        simpa using this
    · rw [if_neg c2]
      have h4 : (2 : Nat) ^ 64 = 18446744073709551616 := by decide
      have h5 : 2 ^ 64 ≤ 2 ^ (j - 1) := Nat.pow_le_pow_right (by decide) (by omega)
      have h6 : 2 ^ (j - 1) ≤ 2 ^ j := Nat.pow_le_pow_right (by decide) (by omega)
      have q0 : m / 2 ^ j = 0 := Nat.div_eq_of_lt (by omega)
      have r0 : m % 2 ^ j = m := Nat.mod_eq_of_lt (by omega)
      have : rup (m / 2 ^ j) (m % 2 ^ j) (2 ^ (j - 1)) = 0 := by
        rw [q0, r0]; unfold rup; rw [if_neg (by omega)]
      rw [this]
      have := rr_j2z k neg U 0 (by omega) (by omega) (by omega)
      simpa using this

theorem rr_round (k : Nat) (neg : Bool) (m : Nat) (e : Int) (p : Nat) (hlo : 2 ^ p ≤ m) (hhi : m < 2 ^ (p + 1)) (hm : m < 18446744073709551616) (he : -300 ≤ e) (he' : e ≤ 200) :
    sluiceref01_Round.f (k + 80) neg m e = sluiceref01_signed.f neg (rspec p m e) := by
  have hp : p < 64 := p_lt hlo hm
  have h0 : 1 ≤ 2 ^ p := Nat.one_le_two_pow
  unfold sluiceref01_Round.f
  rw [if_neg (by omega), decide_eq_false (by omega)]
  rw [sluiceref01_Round.j0]
  rw [if_neg (by decide), if_neg (by omega)]
  have e1 : k + 79 = ((k + 79 - p - 1) + 1) + p := by omega
  rw [e1, rr_loop neg m e p m e (k + 79 - p - 1) hlo hhi hm (by omega) (by omega)]
  have e2 : (k + 79 - p - 1) + 1 = (k + 79 - p - 3) + 3 := by omega
  rw [e2, rr_after _ neg m e p hlo hhi hm he he']
/-! ### A float32's bits as 24 bits and a place -/
/-- X: bits without a sign, not 0, finite; M * 2^E its value, M of 24 bits. -/
def Fin (X M : Nat) (E : Int) : Prop := 0 < X ∧ X < 2139095040 ∧ 8388608 ≤ M ∧ M < 16777216 ∧
  ((8388608 ≤ X ∧ (X : Int) = (E + 149) * 8388608 + M ∧ -149 ≤ E ∧ E ≤ 104) ∨ (X < 8388608 ∧ ∃ s : Nat, 1 ≤ s ∧ s ≤ 23 ∧ E = -149 - s ∧ M = X * 2 ^ s))
theorem Fin.place {X M : Nat} {E : Int} (h : Fin X M E) : ∃ m s : Nat, s ≤ 23 ∧ M = m * 2 ^ s ∧ -149 - (s : Int) ≤ E ∧ (1 ≤ s → E = -149 - s) := by
  obtain ⟨_, _, _, _, h | ⟨_, s, h1, h2, h3, h4⟩⟩ := h
  · exact ⟨M, 0, by omega, by simp, by omega, fun h => by omega⟩
  · exact ⟨X, s, h2, h4, by omega, fun _ => h3⟩
theorem Fin.range {X M : Nat} {E : Int} (h : Fin X M E) : -172 ≤ E ∧ E ≤ 104 := by
  obtain ⟨_, _, _, _, h | ⟨_, s, h1, h2, h3, h4⟩⟩ := h <;> omega
theorem pow_step {X s t : Nat} (h : s < t) : X * 2 ^ s * 2 ≤ X * 2 ^ t := by
  have h1 : X * 2 ^ s * 2 = X * 2 ^ (s + 1) := by rw [Nat.pow_succ, Nat.mul_assoc]
  rw [h1]
  exact Nat.mul_le_mul_left _ (Nat.pow_le_pow_right (by decide) h)
theorem Fin.lt {X M Y N : Nat} {E F : Int} (h : Fin X M E) (k : Fin Y N F) (hlt : X < Y) : E < F ∨ (E = F ∧ M < N) := by
  obtain ⟨h0, h1, h2, h3, h4⟩ := h
  obtain ⟨k0, k1, k2, k3, k4⟩ := k
  rcases h4 with h4 | ⟨h5, s, hs, hs1, hs2, hs3⟩ <;> rcases k4 with k4 | ⟨k5, t, ht, ht1, ht2, ht3⟩
  · omega
  · omega
  · omega
  · by_cases e : s = t
    · subst e
      have : X * 2 ^ s < Y * 2 ^ s := Nat.mul_lt_mul_of_pos_right hlt (Nat.two_pow_pos _)
      omega
    · by_cases e' : t < s
      · omega
      · have g1 := pow_step (X := X) (show s < t by omega)
        have g2 : X * 2 ^ t ≤ Y * 2 ^ t := Nat.mul_le_mul_right _ (by omega)
        omega
theorem Fin.eq {X M N : Nat} {E F : Int} (h : Fin X M E) (k : Fin X N F) : E = F ∧ M = N := by
  obtain ⟨h0, h1, h2, h3, h4⟩ := h
  obtain ⟨k0, k1, k2, k3, k4⟩ := k
  rcases h4 with h4 | ⟨h5, s, hs, hs1, hs2, hs3⟩ <;> rcases k4 with k4 | ⟨k5, t, ht, ht1, ht2, ht3⟩
  · omega
  · omega
  · omega
  · by_cases e : s = t
    · subst e; omega
    · by_cases e' : s < t
      · have g1 := pow_step (X := X) e'; omega
      · have g1 := pow_step (X := X) (show t < s by omega); omega

/-- What is told of bits: their class. -/
theorem class_eq (k : Nat) (u : Int) (h0 : 0 ≤ u) (h1 : u < 4294967296) :
    sluiceref01_Class.f (k + 1) u = some (if u % 2147483648 = 0 then 0 else if u % 2147483648 < 8388608 then 1 else if u % 2147483648 < 2139095040 then 2 else if u % 2147483648 = 2139095040 then 3 else 4) := by
  unfold sluiceref01_Class.f
  rw [tmod_nonneg _ _ (by omega), tmod_nonneg _ _ (by omega)]
  simp only [sluiceref01_Class.j0, bne_iff_ne, ne_eq]
  repeat' split
  all_goals first | rfl | (exfalso; omega) | (simp at *; done) | (simp at *; omega)

/-- The doubling up to 24 bits. -/
theorem full_loop (neg : Bool) : ∀ (j x : Nat) (t : Int) (k : Nat), 8388608 ≤ x * 2 ^ j → x * 2 ^ j < 16777216 → -1000 ≤ t - j → t ≤ 1000 → j ≤ 23 →
    sluiceref01_full.l0 (k + 1 + j) neg t x = some (neg, ((x * 2 ^ j : Nat) : Int), t - j) := by
  intro j
  induction j with
  | zero =>
    intro x t k h1 h2 _ _ _
    simp only [Nat.pow_zero, Nat.mul_one] at h1 h2 ⊢
    show sluiceref01_full.l0 (k + 1) neg t x = _
    rw [sluiceref01_full.l0, if_pos (by omega), if_neg (by omega)]
    simp
  | succ j ih =>
    intro x t k h1 h2 h3 h4 h5
    have e1 : x * 2 ^ (j + 1) = (2 * x) * 2 ^ j := by rw [Nat.pow_succ, Nat.mul_comm (2 ^ j) 2, ← Nat.mul_assoc, Nat.mul_comm x 2]
    have h6 : 1 ≤ 2 ^ j := Nat.one_le_two_pow
    have h7 : 2 * x ≤ 2 * x * 2 ^ j := Nat.le_mul_of_pos_right _ (by omega)
    have hx : 0 < x := by
      rcases Nat.eq_zero_or_pos x with h | h
      · subst h; simp at h1
      · exact h
    rw [e1] at h1 h2 ⊢
    have h1' := h1
    have e2 : k + 1 + (j + 1) = (k + 1 + j) + 1 := by omega
    have hx8 : (x : Int) < 8388608 := by omega
    have hx0 : (x : Int) > 0 := by omega
    clear h1 e1 h7
    rw [e2, sluiceref01_full.l0, if_pos hx0, if_pos hx8, w64_id (n := t - 1) (by omega) (by omega), u64_id (n := 2 * (x : Int)) (by omega) (by omega)]
    have e3 : (2 : Int) * (x : Int) = ((2 * x : Nat) : Int) := by omega
    rw [e3, ih (2 * x) (t - 1) k h1' h2 (by omega) (by omega) (by omega)]
    simp only [Option.some.injEq, Prod.mk.injEq, true_and]
    omega

/-- The halving of what is even: some number of times. -/
theorem parts_loop (neg : Bool) : ∀ (p m : Nat) (t : Int), 2 ^ p ≤ m → m < 2 ^ (p + 1) → m < 16777216 → p ≤ 24 → -1000 ≤ t → t + p ≤ 1000 →
    ∃ j m' : Nat, j ≤ p ∧ m = m' * 2 ^ j ∧ ∀ k, sluiceref01_Parts.l0 (k + 1 + p) neg m t = some (neg, (m' : Int), t + j, 0) := by
  intro p
  induction p with
  | zero =>
    intro m t h1 h2 h3 _ h4 h5
    have : m = 1 := by simp at h1 h2; omega
    subst this
    refine ⟨0, 1, by omega, by simp, fun k => ?_⟩
    show sluiceref01_Parts.l0 (k + 1) neg _ t = _
    rw [sluiceref01_Parts.l0, if_neg (by decide)]
    simp
  | succ p ih =>
    intro m t h1 h2 h3 h4 h5 h6
    have g1 : 2 ^ p ≤ m / 2 := by rw [Nat.pow_succ] at h1; omega
    have g2 : m / 2 < 2 ^ (p + 1) := by rw [Nat.pow_succ] at h2; omega
    by_cases c : m % 2 = 0
    · obtain ⟨j, m', hj, hm, hk⟩ := ih (m / 2) (t + 1) g1 g2 (by omega) (by omega) (by omega) (by omega)
      refine ⟨j + 1, m', by omega, ?_, fun k => ?_⟩
      · rw [Nat.pow_succ, ← Nat.mul_assoc, ← hm]; omega
      · have e2 : k + 1 + (p + 1) = (k + 1 + p) + 1 := by omega
        rw [e2, sluiceref01_Parts.l0, tmod_nonneg _ _ (by omega), if_pos (by omega), half_u64 m (by omega), w64_id (by omega) (by omega), hk k]
        simp only [Option.some.injEq, Prod.mk.injEq, true_and, and_true]
        omega
    · refine ⟨0, m, by omega, by simp, fun k => ?_⟩
      have e2 : k + 1 + (p + 1) = (k + 1 + p) + 1 := by omega
      rw [e2, sluiceref01_Parts.l0, tmod_nonneg _ _ (by omega), if_neg (by omega)]
      simp only [Option.some.injEq, Prod.mk.injEq, true_and, and_true]
      omega

theorem dec_sign (u : Int) : (decide (u ≥ 2147483648)) = decide (2147483648 ≤ u) := rfl

/-- The value of a number that is not zero, of 24 bits. -/
theorem full_fin (u : Int) (X : Nat) (h0 : 0 ≤ u) (h1 : u < 4294967296) (hX : (X : Int) = u % 2147483648) (hX0 : 0 < X) (hX1 : X < 2139095040) :
    ∃ (M : Nat) (E : Int), Fin X M E ∧ ∀ k, sluiceref01_full.f (k + 60) u = some (decide (2147483648 ≤ u), (M : Int), E) := by
  have hmod : Int.tmod u 2147483648 = (X : Int) := by rw [tmod_nonneg _ _ h0, hX]
  -- the parts: some m' and t'
  have hparts : ∀ (m : Nat) (t : Int) (p : Nat), 2 ^ p ≤ m → m < 2 ^ (p + 1) → m < 16777216 → p ≤ 23 → -149 ≤ t → t ≤ 200 →
      sluiceref01_size.f (X : Int) = some ((m : Int), t) → ∀ k, sluiceref01_full.f (k + 60) u = some (decide (2147483648 ≤ u), ((m * 2 ^ (23 - p) : Nat) : Int), t - (23 - p : Nat)) := by
    intro m t p hlo hhi hm hp ht ht' hsz k
    obtain ⟨j, m', hj, hmm, hl⟩ := parts_loop (decide (2147483648 ≤ u)) p m t hlo hhi hm (by omega) (by omega) (by omega)
    have g0 : 1 ≤ 2 ^ p := Nat.one_le_two_pow
    have hP : sluiceref01_Parts.f (k + 60) u = some (decide (2147483648 ≤ u), (m' : Int), t + j, 0) := by
      unfold sluiceref01_Parts.f
      rw [class_eq (k + 59) u h0 h1]
      simp only [Option.bind_some]
      have hc : ¬ (if u % 2147483648 = 0 then (0 : Int) else if u % 2147483648 < 8388608 then 1 else if u % 2147483648 < 2139095040 then 2 else if u % 2147483648 = 2139095040 then 3 else 4) = 3 := by
        repeat' split
        all_goals omega
      have hc4 : ((if u % 2147483648 = 0 then (0 : Int) else if u % 2147483648 < 8388608 then 1 else if u % 2147483648 < 2139095040 then 2 else if u % 2147483648 = 2139095040 then 3 else 4) == 4) = false := by
        rw [beq_eq_false_iff_ne]
        repeat' split
        all_goals omega
      rw [if_neg hc, hc4]
      rw [sluiceref01_Parts.j0, if_neg (by decide), hmod, hsz]
      simp only [Option.bind_some]
      rw [if_neg (by omega)]
      have e : k + 59 = (k + 58 - p) + 1 + p := by omega
      rw [e]
      exact hl _
    unfold sluiceref01_full.f
    rw [hP]
    simp only [Option.bind_some]
    have hm' : m' ≤ m := by rw [hmm]; exact Nat.le_mul_of_pos_right _ (Nat.two_pow_pos _)
    rw [u64_id (by omega) (by omega)]
    have hpow : m' * 2 ^ (23 - p + j) = m * 2 ^ (23 - p) := by
      rw [hmm, Nat.mul_assoc, ← Nat.pow_add, Nat.add_comm]
    have g1 : 2 ^ p * 2 ^ (23 - p) ≤ m * 2 ^ (23 - p) := Nat.mul_le_mul_right _ hlo
    have g2 : m * 2 ^ (23 - p) < 2 ^ (p + 1) * 2 ^ (23 - p) := Nat.mul_lt_mul_of_pos_right hhi (Nat.two_pow_pos _)
    rw [← Nat.pow_add] at g1 g2
    have e1 : p + (23 - p) = 23 := by omega
    have e2 : p + 1 + (23 - p) = 24 := by omega
    rw [e1] at g1; rw [e2] at g2
    have n1 : (2 : Nat) ^ 23 = 8388608 := by decide
    have n2 : (2 : Nat) ^ 24 = 16777216 := by decide
    have e3 : k + 60 = (k + 59 - (23 - p + j)) + 1 + (23 - p + j) := by omega
    rw [e3, full_loop (decide (2147483648 ≤ u)) (23 - p + j) m' (t + j) _ (by rw [hpow]; omega) (by rw [hpow]; omega) (by omega) (by omega) (by omega), hpow]
    simp only [Option.some.injEq, Prod.mk.injEq, true_and]
    omega
  by_cases c : X < 8388608
  · obtain ⟨p, hlo, hhi⟩ := log_p X hX0
    have hp : p < 23 := p_lt hlo (by have : (2 : Nat) ^ 23 = 8388608 := by decide
                                     omega)
    have hsz : sluiceref01_size.f (X : Int) = some ((X : Int), -149) := by
      unfold sluiceref01_size.f
      rw [w64_id (by omega) (by omega), if_pos (by omega), tmod_nonneg _ _ (by omega), wrap_u64]
      simp only [Option.some.injEq, Prod.mk.injEq, and_true]
      omega
    refine ⟨X * 2 ^ (23 - p), -149 - (23 - p : Nat), ?_, hparts X (-149) p hlo hhi (by omega) (by omega) (by omega) (by omega) hsz⟩
    have g1 : 2 ^ p * 2 ^ (23 - p) ≤ X * 2 ^ (23 - p) := Nat.mul_le_mul_right _ hlo
    have g2 : X * 2 ^ (23 - p) < 2 ^ (p + 1) * 2 ^ (23 - p) := Nat.mul_lt_mul_of_pos_right hhi (Nat.two_pow_pos _)
    rw [← Nat.pow_add] at g1 g2
    have e1 : p + (23 - p) = 23 := by omega
    have e2 : p + 1 + (23 - p) = 24 := by omega
    rw [e1] at g1; rw [e2] at g2
    have n1 : (2 : Nat) ^ 23 = 8388608 := by decide
    have n2 : (2 : Nat) ^ 24 = 16777216 := by decide
    exact ⟨hX0, hX1, by omega, by omega, .inr ⟨c, 23 - p, by omega, by omega, rfl, rfl⟩⟩
  · have hsz : sluiceref01_size.f (X : Int) = some (((X % 8388608 + 8388608 : Nat) : Int), ((X / 8388608 : Nat) : Int) - 150) := by
      unfold sluiceref01_size.f
      rw [w64_id (n := (X : Int) / 8388608) (by omega) (by omega), if_neg (by omega), tmod_nonneg _ _ (by omega), wrap_u64, wrap_u64, w64_id (by omega) (by omega)]
      simp only [Option.some.injEq, Prod.mk.injEq]
      omega
    have n1 : (2 : Nat) ^ 23 = 8388608 := by decide
    have n2 : (2 : Nat) ^ (23 + 1) = 16777216 := by decide
    have := hparts (X % 8388608 + 8388608) (((X / 8388608 : Nat) : Int) - 150) 23 (by omega) (by omega) (by omega) (by omega) (by omega) (by omega) hsz
    refine ⟨X % 8388608 + 8388608, ((X / 8388608 : Nat) : Int) - 150, ⟨hX0, hX1, by omega, by omega, .inl ⟨by omega, by omega, by omega, by omega⟩⟩, ?_⟩
    simpa using this

theorem full_zero (u : Int) (h0 : 0 ≤ u) (h1 : u < 4294967296) (hX : u % 2147483648 = 0) (k : Nat) : sluiceref01_full.f (k + 60) u = some (decide (2147483648 ≤ u), 0, 0) := by
  unfold sluiceref01_full.f sluiceref01_Parts.f
  rw [class_eq (k + 59) u h0 h1]
  simp only [Option.bind_some, hX, if_true]
  rw [if_neg (by decide)]
  rw [sluiceref01_Parts.j0, if_neg (by decide), tmod_nonneg _ _ h0, hX]
  have : sluiceref01_size.f 0 = some (0, -149) := by unfold sluiceref01_size.f; simp [wrap64, wrap_u64]
  rw [this]
  simp only [Option.bind_some, if_true]
  rw [sluiceref01_full.l0, if_neg (by decide)]
  simp [IntKind.wrap, IntKind.bits, IntKind.signed]

/-! ### The sum -/
/-- The sign and the size of a sum. -/
def Signed (neg : Bool) (r : Int) : Prop := ∃ x : Int, 1 ≤ x ∧ x ≤ 2139095040 ∧ r = if neg = true then x + 2147483648 else x
theorem signed_of (neg : Bool) (x : Int) (h0 : 1 ≤ x) (h1 : x ≤ 2139095040) : ∃ r, sluiceref01_signed.f neg x = some r ∧ Signed neg r := by
  unfold sluiceref01_signed.f
  cases neg with
  | true => exact ⟨_, if_pos rfl, x, h0, h1, by simp; omega⟩
  | false => exact ⟨_, if_neg (by decide), x, h0, h1, by simp⟩
theorem round_pos (neg : Bool) (m : Nat) (e : Int) (h0 : 0 < m) (hm : m < 18446744073709551616) (he : -300 ≤ e) (he' : e ≤ 200) (h : e < -149 → 2 ^ (-149 - e).toNat ≤ m) :
    ∃ r, Signed neg r ∧ ∀ k, sluiceref01_Round.f (k + 80) neg m e = some r := by
  obtain ⟨p, hlo, hhi⟩ := log_p m h0
  have h1 := rspec_pos (e := e) hlo h
  have h2 := (rspec_range (e := e) hhi).2
  obtain ⟨r, hr, hs⟩ := signed_of neg (rspec p m e) h1 h2
  exact ⟨r, hs, fun k => by rw [rr_round k neg m e p hlo hhi hm he he', hr]⟩

theorem add_j2 (n o : Bool) (e : Int) (big small : Nat) (he : -172 ≤ e) (he' : e ≤ 104) (hb : 4611686018427387904 ≤ big) (hb' : big < 9223372036854775808) (hs : small ≤ big)
    (hd : small < big → e < -110 → 2 ^ (-110 - e).toNat ≤ big - small) :
    ∃ r, (∀ k, sluiceref01_AddF.j2 (k + 81) n e o big small = some r) ∧ ((n = o ∨ small < big) → Signed n r) ∧ (n ≠ o → small = big → r = 0) := by
  by_cases c : n = o
  · subst c
    have hbig : e - 39 < -149 → 2 ^ (-149 - (e - 39)).toNat ≤ big + small := by
      intro h
      have h1 : 2 ^ (-149 - (e - 39)).toNat ≤ 2 ^ 62 := Nat.pow_le_pow_right (by decide) (by omega)
      have h2 : (2 : Nat) ^ 62 = 4611686018427387904 := by decide
      omega
    obtain ⟨r, hr, hk⟩ := round_pos n (big + small) (e - 39) (by omega) (by omega) (by omega) (by omega) hbig
    refine ⟨r, fun k => ?_, fun _ => hr, fun h => absurd rfl h⟩
    rw [sluiceref01_AddF.j2]
    simp only [beq_self_eq_true, if_true, Option.bind_fun_some]
    rw [u64_id (by omega) (by omega), w64_id (by omega) (by omega)]
    have := hk k
    simpa using this
  · have hb0 : (n == o) = false := beq_eq_false_iff_ne.mpr c
    by_cases hlt : small < big
    · obtain ⟨r, hr, hk⟩ := round_pos n (big - small) (e - 39) (by omega) (by omega) (by omega) (by omega) (by
        intro h
        have := hd hlt (by omega)
        have e1 : -149 - (e - 39) = -110 - e := by omega
        rw [e1]; exact this)
      refine ⟨r, fun k => ?_, fun _ => hr, fun _ h => by omega⟩
      rw [sluiceref01_AddF.j2, hb0]
      simp only [Bool.false_eq_true, if_false, Option.bind_fun_some]
      rw [if_neg (by omega), u64_id (by omega) (by omega), w64_id (by omega) (by omega)]
      have := hk k
      have e2 : ((big - small : Nat) : Int) = (big : Int) - small := by omega
      rw [← e2]; exact this
    · refine ⟨0, fun k => ?_, fun h => ?_, fun _ _ => rfl⟩
      · rw [sluiceref01_AddF.j2, hb0]
        simp only [Bool.false_eq_true, if_false]
        rw [if_pos (by omega)]
      · rcases h with h | h
        · exact absurd h c
        · exact absurd h hlt

theorem or_one (c : Nat) (h : c < 18446744073709551616) : ∃ c' : Nat, bits .or .u64 (c : Int) 1 = (c' : Int) ∧ c ≤ c' ∧ c' ≤ c + 1 := by
  refine ⟨c ||| 1, n64_or c 1 h (by decide), Nat.left_le_or, ?_⟩
  have : c ||| 1 = 2 * (c / 2) + 1 := by
    have h1 : 2 ^ 1 * (c / 2) + 1 = 2 ^ 1 * (c / 2) ||| 1 := Nat.two_pow_add_eq_or_of_lt (by decide) _
    have h2 : c ||| 1 = (2 ^ 1 * (c / 2) ||| 1) := by
      apply Nat.eq_of_testBit_eq
      intro i
      rw [Nat.testBit_or, Nat.testBit_or]
      cases i with
      | zero => simp
      | succ i => simp [Nat.testBit_succ]
    rw [h2, ← h1]
  omega

theorem add_j1 (a b : Int) (n o : Bool) {X Y x y : Nat} {e f : Int} (hx : Fin X x e) (hy : Fin Y y f) (hle : f < e ∨ (e = f ∧ y ≤ x)) :
    ∃ r, (∀ k, sluiceref01_AddF.j1 (k + 82) a b n x e o y f false = some r) ∧ ((n = o ∨ f < e ∨ y < x) → Signed n r) ∧ (n ≠ o → e = f → x = y → r = 0) := by
  have hex := hx.range
  have hey := hy.range
  obtain ⟨mx_, s, hs, hxs, hse, hse'⟩ := hx.place
  obtain ⟨my_, t, ht, hyt, hte, hte'⟩ := hy.place
  obtain ⟨_, _, hx1, hx2, hcx⟩ := hx
  obtain ⟨_, _, hy1, hy2, hcy⟩ := hy
  clear hcx hcy
  obtain ⟨d, hd⟩ := Int.eq_ofNat_of_zero_le (show 0 ≤ e - f by omega)
  have big0 : IntKind.u64.wrap ((x : Int) * 549755813888) = ((x * 549755813888 : Nat) : Int) := by rw [u64_id (by omega) (by omega)]; omega
  have small0 : IntKind.u64.wrap ((y : Int) * 549755813888) = ((y * 549755813888 : Nat) : Int) := by rw [u64_id (by omega) (by omega)]; omega
  have fin : 2 ≤ d → ∀ c : Nat, c ≤ 2305843009213693952 → ∃ r, (∀ k, sluiceref01_AddF.j2 (k + 81) n e o ((x * 549755813888 : Nat) : Int) c = some r) ∧ ((n = o ∨ f < e ∨ y < x) → Signed n r) := by
    intro h0 c hc
    obtain ⟨r, hr, h1, h2⟩ := add_j2 n o e (x * 549755813888) c (by omega) (by omega) (by omega) (by omega) (by omega) (by
      intro _ _
      have h61 : (2 : Nat) ^ 61 = 2305843009213693952 := by decide
      have h6 : (-110 - e).toNat ≤ 61 := by omega
      have h7 := Nat.pow_le_pow_right (n := 2) (by decide) h6
      omega)
    exact ⟨r, hr, fun _ => h1 (.inr (by omega))⟩
  have hj1 : ∀ k, sluiceref01_AddF.j1 (k + 82) a b n x e o y f false =
      if (d : Int) ≥ 63 then sluiceref01_AddF.j2 (k + 81) n e o ((x * 549755813888 : Nat) : Int) 1
      else if (shl .u64 (shr .u64 ((y * 549755813888 : Nat) : Int) d) d) = ((y * 549755813888 : Nat) : Int) then sluiceref01_AddF.j2 (k + 81) n e o ((x * 549755813888 : Nat) : Int) (shr .u64 ((y * 549755813888 : Nat) : Int) d)
      else sluiceref01_AddF.j2 (k + 81) n e o ((x * 549755813888 : Nat) : Int) (bits .or .u64 (shr .u64 ((y * 549755813888 : Nat) : Int) d) 1) := by
    intro k
    rw [sluiceref01_AddF.j1, if_neg (by decide), w64_id (n := e - f) (by omega) (by omega), hd, big0, small0]
    split
    · rfl
    · rw [if_pos (by omega)]
  by_cases c63 : (d : Int) ≥ 63
  · obtain ⟨r, hr, h1, h2⟩ := add_j2 n o e (x * 549755813888) 1 (by omega) (by omega) (by omega) (by omega) (by omega) (by intro _ h; omega)
    refine ⟨r, fun k => ?_, fun _ => h1 (.inr (by omega)), fun _ he => by omega⟩
    rw [hj1 k, if_pos c63]
    exact hr k
  · rw [shr_nat _ d (by omega)] at hj1
    have hle2 : y * 549755813888 / 2 ^ d * 2 ^ d ≤ y * 549755813888 := Nat.div_mul_le_self _ _
    rw [shl_nat _ d (by omega) (by omega)] at hj1
    have hcut : y * 549755813888 / 2 ^ d ≤ y * 549755813888 := Nat.div_le_self _ _
    -- what is cut, with its mark
    obtain ⟨c', hc', hcl, hcu⟩ := or_one (y * 549755813888 / 2 ^ d) (by omega)
    rw [hc'] at hj1
    have h61 : (2 : Nat) ^ 61 = 2305843009213693952 := by decide
    have h39 : (2 : Nat) ^ 39 = 549755813888 := by decide
    have h38 : (2 : Nat) ^ 38 = 274877906944 := by decide
    -- the three ways
    rcases (show d = 0 ∨ d = 1 ∨ 2 ≤ d by omega) with h0 | h0 | h0
    · subst h0
      simp only [Nat.pow_zero, Nat.div_one, Nat.mul_one] at hj1
      have hef : e = f := by omega
      obtain ⟨r, hr, h1, h2⟩ := add_j2 n o e (x * 549755813888) (y * 549755813888) (by omega) (by omega) (by omega) (by omega) (by omega) (by
        intro hlt hl
        have hyx : y < x := by omega
        by_cases c : s = 0
        · have : (-110 - e).toNat ≤ 39 := by omega
          have h3 := Nat.pow_le_pow_right (n := 2) (by decide) this
          omega
        · have es := hse' (by omega)
          have et : s = t := by
            by_cases c' : t = 0
            · omega
            · have := hte' (by omega); omega
          subst et
          have hm : my_ < mx_ := by
            rw [hxs, hyt] at hyx
            exact Nat.lt_of_mul_lt_mul_right hyx
          have h4 : my_ * 2 ^ s + 2 ^ s ≤ mx_ * 2 ^ s := by
            have : (my_ + 1) * 2 ^ s ≤ mx_ * 2 ^ s := Nat.mul_le_mul_right _ hm
            rw [Nat.add_mul, Nat.one_mul] at this; exact this
          have h5 : (-110 - e).toNat = s + 39 := by omega
          rw [h5, Nat.pow_add, h39]
          rw [← hxs, ← hyt] at h4
          omega)
      refine ⟨r, fun k => ?_, fun h => h1 (h.elim .inl (fun h => .inr (by omega))), fun hn _ hxy => h2 hn (by omega)⟩
      rw [hj1 k, if_neg c63, if_pos trivial]
      exact hr k
    · subst h0
      have hdiv : y * 549755813888 / 2 ^ 1 = y * 274877906944 := by omega
      rw [hdiv] at hj1
      obtain ⟨r, hr, h1, h2⟩ := add_j2 n o e (x * 549755813888) (y * 274877906944) (by omega) (by omega) (by omega) (by omega) (by omega) (by
        intro hlt hl
        by_cases c : t = 0
        · have : (-110 - e).toNat ≤ 38 := by omega
          have h3 := Nat.pow_le_pow_right (n := 2) (by decide) this
          omega
        · have et := hte' (by omega)
          obtain ⟨t', rfl⟩ : ∃ t', t = t' + 1 := ⟨t - 1, by omega⟩
          -- x is a multiple of 2^t'
          have hxm : ∃ q, x = q * 2 ^ t' := by
            by_cases c' : s = 0
            · exact ⟨x, by
                have : t' = 0 := by omega
                subst this; simp⟩
            · have := hse' (by omega)
              have e5 : s = t' := by omega
              subst e5
              exact ⟨mx_, hxs⟩
          obtain ⟨q, hq⟩ := hxm
          have h5 : (-110 - e).toNat = t' + 1 + 38 := by omega
          rw [h5, Nat.pow_add, h38]
          have hy2' : y = my_ * 2 ^ t' * 2 := by rw [hyt, Nat.pow_succ, Nat.mul_assoc]
          have hgt : my_ * 2 ^ t' < q * 2 ^ t' := by rw [← hq]; omega
          have hm : my_ < q := Nat.lt_of_mul_lt_mul_right hgt
          have h4 : my_ * 2 ^ t' + 2 ^ t' ≤ q * 2 ^ t' := by
            have : (my_ + 1) * 2 ^ t' ≤ q * 2 ^ t' := Nat.mul_le_mul_right _ hm
            rw [Nat.add_mul, Nat.one_mul] at this; exact this
          rw [← hq] at h4
          rw [Nat.pow_succ]
          omega)
      refine ⟨r, fun k => ?_, fun h => h1 (h.elim .inl (fun h => .inr (by omega))), fun hn h3 hxy => by omega⟩
      rw [hj1 k, if_neg c63, if_pos (by omega)]
      exact hr k
    · have h4 : y * 549755813888 / 2 ^ d ≤ y * 549755813888 / 2 ^ 2 := Nat.div_le_div_left (Nat.pow_le_pow_right (by decide) h0) (by decide)
      have h5 : y * 549755813888 / 2 ^ 2 = y * 137438953472 := by omega
      rw [h5] at h4
      have h6 : y * 549755813888 / 2 ^ d + 1 ≤ 2305843009213693952 := by
        generalize y * 549755813888 / 2 ^ d = z at h4 ⊢
        omega
      by_cases ce : ((y * 549755813888 / 2 ^ d * 2 ^ d : Nat) : Int) = ((y * 549755813888 : Nat) : Int)
      · obtain ⟨r, hr, h1⟩ := fin h0 (y * 549755813888 / 2 ^ d) (Nat.le_of_succ_le h6)
        refine ⟨r, fun k => ?_, h1, fun _ he => by omega⟩
        rw [hj1 k, if_neg c63, if_pos ce]
        exact hr k
      · obtain ⟨r, hr, h1⟩ := fin h0 c' (Nat.le_trans hcu h6)
        refine ⟨r, fun k => ?_, h1, fun _ he => by omega⟩
        rw [hj1 k, if_neg c63, if_neg ce]
        exact hr k

theorem addf_j0 (a b : Int) (n o : Bool) {x y : Nat} (e f : Int) (hx : 0 < x) (hy : 0 < y) (k : Nat) :
    sluiceref01_AddF.j0 (k + 1) a b n x e o y f false = sluiceref01_AddF.j1 k a b n x e o y f (decide (e < f ∨ (e = f ∧ x < y))) := by
  rw [sluiceref01_AddF.j0, if_neg (by decide), if_neg (by omega), if_neg (by omega)]
  by_cases c : e < f
  · rw [if_pos c, decide_eq_true (.inl c)]
  · rw [if_neg c]
    by_cases c' : e = f
    · rw [if_pos c']
      congr 1
      rw [decide_eq_decide]
      constructor
      · intro h; exact .inr ⟨c', by omega⟩
      · rintro (h | h)
        · exact absurd h c
        · omega
    · rw [if_neg c', decide_eq_false (by omega)]

theorem addf_f (a b : Int) (n o : Bool) {x y : Nat} {e f : Int} (hx : 0 < x) (hy : 0 < y)
    (ha : ∀ k, sluiceref01_full.f (k + 60) a = some (n, (x : Int), e)) (hb : ∀ k, sluiceref01_full.f (k + 60) b = some (o, (y : Int), f)) (k : Nat) :
    sluiceref01_AddF.f (k + 100) a b = sluiceref01_AddF.j1 (k + 98) a b n x e o y f (decide (e < f ∨ (e = f ∧ x < y))) := by
  have h1 : sluiceref01_full.f (k + 99) a = some (n, (x : Int), e) := ha (k + 39)
  have h2 : sluiceref01_full.f (k + 99) b = some (o, (y : Int), f) := hb (k + 39)
  rw [sluiceref01_AddF.f, h1, h2]
  simp only [Option.bind_some]
  rw [if_neg (by omega)]
  exact addf_j0 a b n o e f hx hy (k + 98)

theorem add_fin (a b : Int) (n o : Bool) {X Y x y : Nat} {e f : Int} (hx : Fin X x e) (hy : Fin Y y f)
    (ha : ∀ k, sluiceref01_full.f (k + 60) a = some (n, (x : Int), e)) (hb : ∀ k, sluiceref01_full.f (k + 60) b = some (o, (y : Int), f)) :
    ∃ r, (∀ k, sluiceref01_AddF.f (k + 110) a b = some r) ∧ (n = o → Signed n r) ∧ (n ≠ o → Y < X → Signed n r) ∧ (n ≠ o → X < Y → Signed o r) ∧ (n ≠ o → X = Y → r = 0) := by
  have hx0 : 0 < x := by have := hx.2.2.1; omega
  have hy0 : 0 < y := by have := hy.2.2.1; omega
  have l1 := fun h : X < Y => hx.lt hy h
  have l2 := fun h : Y < X => hy.lt hx h
  have l3 : X = Y → e = f ∧ x = y := by intro h; subst h; exact hx.eq hy
  by_cases c : e < f ∨ (e = f ∧ x < y)
  · obtain ⟨r, hr, h1, h2⟩ := add_j1 b a o n hy hx (by omega)
    refine ⟨r, fun k => ?_, fun hno => ?_, fun hno hlt => ?_, fun hno hlt => h1 (.inr (by omega)), fun hno he => ?_⟩
    · have e1 : k + 110 = (k + 10) + 100 := by omega
      rw [e1, addf_f a b n o hx0 hy0 ha hb, decide_eq_true c]
      have e2 : k + 10 + 98 = (k + 7 + 100) + 1 := by omega
      rw [e2, sluiceref01_AddF.j1, if_pos rfl, addf_f b a o n hy0 hx0 hb ha, decide_eq_false (by omega)]
      have := hr (k + 7 + 16)
      rw [show k + 7 + 98 = k + 7 + 16 + 82 from by omega, this]
      rfl
    · rw [hno]; exact h1 (.inl hno.symm)
    · have := l2 hlt; omega
    · have := l3 he; omega
  · obtain ⟨r, hr, h1, h2⟩ := add_j1 a b n o hx hy (by omega)
    refine ⟨r, fun k => ?_, fun hno => h1 (.inl hno), fun hno hlt => h1 (.inr ?_), fun hno hlt => ?_, fun hno he => h2 hno (l3 he).1 (l3 he).2⟩
    · have e1 : k + 110 = (k + 10) + 100 := by omega
      rw [e1, addf_f a b n o hx0 hy0 ha hb, decide_eq_false c]
      have e2 : k + 10 + 98 = (k + 26) + 82 := by omega
      rw [e2]; exact hr _
    · have := l2 hlt; omega
    · have := l1 hlt; omega

theorem add_zero_left (a b : Int) (n o : Bool) {y : Nat} {f : Int} (hy : 0 < y)
    (ha : ∀ k, sluiceref01_full.f (k + 60) a = some (n, 0, 0)) (hb : ∀ k, sluiceref01_full.f (k + 60) b = some (o, (y : Int), f)) (k : Nat) :
    sluiceref01_AddF.f (k + 110) a b = some b := by
  have h1 : sluiceref01_full.f (k + 109) a = some (n, 0, 0) := ha (k + 49)
  have h2 : sluiceref01_full.f (k + 109) b = some (o, (y : Int), f) := hb (k + 49)
  rw [sluiceref01_AddF.f, h1, h2]
  simp only [Option.bind_some, if_true]
  have : ((y : Int) == 0) = false := by rw [beq_eq_false_iff_ne]; omega
  rw [this, sluiceref01_AddF.j0, if_neg (by decide), if_pos rfl]
theorem add_zero_right (a b : Int) (n o : Bool) {x : Nat} {e : Int} (hx : 0 < x)
    (ha : ∀ k, sluiceref01_full.f (k + 60) a = some (n, (x : Int), e)) (hb : ∀ k, sluiceref01_full.f (k + 60) b = some (o, 0, 0)) (k : Nat) :
    sluiceref01_AddF.f (k + 110) a b = some a := by
  have h1 : sluiceref01_full.f (k + 109) a = some (n, (x : Int), e) := ha (k + 49)
  have h2 : sluiceref01_full.f (k + 109) b = some (o, 0, 0) := hb (k + 49)
  rw [sluiceref01_AddF.f, h1, h2]
  simp only [Option.bind_some]
  rw [if_neg (by omega), sluiceref01_AddF.j0, if_neg (by decide), if_neg (by omega), if_pos rfl]
theorem add_zeros (a b : Int) (n o : Bool)
    (ha : ∀ k, sluiceref01_full.f (k + 60) a = some (n, 0, 0)) (hb : ∀ k, sluiceref01_full.f (k + 60) b = some (o, 0, 0)) (k : Nat) :
    sluiceref01_AddF.f (k + 110) a b = some (if n = true ∧ o = true then 2147483648 else 0) := by
  have h1 : sluiceref01_full.f (k + 109) a = some (n, 0, 0) := ha (k + 49)
  have h2 : sluiceref01_full.f (k + 109) b = some (o, 0, 0) := hb (k + 49)
  rw [sluiceref01_AddF.f, h1, h2]
  simp only [Option.bind_some, if_true, beq_self_eq_true]
  rw [sluiceref01_AddF.j0, if_pos rfl]
  unfold sluiceref01_signed.f
  cases n <;> cases o <;> simp

/-! ### The law -/
def rk (u : Int) : Int := if u < 2147483648 then u else 2147483647 - u
theorem rank_eq (u : Int) (h0 : 0 ≤ u) (h1 : u < 4294967296) : grain_Rank.f u = some (rk u) := by
  unfold grain_Rank.f rk
  rw [u32_sign u h0 h1, u32_unsign u h0 h1, w64_id (by omega) (by omega), w64_id (by omega) (by omega), i64_not _ (by omega) (by omega)]
  by_cases c : u < 2147483648
  · simp [c]
  · rw [if_neg c, if_neg (by decide), if_neg c]
    congr 1; omega
theorem ofrank_eq (u : Int) (h0 : 0 ≤ u) (h1 : u < 4294967296) (k : Nat) : grain_OfRank.f (k + 1) (rk u) = some (u, 0) := by
  have hr : -2147483648 ≤ rk u ∧ rk u ≤ 2147483647 := by unfold rk; split <;> omega
  unfold grain_OfRank.f
  rw [if_neg (by omega), decide_eq_false (by omega), grain_OfRank.j0, if_neg (by decide)]
  by_cases c : u < 2147483648
  · have : rk u = u := by unfold rk; rw [if_pos c]
    rw [this, if_neg (by omega)]
    congr 2; omega
  · have : rk u = 2147483647 - u := by unfold rk; rw [if_neg c]
    rw [this, if_pos (by omega), i64_not _ (by omega) (by omega)]
    have e : (-1 - (2147483647 - u)) % 4294967296 = u - 2147483648 := by omega
    rw [e, u32_or31 _ (by omega) (by omega)]
    congr 2; omega

/-- The difference of two numbers: what it is. -/
theorem sub_eq (u v : Int) (hu0 : 0 ≤ u) (hu1 : u < 4294967296) (hv0 : 0 ≤ v) (hv1 : v < 4294967296) (hu : u % 2147483648 < 2139095040) (hv : v % 2147483648 < 2139095040) :
    ∃ d, (∀ k, sluiceref01_SubF.f (k + 110) u v = some d) ∧ 0 ≤ d ∧ d < 4294967296 ∧ (d % 2147483648 = 0 → u = v ∨ rk u - rk v = 1 ∨ rk v - rk u = 1) ∧ (d % 2147483648 ≠ 0 → (rk u < rk v ↔ 2147483648 ≤ d)) := by
  obtain ⟨w, hw⟩ : ∃ w, bits .xor .u32 v 2147483648 = w := ⟨_, rfl⟩
  have hw' := hw
  rw [u32_flip v hv0 hv1] at hw'
  have hw0 : 0 ≤ w ∧ w < 4294967296 ∧ w % 2147483648 = v % 2147483648 ∧ (2147483648 ≤ w ↔ v < 2147483648) := by split at hw' <;> omega
  have hS : ∀ k d, sluiceref01_AddF.f (k + 110) u w = some d → sluiceref01_SubF.f (k + 110) u v = some d := by
    intro k d h
    unfold sluiceref01_SubF.f sluiceref01_NegF.f
    simp only [Option.bind_some, hw, h]
  by_cases zu : u % 2147483648 = 0 <;> by_cases zv : v % 2147483648 = 0
  · have := add_zeros u w _ _ (fun k => full_zero u hu0 hu1 zu k) (fun k => full_zero w hw0.1 hw0.2.1 (by omega) k)
    refine ⟨_, fun k => hS k _ (this k), by split <;> omega, by split <;> omega, fun _ => by unfold rk; split <;> split <;> omega, fun h => ?_⟩
    exfalso; split at h <;> omega
  · obtain ⟨Y, hY⟩ := Int.eq_ofNat_of_zero_le (show 0 ≤ w % 2147483648 by omega)
    obtain ⟨y, f, hy, hb⟩ := full_fin w Y hw0.1 hw0.2.1 hY.symm (by omega) (by omega)
    have := add_zero_left u w _ _ (show 0 < y by have := hy.2.2.1; omega) (fun k => full_zero u hu0 hu1 zu k) hb
    refine ⟨_, fun k => hS k _ (this k), by omega, by omega, fun h => by omega, fun _ => by unfold rk; split <;> split <;> omega⟩
  · obtain ⟨X, hX⟩ := Int.eq_ofNat_of_zero_le (show 0 ≤ u % 2147483648 by omega)
    obtain ⟨x, e, hx, ha⟩ := full_fin u X hu0 hu1 hX.symm (by omega) (by omega)
    have := add_zero_right u w _ _ (show 0 < x by have := hx.2.2.1; omega) ha (fun k => full_zero w hw0.1 hw0.2.1 (by omega) k)
    refine ⟨_, fun k => hS k _ (this k), by omega, by omega, fun h => by omega, fun _ => by unfold rk; split <;> split <;> omega⟩
  · obtain ⟨X, hX⟩ := Int.eq_ofNat_of_zero_le (show 0 ≤ u % 2147483648 by omega)
    obtain ⟨x, e, hx, ha⟩ := full_fin u X hu0 hu1 hX.symm (by omega) (by omega)
    obtain ⟨Y, hY⟩ := Int.eq_ofNat_of_zero_le (show 0 ≤ w % 2147483648 by omega)
    obtain ⟨y, f, hy, hb⟩ := full_fin w Y hw0.1 hw0.2.1 hY.symm (by omega) (by omega)
    obtain ⟨r, hr, h1, h2, h3, h4⟩ := add_fin u w _ _ hx hy ha hb
    by_cases hno : decide (2147483648 ≤ u) = decide (2147483648 ≤ w)
    · obtain ⟨z, hz0, hz1, hz⟩ := h1 hno
      rw [decide_eq_decide] at hno
      refine ⟨r, fun k => hS k _ (hr k), ?_⟩
      simp only [decide_eq_true_eq] at hz
      unfold rk
      split at hz <;> split <;> split <;> omega
    · have g2 := h2 hno
      have g3 := h3 hno
      have g4 := h4 hno
      rw [decide_eq_decide] at hno
      refine ⟨r, fun k => hS k _ (hr k), ?_⟩
      rcases Nat.lt_trichotomy X Y with c | c | c
      · obtain ⟨z, hz0, hz1, hz⟩ := g3 c
        simp only [decide_eq_true_eq] at hz
        unfold rk
        split at hz <;> split <;> split <;> omega
      · have := g4 c
        subst this
        unfold rk
        split <;> split <;> omega
      · obtain ⟨z, hz0, hz1, hz⟩ := g2 c
        simp only [decide_eq_true_eq] at hz
        unfold rk
        split at hz <;> split <;> split <;> omega

theorem GrainOrder : sluicelaw01_GrainOrder.Pure := by
  intro u v wu wv
  obtain ⟨hu0, hu1⟩ := wf_u32 wu
  obtain ⟨hv0, hv1⟩ := wf_u32 wv
  have hinj : (rk u == rk v) = (u == v) := by
    rw [Bool.eq_iff_iff, beq_iff_eq, beq_iff_eq]; unfold rk; split <;> split <;> omega
  have hbne : ((rk u == rk v) != (u == v)) = false := by rw [hinj]; simp
  have hcu : ∀ k, sluiceref01_Class.f (k + 1) u = _ := fun k => class_eq k u hu0 hu1
  have hcv : ∀ k, sluiceref01_Class.f (k + 1) v = _ := fun k => class_eq k v hv0 hv1
  generalize hCu : (if u % 2147483648 = 0 then (0 : Int) else if u % 2147483648 < 8388608 then 1 else if u % 2147483648 < 2139095040 then 2 else if u % 2147483648 = 2139095040 then 3 else 4) = Cu at hcu
  generalize hCv : (if v % 2147483648 = 0 then (0 : Int) else if v % 2147483648 < 8388608 then 1 else if v % 2147483648 < 2139095040 then 2 else if v % 2147483648 = 2139095040 then 3 else 4) = Cv at hcv
  have iu : (Cu = 4 ↔ 2139095040 < u % 2147483648) ∧ (Cu = 3 ↔ u % 2147483648 = 2139095040) := by
    subst hCu; repeat' split
    all_goals omega
  have iv : (Cv = 4 ↔ 2139095040 < v % 2147483648) ∧ (Cv = 3 ↔ v % 2147483648 = 2139095040) := by
    subst hCv; repeat' split
    all_goals omega
  refine ⟨310, ?_⟩
  unfold sluicelaw01_GrainOrder.f
  rw [rank_eq u hu0 hu1, rank_eq v hv0 hv1]
  simp only [Option.bind_some]
  rw [ofrank_eq u hu0 hu1 309]
  simp only [Option.bind_some, sluicelaw01_num.f, if_true]
  rw [hbne, sluicelaw01_GrainOrder.j0, if_neg (by decide), hcu 308]
  simp only [Option.bind_some]
  -- NaN
  have hj1t : ∀ k, sluicelaw01_GrainOrder.j1 (k + 1) u v (rk u) (rk v) true = some true := fun k => by rw [sluicelaw01_GrainOrder.j1, if_pos rfl]
  by_cases c1 : Cu = 4
  · rw [if_pos c1]; exact hj1t 308
  rw [if_neg c1, hcv 308]
  simp only [Option.bind_some]
  by_cases c2 : Cv = 4
  · rw [beq_iff_eq.mpr c2]; exact hj1t 308
  rw [beq_eq_false_iff_ne.mpr c2, sluicelaw01_GrainOrder.j1, if_neg (by decide), hcu 307]
  simp only [Option.bind_some]
  -- infinity
  have hj2t : (u % 2147483648 = 2139095040 ∨ v % 2147483648 = 2139095040) → ∀ k, sluicelaw01_GrainOrder.j2 (k + 1) u v (rk u) (rk v) true = some true := fun hi k => by
    rw [sluicelaw01_GrainOrder.j2, if_pos rfl]
    by_cases e : u = v
    · rw [if_pos e]
    rw [if_neg e]
    by_cases e1 : u = 4286578688
    · rw [if_pos e1, decide_eq_true (by unfold rk; split <;> split <;> omega)]; rfl
    rw [if_neg e1]
    congr 1
    rw [beq_iff_eq, Bool.eq_iff_iff, decide_eq_true_eq, beq_iff_eq]
    unfold rk; split <;> split <;> omega
  by_cases c3 : Cu = 3
  · rw [if_pos c3]; exact hj2t (.inl (iu.2.mp c3)) 307
  rw [if_neg c3, hcv 307]
  simp only [Option.bind_some]
  by_cases c4 : Cv = 3
  · rw [beq_iff_eq.mpr c4]; exact hj2t (.inr (iv.2.mp c4)) 307
  rw [beq_eq_false_iff_ne.mpr c4, sluicelaw01_GrainOrder.j2, if_neg (by decide)]
  obtain ⟨d, hd, hd0, hd1, hz, hn⟩ := sub_eq u v hu0 hu1 hv0 hv1 (by omega) (by omega)
  rw [hd 197]
  simp only [Option.bind_some]
  rw [class_eq 306 d hd0 hd1]
  simp only [Option.bind_some]
  by_cases z : d % 2147483648 = 0
  · rw [if_pos z, if_pos rfl]
    have hru : -2147483648 ≤ rk u ∧ rk u ≤ 2147483647 := by unfold rk; split <;> omega
    have hrv : -2147483648 ≤ rk v ∧ rk v ≤ 2147483647 := by unfold rk; split <;> omega
    rw [w64_id (by omega) (by omega), w64_id (by omega) (by omega)]
    by_cases e : u = v
    · rw [if_pos e]
    rw [if_neg e]
    by_cases e1 : rk u - rk v = 1
    · rw [if_pos e1]
    rw [if_neg e1]
    have := hz z
    rw [beq_iff_eq.mpr (by omega)]
  · have hc : ¬ (if d % 2147483648 = 0 then (0 : Int) else if d % 2147483648 < 8388608 then 1 else if d % 2147483648 < 2139095040 then 2 else if d % 2147483648 = 2139095040 then 3 else 4) = 0 := by
      rw [if_neg z]; repeat' split
      all_goals omega
    rw [if_neg hc]
    have := hn z
    congr 1
    rw [beq_iff_eq, decide_eq_decide]
    exact this

end Go.Proofs.Ytdnofpafojjjaaa.Pure
