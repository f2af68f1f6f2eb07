/- Plain facts on rounding m * 2^e to a float32 (the document's chapter 1): what both texts' roundings come to. No program in sight. Conditions: as each lemma says. -/
import Derived.Test.YtdnofpafojjjaaaNum
namespace Go.Proofs.Ytdnofpafojjjaaa.Flo
open Go.RowKit Go.Proofs.YtdnofpafojjjaaaW.PrintWords Go.Proofs.Ytdnofpafojjjaaa.Num

/-- Half to even. -/
def rup (q rest half : Nat) : Nat := if half < rest ∨ (rest = half ∧ q % 2 = 1) then q + 1 else q
/-- m / 2^d, rounded. -/
def core (m : Nat) (d : Int) : Nat := if d ≤ 0 then m * 2 ^ (-d).toNat else rup (m / 2 ^ d.toNat) (m % 2 ^ d.toNat) (2 ^ (d.toNat - 1))
def unitOf (p : Nat) (e : Int) : Int := if -149 ≤ e + p - 23 then e + p - 23 else -149
/-- The float32's bits (without the sign) nearest to m * 2^e, 2^p ≤ m < 2^(p+1). -/
def rspec (p m : Nat) (e : Int) : Int :=
  if -149 < unitOf p e then (if (unitOf p e + 149) * 8388608 + core m (unitOf p e - e) < 2139095040 then (unitOf p e + 149) * 8388608 + core m (unitOf p e - e) else 2139095040)
  else core m (unitOf p e - e)

theorem rup_le (q rest half : Nat) : q ≤ rup q rest half ∧ rup q rest half ≤ q + 1 := by unfold rup; split <;> omega

theorem pow_split {a b : Nat} (h : a ≤ b) : 2 ^ b = 2 ^ a * 2 ^ (b - a) := by rw [← Nat.pow_add]; congr 1; omega

theorem core_range {p m : Nat} {d : Int} (hhi : m < 2 ^ (p + 1)) (hd : (p : Int) - 23 ≤ d) : core m d ≤ 16777216 := by
  unfold core
  split
  · rename_i h
    have h1 : m * 2 ^ (-d).toNat < 2 ^ (p + 1) * 2 ^ (-d).toNat := Nat.mul_lt_mul_of_pos_right hhi (Nat.two_pow_pos _)
    rw [← Nat.pow_add] at h1
    have h2 : 2 ^ (p + 1 + (-d).toNat) ≤ 2 ^ 24 := Nat.pow_le_pow_right (by decide) (by omega)
    have : (2 : Nat) ^ 24 = 16777216 := by decide
    omega
  · rename_i h
    have h1 : m / 2 ^ d.toNat < 2 ^ 24 := by
      rw [Nat.div_lt_iff_lt_mul (Nat.two_pow_pos _), ← Nat.pow_add]
      exact Nat.lt_of_lt_of_le hhi (Nat.pow_le_pow_right (by decide) (by omega))
    have h2 := (rup_le (m / 2 ^ d.toNat) (m % 2 ^ d.toNat) (2 ^ (d.toNat - 1))).2
    have : (2 : Nat) ^ 24 = 16777216 := by decide
    omega

/-- At the finest place that 24 bits let: at least 2^23. -/
theorem core_big {p m : Nat} {d : Int} (hlo : 2 ^ p ≤ m) (hd : d = (p : Int) - 23) : 8388608 ≤ core m d := by
  unfold core
  split
  · rename_i h
    have h1 : 2 ^ p * 2 ^ (-d).toNat ≤ m * 2 ^ (-d).toNat := Nat.mul_le_mul_right _ hlo
    rw [← Nat.pow_add] at h1
    have h2 : p + (-d).toNat = 23 := by omega
    rw [h2] at h1
    have : (2 : Nat) ^ 23 = 8388608 := by decide
    omega
  · rename_i h
    have h1 : 2 ^ 23 ≤ m / 2 ^ d.toNat := by
      rw [Nat.le_div_iff_mul_le (Nat.two_pow_pos _), ← Nat.pow_add]
      have h2 : 23 + d.toNat = p := by omega
      rw [h2]; exact hlo
    have h2 := (rup_le (m / 2 ^ d.toNat) (m % 2 ^ d.toNat) (2 ^ (d.toNat - 1))).1
    have : (2 : Nat) ^ 23 = 8388608 := by decide
    omega

theorem core_pos {m : Nat} {d : Int} (h : d ≤ 0 → 1 ≤ m) (h' : 0 < d → 2 ^ d.toNat ≤ m) : 1 ≤ core m d := by
  unfold core
  split
  · rename_i hd
    have := h hd
    have h2 : 0 < m * 2 ^ (-d).toNat := Nat.mul_pos this (Nat.two_pow_pos _)
    omega
  · rename_i hd
    have h1 : 1 ≤ m / 2 ^ d.toNat := by
      rw [Nat.le_div_iff_mul_le (Nat.two_pow_pos _)]; simpa using h' (by omega)
    have h2 := (rup_le (m / 2 ^ d.toNat) (m % 2 ^ d.toNat) (2 ^ (d.toNat - 1))).1
    omega

theorem unit_ge (p : Nat) (e : Int) : e + p - 23 ≤ unitOf p e ∧ -149 ≤ unitOf p e ∧ (unitOf p e = e + p - 23 ∨ unitOf p e = -149) := by unfold unitOf; split <;> omega

theorem rspec_range {p m : Nat} {e : Int} (hhi : m < 2 ^ (p + 1)) : 0 ≤ rspec p m e ∧ rspec p m e ≤ 2139095040 := by
  have hu := unit_ge p e
  have hc := core_range (d := unitOf p e - e) hhi (by omega)
  unfold rspec
  split
  · split <;> omega
  · omega

/-- What is at least 2^-149 is not rounded away. -/
theorem rspec_pos {p m : Nat} {e : Int} (hlo : 2 ^ p ≤ m) (h : e < -149 → 2 ^ (-149 - e).toNat ≤ m) : 1 ≤ rspec p m e := by
  have hu := unit_ge p e
  have hm : 1 ≤ m := Nat.le_trans (Nat.one_le_two_pow) hlo
  unfold rspec
  split
  · split <;> omega
  · rename_i hn
    have hU : unitOf p e = -149 := by omega
    have := core_pos (m := m) (d := unitOf p e - e) (fun _ => hm) (by
      intro hd
      rw [hU] at hd ⊢
      exact h (by omega))
    omega
end Go.Proofs.Ytdnofpafojjjaaa.Flo
