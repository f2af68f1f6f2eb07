/- GrainPacks, the pure part: every Put, Get, PutInt, GetInt answers as the document's. Conditions: none but the row's own. -/
import Derived.Test.YtdnofpafojjjaaaWalkGrainPacks
import Derived.Test.YtdnofpafojjjaaaNum
namespace Go.Proofs.Ytdnofpafojjjaaa.Pure
open Go.RowKit Go.Proofs.Ytdnofpafojjjaaa.QGrainPacks Go.Proofs.YtdnofpafojjjaaaW.PrintWords Go.Proofs.YtdnofpafojjjaaaW.PrintLast Go.Proofs.YtdnofpafojjjaaaW.PrintMore
open Go.Proofs.Ytdnofpafojjjaaa.Num
set_option linter.unusedVariables false
set_option linter.unusedSimpArgs false
theorem p_lt {p m n : Nat} (hlo : 2 ^ p ≤ m) (h : m < 2 ^ n) : p < n := (Nat.pow_lt_pow_iff_right (by decide : 1 < 2)).mp (Nat.lt_of_le_of_lt hlo h)
/-! ### The length of a number in bits -/
def len8 : ByteArray := ⟨#[0, 1, 2, 2, 3, 3, 3, 3, 4, 4, 4, 4, 4, 4, 4, 4, 5, 5, 5, 5, 5, 5, 5, 5, 5, 5, 5, 5, 5, 5, 5, 5, 6, 6, 6, 6, 6, 6, 6, 6, 6, 6, 6, 6, 6, 6, 6, 6, 6, 6, 6, 6, 6, 6, 6, 6, 6, 6, 6, 6, 6, 6, 6, 6, 7, 7, 7, 7, 7, 7, 7, 7, 7, 7, 7, 7, 7, 7, 7, 7, 7, 7, 7, 7, 7, 7, 7, 7, 7, 7, 7, 7, 7, 7, 7, 7, 7, 7, 7, 7, 7, 7, 7, 7, 7, 7, 7, 7, 7, 7, 7, 7, 7, 7, 7, 7, 7, 7, 7, 7, 7, 7, 7, 7, 7, 7, 7, 7, 8, 8, 8, 8, 8, 8, 8, 8, 8, 8, 8, 8, 8, 8, 8, 8, 8, 8, 8, 8, 8, 8, 8, 8, 8, 8, 8, 8, 8, 8, 8, 8, 8, 8, 8, 8, 8, 8, 8, 8, 8, 8, 8, 8, 8, 8, 8, 8, 8, 8, 8, 8, 8, 8, 8, 8, 8, 8, 8, 8, 8, 8, 8, 8, 8, 8, 8, 8, 8, 8, 8, 8, 8, 8, 8, 8, 8, 8, 8, 8, 8, 8, 8, 8, 8, 8, 8, 8, 8, 8, 8, 8, 8, 8, 8, 8, 8, 8, 8, 8, 8, 8, 8, 8, 8, 8, 8, 8, 8, 8, 8, 8, 8, 8, 8, 8, 8, 8, 8, 8, 8, 8, 8, 8, 8, 8, 8, 8]⟩
theorem len_j0 (k : Nat) (x0 x2 : Int) : bits_Len64.j0 (k + 1) x0 x2 = if x0 ≥ 65536 then (if (x0 / 65536) ≥ 256 then (if 0 ≤ (((x0 / 65536) / 256) % 256) then (if (((x0 / 65536) / 256) % 256) < 256 then (some (wrap64 ((wrap64 ((wrap64 (x2 + 16)) + 8)) + (wrap64 (bt len8 (((x0 / 65536) / 256) % 256)))))) else (none)) else (none)) else (if 0 ≤ ((x0 / 65536) % 256) then (if ((x0 / 65536) % 256) < 256 then (some (wrap64 ((wrap64 (x2 + 16)) + (wrap64 (bt len8 ((x0 / 65536) % 256)))))) else (none)) else (none))) else (if x0 ≥ 256 then (if 0 ≤ ((x0 / 256) % 256) then (if ((x0 / 256) % 256) < 256 then (some (wrap64 ((wrap64 (x2 + 8)) + (wrap64 (bt len8 ((x0 / 256) % 256)))))) else (none)) else (none)) else (if 0 ≤ ((x0) % 256) then (if ((x0) % 256) < 256 then (some (wrap64 (x2 + (wrap64 (bt len8 ((x0) % 256)))))) else (none)) else (none))) := rfl

theorem len8_ok : ∀ i : Nat, i < 256 → 0 < i → bt len8 (i : Int) = ((Nat.log2 i + 1 : Nat) : Int) := by decide +kernel
theorem log_of {p m : Nat} (hlo : 2 ^ p ≤ m) (hhi : m < 2 ^ (p + 1)) : Nat.log2 m = p := by
  have h0 : m ≠ 0 := by have := Nat.one_le_two_pow (n := p); omega
  exact (Nat.log2_eq_iff h0).mpr ⟨hlo, hhi⟩
theorem len_step {p m : Nat} (hlo : 2 ^ p ≤ m) (hhi : m < 2 ^ (p + 1)) (j : Nat) (hj : j ≤ p) (h : m / 2 ^ j < 256) : bt len8 ((m / 2 ^ j : Nat) : Int) = ((p - j + 1 : Nat) : Int) := by
  have h1 : 2 ^ (p - j) ≤ m / 2 ^ j := by
    rw [Nat.le_div_iff_mul_le (Nat.two_pow_pos _), ← Nat.pow_add]
    have : p - j + j = p := by omega
    rw [this]; exact hlo
  have h2 : m / 2 ^ j < 2 ^ (p - j + 1) := by
    rw [Nat.div_lt_iff_lt_mul (Nat.two_pow_pos _), ← Nat.pow_add]
    have : p - j + 1 + j = p + 1 := by omega
    rw [this]; exact hhi
  have h3 : 0 < m / 2 ^ j := Nat.lt_of_lt_of_le (Nat.two_pow_pos _) h1
  rw [len8_ok _ h h3, log_of h1 h2]
theorem p_ge {p m n : Nat} (hhi : m < 2 ^ (p + 1)) (h : 2 ^ n ≤ m) : n ≤ p := by
  have := (Nat.pow_lt_pow_iff_right (by decide : 1 < 2)).mp (Nat.lt_of_le_of_lt h hhi)
  omega
theorem len_low {p x : Nat} (hlo : 2 ^ p ≤ x) (hhi : x < 2 ^ (p + 1)) (hx : x < 4294967296) (n : Int) (hn : 0 ≤ n) (hn' : n ≤ 32) (k : Nat) :
    bits_Len64.j0 (k + 1) (x : Int) n = some (n + p + 1) := by
  rw [len_j0]
  have e8 : (2 : Nat) ^ 8 = 256 := by decide
  have e16 : (2 : Nat) ^ 16 = 65536 := by decide
  have e24 : (2 : Nat) ^ 24 = 16777216 := by decide
  have e32 : (2 : Nat) ^ 32 = 4294967296 := by decide
  have hp : p < 32 := p_lt hlo (by omega)
  have st : ∀ j : Nat, j ≤ p → x / 2 ^ j < 256 → ∀ y : Int, y = ((x / 2 ^ j : Nat) : Int) → wrap64 (bt len8 y) = p - j + 1 := by
    intro j hj h y hy
    rw [hy, len_step hlo hhi j hj h, w64_id (by omega) (by omega)]
    omega
  by_cases c1 : (x : Int) ≥ 65536
  · rw [if_pos c1]
    have g16 : 16 ≤ p := p_ge hhi (by omega)
    by_cases c2 : ((x : Int) / 65536) ≥ 256
    · rw [if_pos c2]
      have g24 : 24 ≤ p := p_ge hhi (by omega)
      rw [if_pos (by omega), if_pos (by omega), st 24 g24 (by omega) _ (by rw [e24]; omega)]
      congr 1
      simp only [wrap64]; omega
    · rw [if_neg c2, if_pos (by omega), if_pos (by omega), st 16 g16 (by omega) _ (by rw [e16]; omega)]
      congr 1
      simp only [wrap64]; omega
  · rw [if_neg c1]
    by_cases c2 : (x : Int) ≥ 256
    · rw [if_pos c2]
      have g8 : 8 ≤ p := p_ge hhi (by omega)
      rw [if_pos (by omega), if_pos (by omega), st 8 g8 (by omega) _ (by rw [e8]; omega)]
      congr 1
      simp only [wrap64]; omega
    · rw [if_neg c2, if_pos (by omega), if_pos (by omega), st 0 (by omega) (by simp; omega) _ (by simp; omega)]
      congr 1
      simp only [wrap64]; omega
theorem len_eq {p m : Nat} (hlo : 2 ^ p ≤ m) (hhi : m < 2 ^ (p + 1)) (hm : m < 18446744073709551616) (k : Nat) : bits_Len64.f (k + 1) (m : Int) = some ((p : Int) + 1) := by
  unfold bits_Len64.f
  have e32 : (2 : Nat) ^ 32 = 4294967296 := by decide
  by_cases c : (m : Int) ≥ 4294967296
  · rw [if_pos c]
    have g : 32 ≤ p := p_ge hhi (by omega)
    have h1 : 2 ^ (p - 32) ≤ m / 4294967296 := by
      rw [← e32, Nat.le_div_iff_mul_le (Nat.two_pow_pos _), ← Nat.pow_add]
      have : p - 32 + 32 = p := by omega
      rw [this]; exact hlo
    have h2 : m / 4294967296 < 2 ^ (p - 32 + 1) := by
      rw [← e32, Nat.div_lt_iff_lt_mul (Nat.two_pow_pos _), ← Nat.pow_add]
      have : p - 32 + 1 + 32 = p + 1 := by omega
      rw [this]; exact hhi
    have e : (m : Int) / 4294967296 = ((m / 4294967296 : Nat) : Int) := by omega
    rw [e, len_low h1 h2 (by omega) 32 (by decide) (by decide) k]
    congr 1; omega
  · rw [if_neg c, len_low hlo hhi (by omega) 0 (by decide) (by decide) k]
    congr 1; omega

theorem len_zero (k : Nat) : bits_Len64.f (k + 1) 0 = some 0 := by
  unfold bits_Len64.f
  rw [if_neg (by decide), len_j0, if_neg (by decide), if_neg (by decide), if_pos (by decide), if_pos (by decide)]
  have e0 : bt len8 0 = 0 := by decide +kernel
  show some (wrap64 (0 + wrap64 (bt len8 0))) = _
  rw [e0]
  simp [wrap64]
theorem pow_cast (m : Nat) : (2 : Int) ^ m = ((2 ^ m : Nat) : Int) := by
  rw [Int.natCast_pow]; rfl
theorem len64_ok (v : Int) (h0 : 0 ≤ v) (h1 : v < 18446744073709551616) : ∃ kL L, bits_Len64.f kL v = some L ∧ ∀ m : Nat, L ≤ (m : Int) ↔ v < 2 ^ m := by
  obtain ⟨n, rfl⟩ : ∃ n : Nat, v = n := ⟨v.toNat, by omega⟩
  by_cases hz : n = 0
  · subst hz
    refine ⟨1, 0, len_zero 0, fun m => ?_⟩
    have := Nat.two_pow_pos m
    rw [pow_cast]
    omega
  · have hlo : 2 ^ Nat.log2 n ≤ n := (Nat.le_log2 hz).mp (Nat.le_refl _)
    have hhi : n < 2 ^ (Nat.log2 n + 1) := (Nat.log2_lt hz).mp (Nat.lt_succ_self _)
    refine ⟨1, _, len_eq hlo hhi (by omega) 0, fun m => ?_⟩
    rw [pow_cast]
    constructor
    · intro h
      have h2 : Nat.log2 n + 1 ≤ m := by omega
      have := Nat.pow_le_pow_right (by decide : 0 < 2) h2
      omega
    · intro h
      have h2 : n < 2 ^ m := by omega
      have := (Nat.pow_lt_pow_iff_right (by decide : 1 < 2)).mp (Nat.lt_of_le_of_lt hlo h2)
      omega
/-! ### Put -/
def BytesL (l : List Int) : Prop := ∀ c ∈ l, 0 ≤ c ∧ c < 256
theorem rd_nat (l : List Int) (i : Nat) (h : i < l.length) : rd l (i : Int) = l[i] := by
  show l.getD (i : Int).toNat 0 = _
  rw [Int.toNat_natCast, List.getD_eq_getElem?_getD, List.getElem?_eq_getElem h]
  rfl
theorem rd_bytes (l : List Int) (hl : BytesL l) (i : Int) (h0 : 0 ≤ i) (h : i < l.length) : 0 ≤ rd l i ∧ rd l i < 256 := by
  obtain ⟨n, rfl⟩ : ∃ n : Nat, i = n := ⟨i.toNat, by omega⟩
  rw [rd_nat l n (by omega)]
  exact hl _ (List.getElem_mem _)
theorem lay_bytes (a : Nat) (v : Int) (B : List Int) (hB : BytesL B) : ∀ i, BytesL (grain_lay.go a v B i)
  | 0 => hB
  | i + 1 => fun c hc => by
    rcases List.mem_or_eq_of_mem_set hc with h | h
    · exact lay_bytes a v B hB i c h
    · rw [h]; omega
theorem shr64 (v : Int) (j : Nat) (hj : j ≤ 64) : shr .u64 v (j : Int) = v / 2 ^ j := by
  unfold shr
  rw [Int.toNat_natCast, show IntKind.u64.bits = 64 from rfl, Nat.min_eq_left hj]
theorem rput_l0 (B : List Int) (hL : B.length < 140737488355328) (at_ w v : Int) : ∀ (n k i : Nat), n + i = B.length → sluiceref01_Put.l0 (k + n) B at_ w v (B.take i) (i : Int) = sluiceref01_Put.l0 k B at_ w v B (B.length : Int) := by
  intro n
  induction n with
  | zero =>
    intro k i hi
    obtain rfl : i = B.length := by omega
    rw [List.take_length, Nat.add_zero]
  | succ n ih =>
    intro k i hi
    have hlt : i < B.length := by omega
    rw [show k + (n + 1) = (k + n) + 1 from by omega]
    conv => lhs; rw [sluiceref01_Put.l0]
    rw [if_pos (by omega), if_pos (by omega), if_pos (by rw [List.length_take]; omega), rd_nat B i hlt, ← List.take_succ_eq_append_getElem hlt, w64_id (by omega) (by omega), show (i : Int) + 1 = ((i + 1 : Nat) : Int) from by omega]
    exact ih k (i + 1) (by omega)
theorem rput_l1 (B : List Int) (hL : B.length < 140737488355328) (a m : Nat) (hm : a + m ≤ B.length) (hm8 : m ≤ 8) (v : Int) : ∀ (n k i : Nat), n + i = m → sluiceref01_Put.l1 (k + 1 + n) (a : Int) (m : Int) v (grain_lay.go a v B i) (i : Int) = some (grain_lay.go a v B m, 0) := by
  intro n
  induction n with
  | zero =>
    intro k i hi
    obtain rfl : i = m := by omega
    rw [Nat.add_zero, sluiceref01_Put.l1, if_neg (by omega)]
  | succ n ih =>
    intro k i hi
    rw [show k + 1 + (n + 1) = (k + 1 + n) + 1 from by omega, sluiceref01_Put.l1, w64_id (n := 8 * (i : Int)) (by omega) (by omega), w64_id (n := (a : Int) + (i : Int)) (by omega) (by omega), w64_id (n := (i : Int) + 1) (by omega) (by omega)]
    rw [if_pos (by omega), if_pos (by omega), if_pos (by omega), if_pos (by rw [grain_lay.len]; omega), show 8 * (i : Int) = ((8 * i : Nat) : Int) from by omega, shr64 v (8 * i) (by omega), show ((a : Int) + (i : Int)).toNat = a + i from by omega, show (i : Int) + 1 = ((i + 1 : Nat) : Int) from by omega]
    exact ih k (i + 1) (by omega)
theorem there_val (n at_ w : Int) (h0 : 0 ≤ n) (h1 : n < 4611686018427387904) : sluiceref01_there.f n at_ w = some (decide (0 ≤ at_ ∧ at_ ≤ n ∧ w ≤ n - at_)) := by
  unfold sluiceref01_there.f
  by_cases c1 : at_ ≥ 0
  · rw [if_pos c1]
    by_cases c2 : at_ ≤ n
    · rw [if_pos c2, w64_id (by omega) (by omega)]
      congr 1
      by_cases c3 : w ≤ n - at_
      · rw [decide_eq_true (by omega), decide_eq_true ⟨by omega, c2, c3⟩]
      · rw [decide_eq_false (by omega), decide_eq_false (fun h => c3 h.2.2)]
    · rw [if_neg c2, decide_eq_false (fun h => c2 h.2.1)]
  · rw [if_neg c1, decide_eq_false (fun h => c1 h.1)]
theorem div0 (v p : Int) (hp : 0 < p) : v / p = 0 ↔ (0 ≤ v ∧ v < p) := by
  constructor
  · intro h
    have h1 := Int.emod_add_mul_ediv v p
    have h2 := Int.emod_nonneg v (Int.ne_of_gt hp)
    have h3 := Int.emod_lt_of_pos v hp
    rw [h, Int.mul_zero] at h1
    omega
  · rintro ⟨h1, h2⟩
    exact Int.ediv_eq_zero_of_lt h1 h2
theorem rput_val (B : List Int) (hL : B.length < 140737488355328) (at_ w v : Int) (h0 : 0 ≤ v) (h1 : v < 18446744073709551616) (k : Nat) (hk : B.length + 20 ≤ k) : sluiceref01_Put.f k B at_ w v = some (grain_Put.f B at_ w v) := by
  obtain ⟨k, rfl⟩ : ∃ k', k = (k' + 13) + B.length := ⟨k - B.length - 13, by omega⟩
  have e := rput_l0 B hL at_ w v B.length (k + 13) 0 (by omega)
  rw [List.take_zero] at e
  show sluiceref01_Put.l0 (k + 13 + B.length) B at_ w v [] ((0 : Nat) : Int) = _
  rw [e, sluiceref01_Put.l0, if_neg (by omega)]
  unfold grain_Put.f
  have j1t : sluiceref01_Put.j1 (k + 12) B at_ w v B true = some (B, 11) := by
    rw [sluiceref01_Put.j1, if_pos rfl]
  by_cases c1 : 1 ≤ w ∧ w ≤ 8
  · rw [if_pos c1, if_neg (by omega), decide_eq_false (by omega), sluiceref01_Put.j1, if_neg (by decide), there_val _ _ _ (by omega) (by omega), Option.bind_some]
    by_cases c2 : 0 ≤ at_ ∧ at_ ≤ (B.length : Int) ∧ w ≤ (B.length : Int) - at_
    · rw [if_pos c2, if_pos (decide_eq_true c2)]
      obtain ⟨m, rfl⟩ : ∃ m : Nat, w = m := ⟨w.toNat, by omega⟩
      obtain ⟨a, rfl⟩ : ∃ a : Nat, at_ = a := ⟨at_.toNat, by omega⟩
      rw [Int.toNat_natCast, Int.toNat_natCast]
      have go : ∀ b : Bool, (b = true ↔ ¬ v < 2 ^ (8 * m)) → sluiceref01_Put.j2 (k + 11) (a : Int) (m : Int) v B b = some (if v < 2 ^ (8 * m) then (grain_lay.go a v B m, 0) else (B, 12)) := by
        intro b hb
        rw [sluiceref01_Put.j2]
        by_cases c3 : v < 2 ^ (8 * m)
        · rw [if_neg (fun h => (hb.mp h) c3), if_pos c3]
          have := rput_l1 B hL a m (by omega) (by omega) v m (k + 10 - 1 - m) 0 (by omega)
          rw [show k + 10 - 1 - m + 1 + m = k + 10 from by omega] at this
          exact this
        · rw [if_pos (hb.mpr c3), if_neg c3]
      by_cases c4 : (m : Int) < 8
      · rw [if_pos c4, w64_id (n := 8 * (m : Int)) (by omega) (by omega), if_pos (by omega), show 8 * (m : Int) = ((8 * m : Nat) : Int) from by omega, shr64 v (8 * m) (by omega)]
        refine go _ ?_
        have hp : (0 : Int) < 2 ^ (8 * m) := Int.pow_pos (by decide)
        rw [bne_iff_ne, Ne, div0 v _ hp]
        omega
      · rw [if_neg c4]
        obtain rfl : m = 8 := by omega
        refine go false ?_
        have e8 : (2 : Int) ^ (8 * 8) = 18446744073709551616 := by decide
        constructor
        · intro h
          cases h
        · intro h
          omega
    · rw [if_neg c2, if_neg (by rw [decide_eq_false c2]; decide)]
  · rw [if_neg c1]
    by_cases c5 : w < 1
    · rw [if_pos c5, j1t]
    · rw [if_neg c5, decide_eq_true (by omega), j1t]
/-! ### Get -/
/-- The number that i bytes from a on make. -/
def gval (l : List Int) (a : Int) : Nat → Int
  | 0 => 0
  | i + 1 => gval l a i + 2 ^ (8 * i) * rd l (a + i)
theorem p8 (i : Nat) : (2 : Int) ^ (8 * (i + 1)) = 2 ^ (8 * i) * 256 := by
  rw [show 8 * (i + 1) = 8 * i + 8 from by omega, Int.pow_add]
  rfl
theorem p8_pos (i : Nat) : (0 : Int) < 2 ^ (8 * i) := Int.pow_pos (by decide)
theorem p8_le (i : Nat) (h : i ≤ 8) : (2 : Int) ^ (8 * i) ≤ 18446744073709551616 := by
  rw [pow_cast]
  have := Nat.pow_le_pow_right (by decide : 0 < 2) (show 8 * i ≤ 64 by omega)
  have e : 2 ^ 64 = 18446744073709551616 := by decide
  omega
theorem gval_lt (l : List Int) (hl : BytesL l) (a : Nat) : ∀ i, a + i ≤ l.length → 0 ≤ gval l a i ∧ gval l a i < 2 ^ (8 * i)
  | 0, _ => by rw [gval]; decide
  | i + 1, h => by
    obtain ⟨h0, h1⟩ := gval_lt l hl a i (by omega)
    obtain ⟨b0, b1⟩ := rd_bytes l hl ((a : Int) + i) (by omega) (by omega)
    have hp := p8_pos i
    rw [gval, p8]
    generalize rd l ((a : Int) + i) = b at b0 b1
    generalize (2 : Int) ^ (8 * i) = p at h1 hp
    generalize gval l (a : Int) i = g at h0 h1
    have m0 : 0 ≤ p * b := Int.mul_nonneg (by omega) b0
    have m1 : p * b ≤ p * 255 := Int.mul_le_mul_of_nonneg_left (by omega) (by omega)
    omega
theorem or_comm64 (x y : Int) (hx : 0 ≤ x) (hx' : x < 18446744073709551616) (hy : 0 ≤ y) (hy' : y < 18446744073709551616) : Go.bits .or .u64 x y = Go.bits .or .u64 y x := by
  have h1 := n64_or x.toNat y.toNat (by omega) (by omega)
  have h2 := n64_or y.toNat x.toNat (by omega) (by omega)
  rw [Nat.or_comm] at h2
  rw [show ((x.toNat : Nat) : Int) = x from by omega, show ((y.toNat : Nat) : Int) = y from by omega] at h1 h2
  rw [h1, h2]
theorem go_gval (l : List Int) (hl : BytesL l) (a : Nat) : ∀ i, i ≤ 8 → a + i ≤ l.length → grain_Get.go l (a : Int) i = gval l (a : Int) i
  | 0, _, _ => rfl
  | i + 1, h8, h => by
    obtain ⟨h0, h1⟩ := gval_lt l hl a i (by omega)
    obtain ⟨b0, b1⟩ := rd_bytes l hl ((a : Int) + i) (by omega) (by omega)
    have hp := p8_pos i
    have hq := p8_le (i + 1) h8
    have hq0 := p8_le i (by omega)
    rw [p8] at hq
    show Go.bits .or .u64 (grain_Get.go l (a : Int) i) (IntKind.u64.wrap (IntKind.u64.wrap (rd l ((a : Int) + i)) * 2 ^ (8 * i))) = gval l (a : Int) i + 2 ^ (8 * i) * rd l ((a : Int) + i)
    rw [go_gval l hl a i (by omega) (by omega)]
    have hmod : rd l ((a : Int) + i) * 2 ^ (8 * i) % 2 ^ (8 * i) = 0 := Int.mul_emod_left _ _
    have m0 : 0 ≤ rd l ((a : Int) + i) * 2 ^ (8 * i) := Int.mul_nonneg b0 (by omega)
    have m1 : rd l ((a : Int) + i) * 2 ^ (8 * i) ≤ 255 * 2 ^ (8 * i) := Int.mul_le_mul_of_nonneg_right (by omega) (by omega)
    have hlt : rd l ((a : Int) + i) * 2 ^ (8 * i) < 18446744073709551616 := by
      generalize rd l ((a : Int) + i) * 2 ^ (8 * i) = z at m0 m1
      generalize (2 : Int) ^ (8 * i) = p at *
      omega
    rw [u64_id (n := rd l _) (by omega) (by omega), u64_id m0 hlt, or_comm64 _ _ h0 (Int.lt_of_lt_of_le h1 hq0) m0 hlt, u64_join (8 * i) _ _ m0 hmod hlt h0 h1 (Int.lt_of_lt_of_le h1 hq0), Int.add_comm, Int.mul_comm]
def getR (l : List Int) (at_ w : Int) : Int × Int :=
  if 1 ≤ w ∧ w ≤ 8 then (if 0 ≤ at_ ∧ at_ ≤ (l.length : Int) ∧ w ≤ (l.length : Int) - at_ then (gval l at_ w.toNat, 0) else (0, 10)) else (0, 11)
theorem get_val (l : List Int) (hl : BytesL l) (at_ w : Int) (ha0 : -9223372036854775808 ≤ at_) (ha1 : at_ < 9223372036854775808) : grain_Get.f l at_ w = some (getR l at_ w) := by
  unfold grain_Get.f getR
  rw [if_pos ⟨ha0, ha1⟩]
  by_cases c1 : 1 ≤ w ∧ w ≤ 8
  · rw [if_pos c1, if_pos c1]
    by_cases c2 : 0 ≤ at_ ∧ at_ ≤ (l.length : Int) ∧ w ≤ (l.length : Int) - at_
    · rw [if_pos c2, if_pos c2]
      obtain ⟨a, rfl⟩ : ∃ a : Nat, at_ = a := ⟨at_.toNat, by omega⟩
      rw [go_gval l hl a w.toNat (by omega) (by omega)]
    · rw [if_neg c2, if_neg c2]
  · rw [if_neg c1, if_neg c1]
theorem rget_l0 (l : List Int) (hl : BytesL l) (hL : l.length < 140737488355328) (a m : Nat) (hm : a + m ≤ l.length) (hm8 : m ≤ 8) : ∀ (j k : Nat) (x : Int), j ≤ m → 0 ≤ x → gval l a j + 2 ^ (8 * j) * x = gval l a m →
    sluiceref01_Get.l0 (k + 1 + j) l (a : Int) x ((j : Int) - 1) = some (gval l a m, 0) := by
  intro j
  induction j with
  | zero =>
    intro k x _ hx h
    rw [Nat.add_zero, sluiceref01_Get.l0, if_neg (by omega)]
    have h' : 0 + 2 ^ (8 * 0) * x = gval l a m := h
    rw [Nat.mul_zero, Int.pow_zero] at h'
    rw [← h', Int.one_mul, Int.zero_add]
  | succ j ih =>
    intro k x hj hx h
    have hi : (a : Int) + j < l.length := by omega
    obtain ⟨b0, b1⟩ := rd_bytes l hl ((a : Int) + j) (by omega) hi
    obtain ⟨g0, g1⟩ := gval_lt l hl a j (by omega)
    obtain ⟨_, q1⟩ := gval_lt l hl a m hm
    have q2 := p8_le m hm8
    have hp := p8_pos j
    have e : gval l a (j + 1) = gval l a j + 2 ^ (8 * j) * rd l ((a : Int) + j) := rfl
    rw [e, p8] at h
    have h2 : gval l a j + 2 ^ (8 * j) * (x * 256 + rd l ((a : Int) + j)) = gval l a m := by
      rw [← h, Int.mul_add, Int.mul_assoc, Int.mul_comm x 256]
      omega
    have h3 : x * 256 + rd l ((a : Int) + j) < 18446744073709551616 := by
      have : 1 * (x * 256 + rd l ((a : Int) + j)) ≤ 2 ^ (8 * j) * (x * 256 + rd l ((a : Int) + j)) := Int.mul_le_mul_of_nonneg_right (by omega) (by omega)
      omega
    rw [show k + 1 + (j + 1) = (k + 1 + j) + 1 from by omega, sluiceref01_Get.l0, show ((j + 1 : Nat) : Int) - 1 = (j : Int) from by omega, if_pos (by omega), w64_id (n := (a : Int) + j) (by omega) (by omega), if_pos (by omega), if_pos hi, w64_id (n := (j : Int) - 1) (by omega) (by omega),
      u64_id (n := rd l _) (by omega) (by omega), u64_id (n := x * 256) (by omega) (by omega), u64_id (by omega) h3]
    exact ih k _ (by omega) (by omega) h2
theorem rget_val (l : List Int) (hl : BytesL l) (hL : l.length < 140737488355328) (at_ w : Int) (k : Nat) (hk : 20 ≤ k) : sluiceref01_Get.f k l at_ w = some (getR l at_ w) := by
  obtain ⟨k, rfl⟩ : ∃ k', k = k' + 13 := ⟨k - 13, by omega⟩
  unfold sluiceref01_Get.f getR
  by_cases c1 : 1 ≤ w ∧ w ≤ 8
  · rw [if_pos c1, if_neg (by omega), decide_eq_false (by omega), sluiceref01_Get.j0, if_neg (by decide), there_val _ _ _ (by omega) (by omega), Option.bind_some]
    by_cases c2 : 0 ≤ at_ ∧ at_ ≤ (l.length : Int) ∧ w ≤ (l.length : Int) - at_
    · rw [if_pos c2, if_pos (decide_eq_true c2)]
      obtain ⟨m, rfl⟩ : ∃ m : Nat, w = m := ⟨w.toNat, by omega⟩
      obtain ⟨a, rfl⟩ : ∃ a : Nat, at_ = a := ⟨at_.toNat, by omega⟩
      rw [Int.toNat_natCast, w64_id (by omega) (by omega)]
      have := rget_l0 l hl hL a m (by omega) (by omega) m (k + 12 - 1 - m) 0 (Nat.le_refl _) (Int.le_refl _) (by rw [Int.mul_zero, Int.add_zero])
      rw [show k + 12 - 1 - m + 1 + m = k + 12 from by omega] at this
      exact this
    · rw [if_neg c2, if_neg (by rw [decide_eq_false c2]; decide)]
  · rw [if_neg c1]
    by_cases c5 : w < 1
    · rw [if_pos c5, sluiceref01_Get.j0, if_pos rfl]
    · rw [if_neg c5, decide_eq_true (by omega), sluiceref01_Get.j0, if_pos rfl]
/-! ### with a sign -/
theorem eight (m : Nat) (h1 : 1 ≤ m) (h2 : m ≤ 8) : m = 1 ∨ m = 2 ∨ m = 3 ∨ m = 4 ∨ m = 5 ∨ m = 6 ∨ m = 7 ∨ m = 8 := by omega
/-- The number with a sign. -/
def sx (m : Nat) (u : Int) : Int := if m < 8 ∧ 2 ^ (8 * m - 1) ≤ u then u - 2 ^ (8 * m) else wrap64 u
theorem sx_shift (m : Nat) (h1 : 1 ≤ m) (h2 : m ≤ 8) (u : Int) (h0 : 0 ≤ u) (hu : u < 2 ^ (8 * m)) : wrap64 (wrap64 u * 2 ^ (64 - 8 * m)) / 2 ^ (64 - 8 * m) = sx m u := by
  unfold sx
  rcases eight m h1 h2 with rfl | rfl | rfl | rfl | rfl | rfl | rfl | rfl
  all_goals
    simp only [Nat.reduceMul, Nat.reduceSub, Int.reducePow, Int.reduceMul] at hu ⊢
    unfold wrap64
    split
    · omega
    · omega
theorem fit_shift (m : Nat) (h1 : 1 ≤ m) (h2 : m ≤ 8) (v : Int) (h0 : -9223372036854775808 ≤ v) (hv : v < 9223372036854775808) : (wrap64 (v * 2 ^ (64 - 8 * m)) / 2 ^ (64 - 8 * m) = v) ↔ (m = 8 ∨ (-(2 ^ (8 * m - 1)) ≤ v ∧ v < 2 ^ (8 * m - 1))) := by
  rcases eight m h1 h2 with rfl | rfl | rfl | rfl | rfl | rfl | rfl | rfl
  all_goals
    simp only [Nat.reduceMul, Nat.reduceSub, Int.reducePow, Int.reduceMul, Int.reduceNeg]
    unfold wrap64
    omega
theorem shl_i (x : Int) (j : Nat) (hj : j ≤ 64) : shl .i64 x (j : Int) = wrap64 (x * 2 ^ j) := by
  unfold shl
  rw [Int.toNat_natCast, show IntKind.i64.bits = 64 from rfl, Nat.min_eq_left hj]
  exact i64_w _
theorem shr_i (x : Int) (j : Nat) (hj : j ≤ 64) : shr .i64 x (j : Int) = x / 2 ^ j := by
  unfold shr
  rw [Int.toNat_natCast, show IntKind.i64.bits = 64 from rfl, Nat.min_eq_left hj]
theorem shl_u (x : Int) (j : Nat) (hj : j ≤ 64) : shl .u64 x (j : Int) = IntKind.u64.wrap (x * 2 ^ j) := by
  unfold shl
  rw [Int.toNat_natCast, show IntKind.u64.bits = 64 from rfl, Nat.min_eq_left hj]
def getIntR (l : List Int) (at_ w : Int) : Int × Int := if (getR l at_ w).2 = 0 then (sx w.toNat (getR l at_ w).1, 0) else (0, (getR l at_ w).2)
theorem getR_ok (l : List Int) (hl : BytesL l) (at_ w : Int) (h : (getR l at_ w).2 = 0) : 1 ≤ w ∧ w ≤ 8 ∧ 0 ≤ (getR l at_ w).1 ∧ (getR l at_ w).1 < 2 ^ (8 * w.toNat) := by
  unfold getR at h ⊢
  by_cases c1 : 1 ≤ w ∧ w ≤ 8
  · rw [if_pos c1] at h ⊢
    by_cases c2 : 0 ≤ at_ ∧ at_ ≤ (l.length : Int) ∧ w ≤ (l.length : Int) - at_
    · rw [if_pos c2] at h ⊢
      obtain ⟨a, rfl⟩ : ∃ a : Nat, at_ = a := ⟨at_.toNat, by omega⟩
      obtain ⟨g0, g1⟩ := gval_lt l hl a w.toNat (by omega)
      exact ⟨c1.1, c1.2, g0, g1⟩
    · rw [if_neg c2] at h
      exact absurd h (by decide)
  · rw [if_neg c1] at h
    exact absurd h (by decide)
theorem getint_val (l : List Int) (hl : BytesL l) (at_ w : Int) (ha0 : -9223372036854775808 ≤ at_) (ha1 : at_ < 9223372036854775808) : grain_GetInt.f l at_ w = some (getIntR l at_ w) := by
  unfold grain_GetInt.f getIntR
  rw [get_val l hl at_ w ha0 ha1, Option.bind_some]
  by_cases h : (getR l at_ w).2 = 0
  · obtain ⟨h1, h2, h3, h4⟩ := getR_ok l hl at_ w h
    obtain ⟨m, rfl⟩ : ∃ m : Nat, w = m := ⟨w.toNat, by omega⟩
    rw [Int.toNat_natCast] at h4 ⊢
    rw [if_pos h, if_pos h, w64_id (n := 8 * (m : Int)) (by omega) (by omega), w64_id (n := 64 - 8 * (m : Int)) (by omega) (by omega), if_pos (by omega), show 64 - 8 * (m : Int) = ((64 - 8 * m : Nat) : Int) from by omega, shl_i _ _ (by omega), shr_i _ _ (by omega), sx_shift m (by omega) (by omega) _ h3 h4]
  · rw [if_neg h, if_neg h]
theorem rgetint_val (l : List Int) (hl : BytesL l) (hL : l.length < 140737488355328) (at_ w : Int) (k : Nat) (hk : 20 ≤ k) : sluiceref01_GetInt.f k l at_ w = some (getIntR l at_ w) := by
  unfold sluiceref01_GetInt.f getIntR
  rw [rget_val l hl hL at_ w k hk, Option.bind_some]
  by_cases h : (getR l at_ w).2 = 0
  · obtain ⟨h1, h2, h3, h4⟩ := getR_ok l hl at_ w h
    obtain ⟨m, rfl⟩ : ∃ m : Nat, w = m := ⟨w.toNat, by omega⟩
    rw [Int.toNat_natCast] at h4 ⊢
    rw [if_pos h, if_pos h]
    generalize (getR l at_ (m : Int)).1 = u at h3 h4
    unfold sx
    by_cases c : (m : Int) < 8
    · rw [if_pos c, w64_id (n := 8 * (m : Int)) (by omega) (by omega), w64_id (n := 8 * (m : Int) - 1) (by omega) (by omega), if_pos (by omega), show 8 * (m : Int) - 1 = ((8 * m - 1 : Nat) : Int) from by omega, shl_u _ _ (by omega), show 8 * (m : Int) = ((8 * m : Nat) : Int) from by omega, shl_i _ _ (by omega)]
      rcases eight m (by omega) (by omega) with rfl | rfl | rfl | rfl | rfl | rfl | rfl | rfl
      all_goals first | omega | skip
      all_goals
        simp only [Nat.reduceMul, Nat.reduceSub, Nat.reduceLT, Int.reducePow, Int.reduceMul, true_and] at h4 ⊢
        rw [wrap_u64]
        split
        · rw [if_pos (by omega), if_pos (by omega)]
          congr 2
          unfold wrap64
          omega
        · rw [if_neg (by omega)]
    · rw [if_neg c, if_neg (by omega)]
  · rw [if_neg h, if_neg h]
/-! ### PutInt -/
theorem lay_mod (a : Nat) (v : Int) (B : List Int) (m : Nat) : ∀ i, i ≤ m → grain_lay.go a (v % 2 ^ (8 * m)) B i = grain_lay.go a v B i
  | 0, _ => rfl
  | i + 1, h => by
    show (grain_lay.go a (v % 2 ^ (8 * m)) B i).set _ _ = (grain_lay.go a v B i).set _ _
    rw [lay_mod a v B m i (by omega)]
    congr 1
    obtain ⟨d, rfl⟩ : ∃ d, m = i + 1 + d := ⟨m - i - 1, by omega⟩
    have hp := p8_pos i
    have e : (2 : Int) ^ (8 * (i + 1 + d)) = 2 ^ (8 * i) * (256 * 2 ^ (8 * d)) := by
      rw [show 8 * (i + 1 + d) = 8 * i + (8 + 8 * d) from by omega, Int.pow_add, Int.pow_add]
      rfl
    have h2 := Int.emod_add_mul_ediv v (2 ^ (8 * (i + 1 + d)))
    generalize hr : v % 2 ^ (8 * (i + 1 + d)) = r at h2 ⊢
    generalize v / 2 ^ (8 * (i + 1 + d)) = q at h2
    rw [← h2, e, Int.mul_assoc, Int.add_mul_ediv_left _ _ (Int.ne_of_gt hp), Int.mul_assoc, Int.add_mul_emod_self_left]
theorem rputint_l0 (B : List Int) (hL : B.length < 140737488355328) (at_ w v : Int) : ∀ (n k i : Nat) (X : List Int), n + i = B.length → X.length = B.length → X.take i = B.take i → sluiceref01_PutInt.l0 (k + n) B at_ w v X (i : Int) = sluiceref01_PutInt.l0 k B at_ w v B (B.length : Int) := by
  intro n
  induction n with
  | zero =>
    intro k i X hi hX ht
    obtain rfl : i = B.length := by omega
    rw [List.take_length, List.take_of_length_le (by omega)] at ht
    rw [ht, Nat.add_zero]
  | succ n ih =>
    intro k i X hi hX ht
    have hlt : i < B.length := by omega
    rw [show k + (n + 1) = (k + n) + 1 from by omega]
    conv => lhs; rw [sluiceref01_PutInt.l0]
    rw [if_pos (by omega), if_pos (by omega), if_pos (by omega), rd_nat B i hlt, Int.toNat_natCast, w64_id (by omega) (by omega), show (i : Int) + 1 = ((i + 1 : Nat) : Int) from by omega]
    refine ih k (i + 1) _ (by omega) (by rw [List.length_set]; exact hX) ?_
    rw [List.take_succ_eq_append_getElem (by rw [List.length_set]; omega), List.take_succ_eq_append_getElem hlt, List.getElem_set_self]
    congr 1
    rw [← ht]
    apply List.ext_getElem?
    intro j
    rw [List.getElem?_take, List.getElem?_take]
    by_cases hj : j < i
    · rw [if_pos hj, if_pos hj, List.getElem?_set_ne (by omega)]
    · rw [if_neg hj, if_neg hj]
theorem wneg (x : Int) (h0 : 0 ≤ x) (h1 : x < 9223372036854775808) : wrap64 (-(wrap64 x)) = -x := by
  rw [w64_id (n := x) (by omega) h1, w64_id (by omega) (by omega)]
theorem put_fit (B : List Int) (at_ w v : Int) (h1 : 1 ≤ w ∧ w ≤ 8) (h2 : 0 ≤ at_ ∧ at_ ≤ (B.length : Int) ∧ w ≤ (B.length : Int) - at_) (h : v < 2 ^ (8 * w.toNat)) : grain_Put.f B at_ w v = (grain_lay.go at_.toNat v B w.toNat, 0) := by
  unfold grain_Put.f
  rw [if_pos h1, if_pos h2, if_pos h]
theorem rputint_val (B : List Int) (hL : B.length < 140737488355328) (at_ w v : Int) (h0 : -9223372036854775808 ≤ v) (hv : v < 9223372036854775808) (k : Nat) (hk : 2 * B.length + 40 ≤ k) : sluiceref01_PutInt.f k B at_ w v = some (grain_PutInt.f B at_ w v) := by
  unfold sluiceref01_PutInt.f grain_PutInt.f
  rw [rput_val B hL at_ w 0 (by decide) (by decide) k (by omega), Option.bind_some]
  by_cases c1 : 1 ≤ w ∧ w ≤ 8
  · by_cases c2 : 0 ≤ at_ ∧ at_ ≤ (B.length : Int) ∧ w ≤ (B.length : Int) - at_
    · rw [if_pos c1, if_pos c2, put_fit B at_ w 0 c1 c2 (Int.pow_pos (by decide)), if_pos rfl]
      obtain ⟨m, rfl⟩ : ∃ m : Nat, w = m := ⟨w.toNat, by omega⟩
      obtain ⟨a, rfl⟩ : ∃ a : Nat, at_ = a := ⟨at_.toNat, by omega⟩
      rw [Int.toNat_natCast, Int.toNat_natCast]
      obtain ⟨k, rfl⟩ : ∃ k', k = (k' + 1) + B.length := ⟨k - B.length - 1, by omega⟩
      have e := rputint_l0 B hL (a : Int) (m : Int) v B.length (k + 1) 0 (grain_lay.go a 0 B m) (by omega) (grain_lay.len _ _ _ _) (by rw [List.take_zero, List.take_zero])
      have e0 : ((0 : Nat) : Int) = 0 := rfl
      rw [e0] at e
      rw [e, sluiceref01_PutInt.l0, if_neg (by omega)]
      have hw0 : 0 ≤ IntKind.u64.wrap v ∧ IntKind.u64.wrap v < 18446744073709551616 := by rw [wrap_u64]; omega
      have fin : ∀ V : Int, 0 ≤ V → V < 2 ^ (8 * m) → V < 18446744073709551616 → (grain_lay.go a V B m = grain_lay.go a (IntKind.u64.wrap v) B m) →
          ((sluiceref01_Put.f k B (a : Int) (m : Int) V).bind fun bt => some (bt.1, bt.2)) = some (grain_lay.go a (IntKind.u64.wrap v) B m, (0 : Int)) := by
        intro V v0 v1 v2 he
        rw [rput_val B hL a m V v0 v2 k (by omega), Option.bind_some, put_fit B a m V c1 c2 (by rw [Int.toNat_natCast]; exact v1), Int.toNat_natCast, Int.toNat_natCast, he]
      by_cases c3 : wrap64 (v * 2 ^ (64 - 8 * m)) / 2 ^ (64 - 8 * m) = v
      · rw [if_pos c3]
        have hf := (fit_shift m (by omega) (by omega) v h0 hv).mp c3
        by_cases c4 : (m : Int) < 8
        · have hf2 : -(2 ^ (8 * m - 1)) ≤ v ∧ v < 2 ^ (8 * m - 1) := by
            rcases hf with h | h
            · omega
            · exact h
          have hfin := fin (IntKind.u64.wrap v % 2 ^ (8 * m)) (Int.emod_nonneg _ (Int.ne_of_gt (p8_pos m))) (Int.emod_lt_of_pos _ (p8_pos m)) (Int.lt_of_lt_of_le (Int.emod_lt_of_pos _ (p8_pos m)) (p8_le m (by omega))) (lay_mod a _ B m m (Nat.le_refl _))
          rw [if_pos c4, w64_id (n := 8 * (m : Int)) (by omega) (by omega), w64_id (n := 8 * (m : Int) - 1) (by omega) (by omega), if_pos (by omega), show 8 * (m : Int) - 1 = ((8 * m - 1 : Nat) : Int) from by omega, shl_i _ _ (by omega), show 8 * (m : Int) = ((8 * m : Nat) : Int) from by omega, shl_u _ _ (by omega)]
          rw [tmod_nonneg _ _ hw0.1]
          rcases eight m (by omega) (by omega) with rfl | rfl | rfl | rfl | rfl | rfl | rfl | rfl
          all_goals first | omega | skip
          all_goals
            simp only [Nat.reduceMul, Nat.reduceSub, Int.reducePow, Int.reduceMul] at hf2 hfin ⊢
            rw [wneg _ (by decide) (by decide), w64_id (by decide) (by decide), if_neg (by omega), if_neg (by omega), if_pos (by omega), u64_id (n := _) (by decide) (by decide), if_neg (by decide)]
            exact hfin
        · rw [if_neg c4]
          obtain rfl : m = 8 := by omega
          exact fin _ hw0.1 (by have : (2 : Int) ^ (8 * 8) = 18446744073709551616 := by decide
                                rw [this]; exact hw0.2) hw0.2 rfl
      · rw [if_neg c3]
        have hf := fun h => c3 ((fit_shift m (by omega) (by omega) v h0 hv).mpr h)
        have c4 : (m : Int) < 8 := by
          have : ¬ m = 8 := fun h => hf (.inl h)
          omega
        have hf2 : ¬ (-(2 ^ (8 * m - 1)) ≤ v ∧ v < 2 ^ (8 * m - 1)) := fun h => hf (.inr h)
        rw [if_pos c4, w64_id (n := 8 * (m : Int)) (by omega) (by omega), w64_id (n := 8 * (m : Int) - 1) (by omega) (by omega), if_pos (by omega), show 8 * (m : Int) - 1 = ((8 * m - 1 : Nat) : Int) from by omega, shl_i _ _ (by omega)]
        clear hf c3 fin
        rcases eight m (by omega) (by omega) with rfl | rfl | rfl | rfl | rfl | rfl | rfl | rfl
        all_goals first | omega | skip
        all_goals
          simp only [Nat.reduceMul, Nat.reduceSub, Int.reducePow, Int.reduceMul] at hf2 ⊢
          rw [wneg _ (by decide) (by decide)]
          split
          · rfl
          · rw [if_pos (by rw [w64_id (by decide) (by decide)]; omega)]
    · rw [if_pos c1, if_neg c2]
      have : grain_Put.f B at_ w 0 = (B, 10) := by unfold grain_Put.f; rw [if_pos c1, if_neg c2]
      rw [this]
      rfl
  · rw [if_neg c1]
    have : grain_Put.f B at_ w 0 = (B, 11) := by unfold grain_Put.f; rw [if_neg c1]
    rw [this]
    rfl
/-! ### the law -/
theorem put_len (B : List Int) (hB : BytesL B) (at_ w v : Int) : (grain_Put.f B at_ w v).1.length = B.length ∧ BytesL (grain_Put.f B at_ w v).1 := by
  unfold grain_Put.f
  split
  · split
    · split
      · exact ⟨grain_lay.len _ _ _ _, lay_bytes _ _ _ hB _⟩
      · exact ⟨rfl, hB⟩
    · exact ⟨rfl, hB⟩
  · exact ⟨rfl, hB⟩
theorem putint_len (B : List Int) (hB : BytesL B) (at_ w v : Int) : (grain_PutInt.f B at_ w v).1.length = B.length ∧ BytesL (grain_PutInt.f B at_ w v).1 := by
  unfold grain_PutInt.f
  split
  · split
    · split
      · exact ⟨grain_lay.len _ _ _ _, lay_bytes _ _ _ hB _⟩
      · exact ⟨rfl, hB⟩
    · exact ⟨rfl, hB⟩
  · exact ⟨rfl, hB⟩
/-- The law. -/
theorem packs_all (A0 : Option Addr) (c0 : Nat) (B : List Int) (at_ width V : Int) (w : World) (hr0 : (Kd.int .u8).C w A0 B.length B) (hc0 : B.length ≤ c0) (hB : BytesL B) (hL : B.length + 2 < 140737488355328) (ha0 : -9223372036854775808 ≤ at_) (ha1 : at_ < 9223372036854775808) (hV0 : 0 ≤ V) (hV1 : V < 18446744073709551616) :
    Calls Try.prog 8 #[.agg #[.slice A0 B.length c0, .int .i64 at_, .int .i64 width, .int .u64 V]] w fun e w' => e = .returned (.bool true) ∧ Below w.heap.size w w' := by
  obtain ⟨kL, L, hLn, hLf⟩ := len64_ok V hV0 hV1
  have hw : -9223372036854775808 ≤ wrap64 V ∧ wrap64 V < 9223372036854775808 := by unfold wrap64; omega
  obtain ⟨x1, x2⟩ := put_len B hB at_ width V
  obtain ⟨y1, y2⟩ := putint_len B hB at_ width (wrap64 V)
  exact packs_calls (2 * B.length + 40) A0 c0 B at_ width V kL L _ _ _ _ _ _ _ _ w hr0 hc0 hL ha0 ha1 hV0 hV1 hLn hLf rfl (rput_val B (by omega) at_ width V hV0 hV1 _ (by omega)) x1
    (get_val _ x2 at_ width ha0 ha1) (rget_val _ x2 (by omega) at_ width _ (by omega)) rfl (rputint_val B (by omega) at_ width _ hw.1 hw.2 _ (by omega)) y1 (getint_val _ y2 at_ width ha0 ha1) (rgetint_val _ y2 (by omega) at_ width _ (by omega))
end Go.Proofs.Ytdnofpafojjjaaa.Pure
