/- GrainPlaced, the pure part, for lists of at most 1048576 numbers: a list written over in its place and asked again. Conditions: the length. -/
import Derived.Test.YtdnofpafojjjaaaDoorWalkGrainPlaced
import Derived.Test.YtdnofpafojjjaaaDoorCrc
namespace Go.Proofs.YtdnofpafojjjaaaDoor.Pure
open Go.RowKit Go.Proofs.YtdnofpafojjjaaaDoor.QGrainPlaced Go.Proofs.YtdnofpafojjjaaaDoorW.PrintWords Go.Proofs.YtdnofpafojjjaaaDoorW.PrintLast Go.Proofs.YtdnofpafojjjaaaDoorW.PrintMore
open Go.Proofs.YtdnofpafojjjaaaDoor.Num Go.Proofs.YtdnofpafojjjaaaDoor.Crc
set_option linter.unusedVariables false
set_option linter.unusedSimpArgs false
theorem steps8_val (x : Nat) (h : x < 4294967296) : grain_steps8.f (x : Int) = some ((D 8 x : Nat) : Int) := by
  have e1 : grain_steps8.s4 (x : Int) = ((D 4 x : Nat) : Int) := four x h
  have h2 : D 4 x < 4294967296 := (D_ok 4 x h).1
  have e2 : grain_steps8.s4 ((D 4 x : Nat) : Int) = ((D 4 (D 4 x) : Nat) : Int) := four _ h2
  show some (grain_steps8.s4 (grain_steps8.s4 (x : Int))) = _
  rw [e1, e2, ← D_add]
def BytesL (l : List Int) : Prop := ∀ c ∈ l, 0 ≤ c ∧ c < 256
theorem rd_nat (l : List Int) (i : Nat) (h : i < l.length) : rd l (i : Int) = l[i] := by
  show l.getD (i : Int).toNat 0 = _
  rw [Int.toNat_natCast, List.getD_eq_getElem?_getD, List.getElem?_eq_getElem h]
  rfl
theorem more_l0 (l : List Int) (hl : BytesL l) (hL : l.length < 1000000000000000) : ∀ (n k i r : Nat), n + i = l.length → n + 1 ≤ k → r < 4294967296 →
    grain_More.l0 k (r : Int) l (l.length : Int) (i : Int) = some (((run r (l.drop i) ^^^ 4294967295 : Nat)) : Int) := by
  intro n
  induction n with
  | zero =>
    intro k i r hn hk hr
    obtain ⟨k, rfl⟩ : ∃ m, k = m + 1 := ⟨k - 1, by omega⟩
    have hi : i = l.length := by omega
    unfold grain_More.l0
    rw [if_neg (by omega), List.drop_of_length_le (by omega)]
    show some (Go.bits .xor .u32 ((4294967295 : Nat) : Int) (r : Int)) = _
    rw [n32_xor _ _ (by decide) hr, Nat.xor_comm]
    rfl
  | succ n ih =>
    intro k i r hn hk hr
    obtain ⟨k, rfl⟩ : ∃ m, k = m + 1 := ⟨k - 1, by omega⟩
    have hi : i < l.length := by omega
    unfold grain_More.l0
    rw [if_pos (by omega), if_pos (by omega), if_pos (by omega), rd_nat l i hi]
    obtain ⟨c0, c1⟩ := hl l[i] (List.getElem_mem hi)
    have hc : l[i] % 4294967296 = (l[i].toNat : Int) := by omega
    rw [hc, n32_xor _ _ hr (by omega)]
    have hx : r ^^^ l[i].toNat < 4294967296 := Nat.xor_lt_two_pow (n := 32) hr (by omega)
    rw [steps8_val _ hx]
    show grain_More.l0 k ((D 8 (r ^^^ l[i].toNat) : Nat) : Int) l (l.length : Int) (wrap64 ((i : Int) + 1)) = _
    rw [w64_id (by omega) (by omega), show (i : Int) + 1 = ((i + 1 : Nat) : Int) from by omega, ih k (i + 1) _ (by omega) (by omega) ((D_ok 8 _ hx).1), List.drop_eq_getElem_cons hi]
    rfl
theorem more_val (l : List Int) (hl : BytesL l) (hL : l.length < 1000000000000000) (k a : Nat) (hk : l.length + 1 ≤ k) (ha : a < 4294967296) :
    grain_More.f k (a : Int) l = some (((run (a ^^^ 4294967295) l ^^^ 4294967295 : Nat)) : Int) := by
  show grain_More.l0 k (Go.bits .xor .u32 ((4294967295 : Nat) : Int) (a : Int)) l (l.length : Int) ((0 : Nat) : Int) = _
  rw [n32_xor _ _ (by decide) ha, Nat.xor_comm, more_l0 l hl hL l.length k 0 _ (by omega) hk (Nat.xor_lt_two_pow (n := 32) ha (by decide))]
  rfl
/-- The sum of a row. -/
def crc (l : List Int) : Nat := run 4294967295 l ^^^ 4294967295
theorem crc_lt (l : List Int) (hl : BytesL l) : crc l < 4294967296 := Nat.xor_lt_two_pow (n := 32) (run_lt l hl _ (by decide)) (by decide)
theorem crc_one (l : List Int) (hl : BytesL l) (hL : l.length < 1000000000000000) (k : Nat) (hk : l.length + 2 ≤ k) : grain_CRC.f k [l] = some ((crc l : Nat) : Int) := by
  obtain ⟨k, rfl⟩ : ∃ m, k = m + 2 := ⟨k - 2, by omega⟩
  unfold grain_CRC.f
  unfold grain_CRC.l0
  rw [if_pos (by simp), if_pos (by decide), if_pos (by simp)]
  have e : grain_More.f (k + 1) 0 (rd_L1 [l] 0) = some ((crc l : Nat) : Int) := by
    have := more_val l hl hL (k + 1) 0 (by omega) (by decide)
    rw [Nat.zero_xor] at this
    exact this
  rw [e]
  show grain_CRC.l0 (k + 1) ((crc l : Nat) : Int) [l] ((([l] : List (List Int)).length : Nat) : Int) (wrap64 (0 + 1)) = _
  unfold grain_CRC.l0
  rw [if_neg (by rw [w64_id (by decide) (by decide)]; simp)]
/-! ### The exact sum -/
def sumI : List Int → Int
  | [] => 0
  | x :: r => x + sumI r
theorem sumI_append (a b : List Int) : sumI (a ++ b) = sumI a + sumI b := by
  induction a with
  | nil => simp [sumI]
  | cons x r ih => simp only [List.cons_append, sumI, ih]; omega
theorem sumI_reverse (a : List Int) : sumI a.reverse = sumI a := by
  induction a with
  | nil => rfl
  | cons x r ih => simp only [List.reverse_cons, sumI_append, sumI, ih]; omega
theorem sumI_nil : sumI [] = 0 := rfl
theorem sumI_cons (x : Int) (r : List Int) : sumI (x :: r) = x + sumI r := rfl
attribute [irreducible] sumI
/-- All in 64 bits. -/
def In64 (l : List Int) : Prop := ∀ x ∈ l, -9223372036854775808 ≤ x ∧ x < 9223372036854775808
theorem In64.tail {x : Int} {r : List Int} (h : In64 (x :: r)) : In64 r := fun y hy => h y (List.mem_cons_of_mem _ hy)
theorem In64.head {x : Int} {r : List Int} (h : In64 (x :: r)) : -9223372036854775808 ≤ x ∧ x < 9223372036854775808 := h x (List.mem_cons_self ..)
theorem In64.of_wf {l : List Int} (h : ∀ x ∈ l, (Lit.int .i64 x).wf = true) : In64 l := fun x hx => wf_i64 (h x hx)
theorem sumI_bound (l : List Int) (h : In64 l) : -(9223372036854775808 * (l.length : Int)) ≤ sumI l ∧ sumI l ≤ 9223372036854775808 * (l.length : Int) := by
  induction l with
  | nil => simp [sumI_nil]
  | cons x r ih =>
    have h1 := h.head
    have h2 := ih h.tail
    simp only [sumI_cons, List.length_cons]
    omega

theorem go_eq : ∀ (l : List Int) (hi lo : Int), In64 l → 0 ≤ hi → hi < 18446744073709551616 → 0 ≤ lo → lo < 18446744073709551616 →
    0 ≤ (grain_Total.go l hi lo).1 ∧ (grain_Total.go l hi lo).1 < 18446744073709551616 ∧ 0 ≤ (grain_Total.go l hi lo).2 ∧ (grain_Total.go l hi lo).2 < 18446744073709551616 ∧
      (grain_Total.go l hi lo).1 * 18446744073709551616 + (grain_Total.go l hi lo).2 = (hi * 18446744073709551616 + lo + sumI l) % 340282366920938463463374607431768211456 := by
  intro l
  induction l with
  | nil =>
    intro hi lo _ h0 h1 h2 h3
    simp only [grain_Total.go, sumI_nil]
    refine ⟨h0, h1, h2, h3, ?_⟩
    omega
  | cons x r ih =>
    intro hi lo hl h0 h1 h2 h3
    have hx := hl.head
    simp only [grain_Total.go, sumI_cons]
    rw [wrap_u64, wrap_u64]
    have := ih ((hi + x / 9223372036854775808 % 18446744073709551616 + (lo + x % 18446744073709551616) / 18446744073709551616) % 18446744073709551616) ((lo + x % 18446744073709551616) % 18446744073709551616) hl.tail (by omega) (by omega) (by omega) (by omega)
    obtain ⟨a1, a2, a3, a4, a5⟩ := this
    refine ⟨a1, a2, a3, a4, a5.trans ?_⟩
    generalize sumI r = s
    by_cases c : 0 ≤ x
    · have e1 : x / 9223372036854775808 = 0 := by omega
      have e2 : x % 18446744073709551616 = x := by omega
      rw [e1, e2]
      omega
    · have e1 : x / 9223372036854775808 = -1 := by omega
      have e2 : x % 18446744073709551616 = x + 18446744073709551616 := by omega
      rw [e1, e2]
      omega

/-- What a checked number tells. -/
def mulr (p : Int) : Int × Int := if -9223372036854775808 ≤ p ∧ p < 9223372036854775808 then (p, 0) else (0, 13)
theorem total_eq (l : List Int) (h : In64 l) (hl : l.length ≤ 140737488355328) : grain_Total.f l = some (mulr (sumI l)) := by
  unfold grain_Total.f
  rw [if_pos hl]
  congr 1
  obtain ⟨a1, a2, a3, a4, a5⟩ := go_eq l 0 0 h (by decide) (by decide) (by decide) (by decide)
  have hb := sumI_bound l h
  generalize grain_Total.go l 0 0 = p at *
  obtain ⟨hi, lo⟩ := p
  simp only at a1 a2 a3 a4 a5
  unfold grain_Total.fin mulr
  simp only
  generalize sumI l = T at *
  have hT : -1298074214633706907132624082305024 ≤ T ∧ T ≤ 1298074214633706907132624082305024 := by omega
  rw [wrap_u64]
  have a6 : hi * 18446744073709551616 + lo = T % 340282366920938463463374607431768211456 := by rw [a5]; congr 1; omega
  clear a5 hb
  by_cases c : -9223372036854775808 ≤ T ∧ T < 9223372036854775808
  · rw [if_pos c]
    have e1 : wrap64 lo = T := by unfold wrap64; omega
    rw [e1]
    have : hi = T / 9223372036854775808 % 18446744073709551616 := by omega
    rw [if_pos this]
  · rw [if_neg c]
    refine if_neg ?_
    intro hx
    by_cases c2 : lo < 9223372036854775808
    · have e1 : wrap64 lo = lo := by unfold wrap64; omega
      rw [e1] at hx
      have e2 : lo / 9223372036854775808 = 0 := by omega
      rw [e2] at hx
      omega
    · have e1 : wrap64 lo = lo - 18446744073709551616 := by unfold wrap64; omega
      rw [e1] at hx
      have e2 : (lo - 18446744073709551616) / 9223372036854775808 = -1 := by omega
      rw [e2] at hx
      omega
theorem sumI_take (l : List Int) (i : Nat) (h : i < l.length) : sumI (l.take (i + 1)) = sumI (l.take i) + l[i] := by
  rw [List.take_succ_eq_append_getElem h, sumI_append]; simp [sumI_cons, sumI_nil]
theorem ref_loop (l : List Int) (hl : l.length ≤ 1048576) (h : In64 l) (k : Nat) : ∀ (n i : Nat) (hi lo : Int), i + n = l.length → 0 ≤ lo → lo < 4294967296 →
    -(2147483648 * (i : Int)) ≤ hi → hi ≤ 2147483648 * (i : Int) → hi * 4294967296 + lo = sumI (l.take i) →
    sluiceref01_Total.l0 (k + 1 + n) l hi lo i = some (mulr (sumI l)) := by
  intro n
  induction n with
  | zero =>
    intro i hi lo hin h0 h1 h2 h3 hs
    have e : i = l.length := by omega
    subst e
    rw [List.take_length] at hs
    rw [Nat.add_zero, sluiceref01_Total.l0, if_neg (by omega)]
    unfold mulr
    by_cases c1 : hi < -2147483648
    · rw [if_pos c1, if_neg (by omega)]
    rw [if_neg c1]
    by_cases c2 : hi ≥ 2147483648
    · rw [if_pos c2, if_neg (by omega)]
    rw [if_neg c2, if_pos (by omega), w64_id (n := hi * 4294967296) (by omega) (by omega), w64_id (by omega) (by omega), hs]
  | succ n ih =>
    intro i hi lo hin h0 h1 h2 h3 hs
    have hlt : i < l.length := by omega
    have hx := h l[i] (List.getElem_mem hlt)
    have hst := sumI_take l i hlt
    have e : k + 1 + (n + 1) = (k + 1 + n) + 1 := by omega
    rw [e, sluiceref01_Total.l0, if_pos (by omega), if_pos (by omega), rd_nat l i hlt]
    generalize l[i] = x at hx hst ⊢
    have hs' : (hi + x / 4294967296 + (lo + x % 4294967296) / 4294967296) * 4294967296 + (lo + x % 4294967296) % 4294967296 = sumI (l.take (i + 1)) := by
      rw [hst, ← hs]
      clear hst hs
      omega
    clear hst hs
    rw [show wrap64 (hi + x / 4294967296) = hi + x / 4294967296 from w64_id (by omega) (by omega)]
    rw [show wrap64 (wrap64 (lo + x) - wrap64 (x / 4294967296 * 4294967296)) = lo + x % 4294967296 by unfold wrap64; omega]
    rw [show wrap64 ((i : Int) + 1) = ((i + 1 : Nat) : Int) by rw [w64_id (by omega) (by omega)]; omega]
    rw [show wrap64 (hi + x / 4294967296 + (lo + x % 4294967296) / 4294967296) = hi + x / 4294967296 + (lo + x % 4294967296) / 4294967296 from w64_id (by omega) (by omega)]
    rw [show Int.tmod (lo + x % 4294967296) 4294967296 = (lo + x % 4294967296) % 4294967296 from tmod_nonneg _ _ (by omega)]
    refine ih (i + 1) _ _ ?_ ?_ ?_ ?_ ?_ hs'
    all_goals
      clear hs'
      omega
theorem ref_eq (l : List Int) (hl : l.length ≤ 1048576) (h : In64 l) (k : Nat) : sluiceref01_Total.f (k + 1 + l.length) l = some (mulr (sumI l)) := by
  unfold sluiceref01_Total.f
  have := ref_loop l hl h k l.length 0 0 0 (by omega) (by decide) (by decide) (by omega) (by omega) (by simp [sumI_nil])
  simpa using this

/-! ### the document's sum of bytes -/
theorem down_val (x : Nat) (h : x < 4294967296) : sluiceref01_down.f (x : Int) = some ((d x : Nat) : Int) := by
  unfold sluiceref01_down.f
  rw [tmod_nonneg _ _ (by omega), tdiv_nonneg _ _ (by omega), show (x : Int) / 2 % 4294967296 = ((x / 2 : Nat) : Int) from by omega]
  have := n32_xor (x / 2) 3988292384 (by omega) (by decide)
  unfold d
  split
  · rw [if_pos (by omega)]
    exact congrArg some this
  · rw [if_neg (by omega), Nat.xor_zero]
theorem rmore_l1 (l : List Int) (i : Int) : ∀ (n : Nat) (k : Nat) (r : Nat) (j : Int), r < 4294967296 → (n : Int) + j = 8 → 0 ≤ j →
    sluiceref01_More.l1 (k + 1 + n) l (r : Int) i j = sluiceref01_More.l0 k l ((D n r : Nat) : Int) (wrap64 (i + 1)) := by
  intro n
  induction n with
  | zero =>
    intro k r j hr hj _
    rw [sluiceref01_More.l1]
    rw [if_neg (by omega)]
    rfl
  | succ n ih =>
    intro k r j hr hj h0
    rw [show k + 1 + (n + 1) = (k + 1 + n) + 1 from by omega]
    rw [sluiceref01_More.l1]
    rw [if_pos (by omega), down_val r hr]
    show sluiceref01_More.l1 (k + 1 + n) l ((d r : Nat) : Int) i (wrap64 (j + 1)) = _
    rw [w64_id (by omega) (by omega), ih k (d r) (j + 1) (d_lt r hr) (by omega) (by omega)]
    rfl
theorem rmore_l0 (l : List Int) (hl : BytesL l) (hL : l.length < 1000000000000000) : ∀ (n k i r : Nat), n + i = l.length → 10 * n + 1 ≤ k → r < 4294967296 →
    sluiceref01_More.l0 k l (r : Int) (i : Int) = some (((run r (l.drop i) ^^^ 4294967295 : Nat)) : Int) := by
  intro n
  induction n with
  | zero =>
    intro k i r hn hk hr
    obtain ⟨k, rfl⟩ : ∃ m, k = m + 1 := ⟨k - 1, by omega⟩
    have hi : i = l.length := by omega
    rw [sluiceref01_More.l0]
    rw [if_neg (by omega), List.drop_of_length_le (by omega)]
    show some (Go.bits .xor .u32 ((4294967295 : Nat) : Int) (r : Int)) = _
    rw [n32_xor _ _ (by decide) hr, Nat.xor_comm]
    rfl
  | succ n ih =>
    intro k i r hn hk hr
    obtain ⟨k, rfl⟩ : ∃ m, k = m + 1 + 8 + 1 := ⟨k - 10, by omega⟩
    have hi : i < l.length := by omega
    rw [sluiceref01_More.l0]
    rw [if_pos (by omega), if_pos (by omega), rd_nat l i hi]
    obtain ⟨c0, c1⟩ := hl l[i] (List.getElem_mem hi)
    have hc : l[i] % 4294967296 = (l[i].toNat : Int) := by omega
    rw [hc, n32_xor _ _ hr (by omega)]
    have hx : r ^^^ l[i].toNat < 4294967296 := Nat.xor_lt_two_pow (n := 32) hr (by omega)
    rw [rmore_l1 l i 8 k _ 0 hx (by omega) (by omega), w64_id (by omega) (by omega), show (i : Int) + 1 = ((i + 1 : Nat) : Int) from by omega, ih k (i + 1) _ (by omega) (by omega) ((D_ok 8 _ hx).1), List.drop_eq_getElem_cons hi]
    rfl
theorem rmore_val (l : List Int) (hl : BytesL l) (hL : l.length < 1000000000000000) (k a : Nat) (hk : 10 * l.length + 1 ≤ k) (ha : a < 4294967296) :
    sluiceref01_More.f k (a : Int) l = some (((run (a ^^^ 4294967295) l ^^^ 4294967295 : Nat)) : Int) := by
  show sluiceref01_More.l0 k l (Go.bits .xor .u32 ((4294967295 : Nat) : Int) (a : Int)) ((0 : Nat) : Int) = _
  rw [n32_xor _ _ (by decide) ha, Nat.xor_comm, rmore_l0 l hl hL l.length k 0 _ (by omega) hk (Nat.xor_lt_two_pow (n := 32) ha (by decide))]
  rfl
theorem rcrc_one (l : List Int) (hl : BytesL l) (hL : l.length < 1000000000000000) (k : Nat) (hk : 10 * l.length + 2 ≤ k) : sluiceref01_CRC.f k [l] = some ((crc l : Nat) : Int) := by
  obtain ⟨k, rfl⟩ : ∃ m, k = m + 2 := ⟨k - 2, by omega⟩
  unfold sluiceref01_CRC.f
  unfold sluiceref01_CRC.l0
  rw [if_pos (by simp), if_pos (by decide)]
  have e : sluiceref01_More.f (k + 1) 0 (rd_L1 [l] 0) = some ((crc l : Nat) : Int) := by
    have := rmore_val l hl hL (k + 1) 0 (by omega) (by decide)
    rw [Nat.zero_xor] at this
    exact this
  rw [e]
  show sluiceref01_CRC.l0 (k + 1) [l] ((crc l : Nat) : Int) (wrap64 (0 + 1)) = _
  unfold sluiceref01_CRC.l0
  rw [if_neg (by rw [w64_id (by decide) (by decide)]; simp)]
/-! ### two bytes, read -/
def both (l : List Int) : Int × Int := if 2 ≤ l.length then (l.getD 0 0 + 256 * l.getD 1 0, 0) else (0, 10)
theorem zor (x : Int) (h : 0 ≤ x) (h' : x < 18446744073709551616) : Go.bits .or .u64 0 (x * 1) = x := by
  have := n64_or 0 x.toNat (by decide) (by omega)
  rw [Nat.zero_or, show ((x.toNat : Nat) : Int) = x * 1 from by omega] at this
  rw [show (0 : Int) = ((0 : Nat) : Int) from rfl, this]
  omega
theorem or_low (x y : Nat) (h : x < 256) : x ||| (y * 256) = y * 256 + x := by
  have := Nat.two_pow_add_eq_or_of_lt (i := 8) (b := x) h y
  rw [Nat.or_comm, Nat.mul_comm y 256]
  exact this.symm
theorem val2 (x y : Int) (h : 0 ≤ x) (h' : 0 ≤ y) : ((y.toNat * 256 + x.toNat : Nat) : Int) = x + 256 * y := by omega
theorem get_val (l : List Int) (hl : BytesL l) : grain_Get.f l 0 2 = some (both l) := by
  unfold grain_Get.f both
  rw [if_pos (by decide), if_pos (by decide)]
  by_cases h : 2 ≤ l.length
  · rw [if_pos h, if_pos ⟨by decide, by omega, by omega⟩]
    have b : ∀ i, i < 2 → 0 ≤ l.getD i 0 ∧ l.getD i 0 < 256 := fun i hi => by
      rw [List.getD_eq_getElem?_getD, List.getElem?_eq_getElem (by omega)]
      exact hl _ (List.getElem_mem _)
    obtain ⟨p0, p1⟩ := b 0 (by omega)
    obtain ⟨q0, q1⟩ := b 1 (by omega)
    show some (grain_Get.go l 0 2, 0) = _
    have e : grain_Get.go l 0 2 = l.getD 0 0 + 256 * l.getD 1 0 := by
      show Go.bits .or .u64 (Go.bits .or .u64 0 (IntKind.u64.wrap (IntKind.u64.wrap (l.getD 0 0) * 1))) (IntKind.u64.wrap (IntKind.u64.wrap (l.getD 1 0) * 256)) = _
      generalize l.getD 0 0 = x at p0 p1
      generalize l.getD 1 0 = y at q0 q1
      rw [u64_id (n := x) (by omega) (by omega), u64_id (n := y) (by omega) (by omega), u64_id (by omega) (by omega), u64_id (by omega) (by omega), show Go.bits .or .u64 0 (x * 1) = x from zor x p0 (by omega)]
      have := n64_or x.toNat (y.toNat * 256) (by omega) (by omega)
      rw [or_low _ _ (by omega)] at this
      have e1 : ((x.toNat : Nat) : Int) = x := by omega
      have e2 : ((y.toNat * 256 : Nat) : Int) = y * 256 := by omega
      have e3 : ((y.toNat * 256 + x.toNat : Nat) : Int) = x + 256 * y := val2 x y p0 q0
      rw [e1, e2, e3] at this
      exact this
    rw [e]
  · rw [if_neg h, if_neg (by omega)]
theorem rget_j0 (k : Nat) (l : List Int) : sluiceref01_Get.j0 (k + 1) l 0 2 false = ((sluiceref01_there.f (l.length : Int) 0 2).bind fun t109 => (if t109 = true then (sluiceref01_Get.l0 k l 0 0 (wrap64 (2 - 1))) else (some (0, 10)))) := by
  conv => lhs; rw [sluiceref01_Get.j0]
  rw [if_neg (by decide)]
theorem rget_l0 (k : Nat) (l : List Int) (v i : Int) (h0 : 0 ≤ i) (h1 : i < l.length) (h : i < 1000) : sluiceref01_Get.l0 (k + 1) l 0 v i = sluiceref01_Get.l0 k l 0 (IntKind.u64.wrap ((IntKind.u64.wrap (v * 256)) + (IntKind.u64.wrap (rd l i)))) (i - 1) := by
  conv => lhs; rw [sluiceref01_Get.l0]
  rw [w64_id (n := 0 + i) (by omega) (by omega), Int.zero_add, if_pos (by omega), if_pos (by omega), if_pos (by omega), w64_id (n := i - 1) (by omega) (by omega)]
theorem rget_val (l : List Int) (hl : BytesL l) (hL : l.length < 1000000000000000) (k : Nat) (hk : 5 ≤ k) : sluiceref01_Get.f k l 0 2 = some (both l) := by
  obtain ⟨k, rfl⟩ : ∃ m, k = m + 5 := ⟨k - 5, by omega⟩
  unfold sluiceref01_Get.f both
  rw [if_neg (by decide), show decide ((2 : Int) > 8) = false from rfl, rget_j0]
  unfold sluiceref01_there.f
  rw [if_pos (by decide), if_pos (by omega), Option.bind_some, Int.sub_zero, w64_id (by omega) (by omega)]
  by_cases h : 2 ≤ l.length
  · rw [if_pos h, if_pos (by rw [decide_eq_true_eq]; omega), w64_id (n := 2 - 1) (by decide) (by decide), show (2 : Int) - 1 = 1 from rfl]
    have b : ∀ i, i < 2 → 0 ≤ l.getD i 0 ∧ l.getD i 0 < 256 := fun i hi => by
      rw [List.getD_eq_getElem?_getD, List.getElem?_eq_getElem (by omega)]
      exact hl _ (List.getElem_mem _)
    obtain ⟨p0, p1⟩ := b 0 (by omega)
    obtain ⟨q0, q1⟩ := b 1 (by omega)
    rw [rget_l0 _ _ _ _ (by omega) (by omega) (by omega), rget_l0 _ _ _ _ (by omega) (by omega) (by omega)]
    show sluiceref01_Get.l0 (k + 2) l 0 (IntKind.u64.wrap (IntKind.u64.wrap (IntKind.u64.wrap (IntKind.u64.wrap (0 * 256) + IntKind.u64.wrap (l.getD 1 0)) * 256) + IntKind.u64.wrap (l.getD 0 0))) (1 - 1 - 1) = _
    generalize l.getD 0 0 = x at p0 p1
    generalize l.getD 1 0 = y at q0 q1
    rw [sluiceref01_Get.l0]
    rw [if_neg (by decide)]
    rw [u64_id (n := x) (by omega) (by omega), u64_id (n := y) (by omega) (by omega), u64_id (n := 0 * 256) (by omega) (by omega), u64_id (n := 0 * 256 + y) (by omega) (by omega), u64_id (n := (0 * 256 + y) * 256) (by omega) (by omega), u64_id (by omega) (by omega)]
    congr 2
    omega
  · rw [if_neg h, if_neg (by rw [decide_eq_true_eq]; omega)]
/-! ### the law -/
theorem j5_true (l : List Int) (h : In64 l) (hL : l.length ≤ 1048576) (x3 x4 : Int) (b : Bool) (hb : b = true → 0 ≤ x3 ∧ x3 < l.length) (hx : -9223372036854775808 ≤ x4 ∧ x4 < 9223372036854775808) (k : Nat) (hk : l.length + 2 ≤ k) :
    sluicelaw01_GrainPlaced.j5 k x3 x4 l b = some true := by
  obtain ⟨k, rfl⟩ : ∃ m, k = m + 1 + l.length + 1 := ⟨k - (l.length + 2), by omega⟩
  rw [sluicelaw01_GrainPlaced.j5]
  split
  · rename_i hbt
    obtain ⟨h0, h1⟩ := hb hbt
    rw [if_pos h0, if_pos h1, Option.bind_some]
    have hs : In64 (l.set x3.toNat x4) := fun y hy => by
      rcases List.mem_or_eq_of_mem_set hy with h2 | h2
      · exact h y h2
      · rw [h2]; exact hx
    have hr := ref_eq (l.set x3.toNat x4) (by rw [List.length_set]; exact hL) hs k
    rw [List.length_set] at hr
    rw [total_eq _ hs (by rw [List.length_set]; omega), Option.bind_some, hr, Option.bind_some, if_pos rfl]
    show some ((mulr (sumI (l.set x3.toNat x4))).2 == (mulr (sumI (l.set x3.toNat x4))).2) = _
    rw [beq_self_eq_true]
  · rw [total_eq l h (by omega), Option.bind_some, ref_eq l hL h k, Option.bind_some, if_pos rfl]
    show some ((mulr (sumI l)).2 == (mulr (sumI l)).2) = _
    rw [beq_self_eq_true]
theorem j4_true (l : List Int) (h : In64 l) (hL : l.length ≤ 1048576) (x3 x4 : Int) (hx : -9223372036854775808 ≤ x4 ∧ x4 < 9223372036854775808) (k : Nat) (hk : l.length + 3 ≤ k) :
    sluicelaw01_GrainPlaced.j4 k x3 x4 l false = some true := by
  obtain ⟨k, rfl⟩ : ∃ m, k = m + 1 := ⟨k - 1, by omega⟩
  rw [sluicelaw01_GrainPlaced.j4]
  rw [if_neg (by decide)]
  split
  · exact j5_true l h hL x3 x4 _ (fun hb => by rw [decide_eq_true_eq] at hb; omega) hx k (by omega)
  · exact j5_true l h hL x3 x4 false (fun hb => by cases hb) hx k (by omega)
theorem j3_true (l : List Int) (h : In64 l) (hL : l.length ≤ 1048576) (x3 x4 : Int) (hx : -9223372036854775808 ≤ x4 ∧ x4 < 9223372036854775808) (k : Nat) (hk : l.length + 4 ≤ k) :
    sluicelaw01_GrainPlaced.j3 k l x3 x4 false = some true := by
  obtain ⟨k, rfl⟩ : ∃ m, k = (m + 2) + 1 + l.length + 1 := ⟨k - (l.length + 4), by omega⟩
  rw [sluicelaw01_GrainPlaced.j3]
  rw [if_neg (by decide), Option.bind_some, List.nil_append, if_pos (by simp only [List.length_nil]; omega), Option.bind_some, total_eq l h (by omega), Option.bind_some, ref_eq l hL h (k + 2), Option.bind_some, if_pos rfl]
  show sluicelaw01_GrainPlaced.j4 _ _ _ _ ((mulr (sumI l)).2 != (mulr (sumI l)).2) = _
  rw [show ((mulr (sumI l)).2 != (mulr (sumI l)).2) = false from by simp]
  exact j4_true l h hL x3 x4 hx _ (by omega)
theorem j2_true (b : List Int) (hb : BytesL b) (hB : b.length < 1000000000000000) (l : List Int) (h : In64 l) (hL : l.length ≤ 1048576) (x3 x4 : Int) (hx : -9223372036854775808 ≤ x4 ∧ x4 < 9223372036854775808) (k : Nat) (hk : l.length + 10 * b.length + 10 ≤ k) :
    sluicelaw01_GrainPlaced.j2 k l x3 x4 b = some true := by
  obtain ⟨k, rfl⟩ : ∃ m, k = m + 1 := ⟨k - 1, by omega⟩
  rw [sluicelaw01_GrainPlaced.j2]
  have m1 := more_val b hb hB k 7 (by omega) (by decide)
  have m2 := rmore_val b hb hB k 7 (by omega) (by decide)
  rw [show (((7 : Nat) : Int)) = 7 from rfl] at m1 m2
  rw [get_val b hb, Option.bind_some, rget_val b hb hB k (by omega), Option.bind_some, crc_one b hb hB k (by omega), Option.bind_some, rcrc_one b hb hB k (by omega), Option.bind_some, if_pos rfl, m1, Option.bind_some, m2, Option.bind_some, if_pos rfl, if_pos rfl]
  show sluicelaw01_GrainPlaced.j3 _ _ _ _ ((both b).2 != (both b).2) = _
  rw [show ((both b).2 != (both b).2) = false from by simp]
  exact j3_true l h hL x3 x4 hx _ (by omega)
theorem l0_true (o : List Int) (ho : BytesL o) (l : List Int) (h : In64 l) (hL : l.length ≤ 1048576) (x3 x4 : Int) (hx : -9223372036854775808 ≤ x4 ∧ x4 < 9223372036854775808) :
    ∀ (n k i : Nat) (b : List Int), BytesL b → b.length < 1000000000000000 → n + i = b.length → l.length + 10 * b.length + n + 11 ≤ k →
    sluicelaw01_GrainPlaced.l0 k o l x3 x4 b (i : Int) = some true := by
  intro n
  induction n with
  | zero =>
    intro k i b hb hB hi hk
    obtain ⟨k, rfl⟩ : ∃ m, k = m + 1 := ⟨k - 1, by omega⟩
    rw [sluicelaw01_GrainPlaced.l0]
    rw [if_neg (by omega)]
    exact j2_true b hb hB l h hL x3 x4 hx k (by omega)
  | succ n ih =>
    intro k i b hb hB hi hk
    obtain ⟨k, rfl⟩ : ∃ m, k = m + 1 := ⟨k - 1, by omega⟩
    rw [sluicelaw01_GrainPlaced.l0]
    rw [if_pos (by omega)]
    split
    · rename_i hlt
      rw [if_pos (by omega), w64_id (by omega) (by omega), show (i : Int) + 1 = ((i + 1 : Nat) : Int) from by omega, rd_nat o i (by omega)]
      refine ih k (i + 1) _ (fun c hc => ?_) (by rw [List.length_set]; exact hB) (by rw [List.length_set]; omega) (by rw [List.length_set]; omega)
      rcases List.mem_or_eq_of_mem_set hc with h2 | h2
      · exact hb c h2
      · rw [h2]; exact ho _ (List.getElem_mem _)
    · exact j2_true b hb hB l h hL x3 x4 hx k (by omega)
theorem j0_false (k : Nat) (o l : List Int) (x3 x4 : Int) (b : List Int) : sluicelaw01_GrainPlaced.j0 (k + 1) o l x3 x4 b false = sluicelaw01_GrainPlaced.l0 k o l x3 x4 b 0 := by
  conv => lhs; rw [sluicelaw01_GrainPlaced.j0]
  rw [if_neg (by decide)]
theorem placed_true (b : List Int) (hb : BytesL b) (hB : b.length < 140737488355320) (o : List Int) (ho : BytesL o) (l : List Int) (h : In64 l) (hL : l.length ≤ 1048576) (x3 x4 : Int) (hx : -9223372036854775808 ≤ x4 ∧ x4 < 9223372036854775808) :
    ∃ k, sluicelaw01_GrainPlaced.f k b o l x3 x4 = some true := by
  refine ⟨(l.length + 11 * b.length + 20) + 1, ?_⟩
  unfold sluicelaw01_GrainPlaced.f
  have hB' : b.length < 1000000000000000 := by omega
  have m1 := more_val b hb hB' (l.length + 11 * b.length + 20 + 1) 7 (by omega) (by decide)
  have m2 := rmore_val b hb hB' (l.length + 11 * b.length + 20 + 1) 7 (by omega) (by decide)
  rw [show (((7 : Nat) : Int)) = 7 from rfl] at m1 m2
  rw [Option.bind_some, List.nil_append, if_pos (by simp only [List.length_nil]; omega), Option.bind_some, crc_one b hb hB' _ (by omega), Option.bind_some, m1, Option.bind_some, get_val b hb, Option.bind_some, rget_val b hb hB' _ (by omega), Option.bind_some, rcrc_one b hb hB' _ (by omega), Option.bind_some, if_pos rfl, m2, Option.bind_some, if_pos rfl, if_pos rfl]
  unfold sluicelaw01_num.f
  rw [Option.bind_some]
  rw [show ((both b).2 != (both b).2) = false from by simp, j0_false]
  exact l0_true o ho l h hL x3 x4 hx b.length _ 0 b hb hB' (by omega) (by omega)
/-- The law. -/
theorem GrainPlaced : sluicelaw01_GrainPlaced.Pure := fun l0 l1 l2 a3 a4 h h0 h1 h2 _ w4 hL =>
  placed_true l0 (fun c hc => wf_u8 (h0 c hc)) (by omega) l1 (fun c hc => wf_u8 (h1 c hc)) l2 (In64.of_wf h2) hL a3 a4 (wf_i64 w4)
end Go.Proofs.YtdnofpafojjjaaaDoor.Pure
