/- GrainUndone, the pure part: what is added is taken away again, a quotient and its rest make the number, a sum does not hang on the order. Conditions: none. -/
import Derived.Test.YtdnofpafojjjaaaQGrainUndonex2
import Derived.Test.YtdnofpafojjjaaaNum
namespace Go.Proofs.Ytdnofpafojjjaaa.Pure
open Go.RowKit Go.Proofs.Ytdnofpafojjjaaa.QGrainUndone Go.Proofs.YtdnofpafojjjaaaW.PrintWords Go.Proofs.YtdnofpafojjjaaaW.PrintLast
open Go.Proofs.Ytdnofpafojjjaaa.Num

/-! ### The exact sum -/
def sumI : List Int → Int
  | [] => 0
  | x :: r => x + sumI r
theorem sumI_append (a b : List Int) : sumI (a ++ b) = sumI a + sumI b := by
  induction a with
  | nil => simp [sumI]
  | cons x r ih => simp only [List.cons_append, sumI, ih]; omega
theorem sumI_reverse (a : List Int) : sumI a.reverse = sumI a := by
  induction a with
  | nil => rfl
  | cons x r ih => simp only [List.reverse_cons, sumI_append, sumI, ih]; omega
/-- All in 64 bits. -/
def In64 (l : List Int) : Prop := ∀ x ∈ l, -9223372036854775808 ≤ x ∧ x < 9223372036854775808
theorem In64.tail {x : Int} {r : List Int} (h : In64 (x :: r)) : In64 r := fun y hy => h y (List.mem_cons_of_mem _ hy)
theorem In64.head {x : Int} {r : List Int} (h : In64 (x :: r)) : -9223372036854775808 ≤ x ∧ x < 9223372036854775808 := h x (List.mem_cons_self ..)
theorem In64.of_wf {l : List Int} (h : ∀ x ∈ l, (Lit.int .i64 x).wf = true) : In64 l := fun x hx => wf_i64 (h x hx)
theorem sumI_bound (l : List Int) (h : In64 l) : -(9223372036854775808 * (l.length : Int)) ≤ sumI l ∧ sumI l ≤ 9223372036854775808 * (l.length : Int) := by
  induction l with
  | nil => simp [sumI]
  | cons x r ih =>
    have h1 := h.head
    have h2 := ih h.tail
    simp only [sumI, List.length_cons]
    omega

theorem go_eq : ∀ (l : List Int) (hi lo : Int), In64 l → 0 ≤ hi → hi < 18446744073709551616 → 0 ≤ lo → lo < 18446744073709551616 →
    0 ≤ (grain_Total.go l hi lo).1 ∧ (grain_Total.go l hi lo).1 < 18446744073709551616 ∧ 0 ≤ (grain_Total.go l hi lo).2 ∧ (grain_Total.go l hi lo).2 < 18446744073709551616 ∧
      (grain_Total.go l hi lo).1 * 18446744073709551616 + (grain_Total.go l hi lo).2 = (hi * 18446744073709551616 + lo + sumI l) % 340282366920938463463374607431768211456 := by
  intro l
  induction l with
  | nil =>
    intro hi lo _ h0 h1 h2 h3
    simp only [grain_Total.go, sumI]
    refine ⟨h0, h1, h2, h3, ?_⟩
    omega
  | cons x r ih =>
    intro hi lo hl h0 h1 h2 h3
    have hx := hl.head
    simp only [grain_Total.go, sumI]
    rw [wrap_u64, wrap_u64]
    have := ih ((hi + x / 9223372036854775808 % 18446744073709551616 + (lo + x % 18446744073709551616) / 18446744073709551616) % 18446744073709551616) ((lo + x % 18446744073709551616) % 18446744073709551616) hl.tail (by omega) (by omega) (by omega) (by omega)
    obtain ⟨a1, a2, a3, a4, a5⟩ := this
    refine ⟨a1, a2, a3, a4, a5.trans ?_⟩
    generalize sumI r = s
    by_cases c : 0 ≤ x
    · have e1 : x / 9223372036854775808 = 0 := by omega
      have e2 : x % 18446744073709551616 = x := by omega
      rw [e1, e2]
      omega
    · have e1 : x / 9223372036854775808 = -1 := by omega
      have e2 : x % 18446744073709551616 = x + 18446744073709551616 := by omega
      rw [e1, e2]
      omega

/-- What a checked number tells. -/
def mulr (p : Int) : Int × Int := if -9223372036854775808 ≤ p ∧ p < 9223372036854775808 then (p, 0) else (0, 13)
theorem total_eq (l : List Int) (h : In64 l) (hl : l.length ≤ 140737488355328) : grain_Total.f l = some (mulr (sumI l)) := by
  unfold grain_Total.f
  rw [if_pos hl]
  congr 1
  obtain ⟨a1, a2, a3, a4, a5⟩ := go_eq l 0 0 h (by decide) (by decide) (by decide) (by decide)
  have hb := sumI_bound l h
  generalize grain_Total.go l 0 0 = p at *
  obtain ⟨hi, lo⟩ := p
  simp only at a1 a2 a3 a4 a5
  unfold grain_Total.fin mulr
  simp only
  generalize sumI l = T at *
  have hT : -1298074214633706907132624082305024 ≤ T ∧ T ≤ 1298074214633706907132624082305024 := by omega
  rw [wrap_u64]
  have a6 : hi * 18446744073709551616 + lo = T % 340282366920938463463374607431768211456 := by rw [a5]; congr 1; omega
  clear a5 hb
  by_cases c : -9223372036854775808 ≤ T ∧ T < 9223372036854775808
  · rw [if_pos c]
    have e1 : wrap64 lo = T := by unfold wrap64; omega
    rw [e1]
    have : hi = T / 9223372036854775808 % 18446744073709551616 := by omega
    rw [if_pos this]
  · rw [if_neg c]
    refine if_neg ?_
    intro hx
    by_cases c2 : lo < 9223372036854775808
    · have e1 : wrap64 lo = lo := by unfold wrap64; omega
      rw [e1] at hx
      have e2 : lo / 9223372036854775808 = 0 := by omega
      rw [e2] at hx
      omega
    · have e1 : wrap64 lo = lo - 18446744073709551616 := by unfold wrap64; omega
      rw [e1] at hx
      have e2 : (lo - 18446744073709551616) / 9223372036854775808 = -1 := by omega
      rw [e2] at hx
      omega
/-- The product's parts: 32 bits by 32 bits. -/
theorem gw_parts (x y : Nat) (hx : x < 18446744073709551616) (hy : y < 18446744073709551616) :
    bits_Mul64.f x y = some (((x * y / 18446744073709551616 : Nat) : Int), ((x * y % 18446744073709551616 : Nat) : Int)) := by
  have m1 : Go.bits .and .u64 (x : Int) 4294967295 = ((x % 4294967296 : Nat) : Int) := by
    have := u64_mask 32 (by decide) x (by omega) (by omega); simp at this; rw [this]; omega
  have m2 : Go.bits .and .u64 (y : Int) 4294967295 = ((y % 4294967296 : Nat) : Int) := by
    have := u64_mask 32 (by decide) y (by omega) (by omega); simp at this; rw [this]; omega
  unfold bits_Mul64.f
  rw [m1, m2]
  have e1 : ((x : Int) / 4294967296) = ((x / 4294967296 : Nat) : Int) := by omega
  have e2 : ((y : Int) / 4294967296) = ((y / 4294967296 : Nat) : Int) := by omega
  rw [e1, e2]
  have hxx : x = 4294967296 * (x / 4294967296) + x % 4294967296 := by omega
  have hyy : y = 4294967296 * (y / 4294967296) + y % 4294967296 := by omega
  have b1 : x / 4294967296 ≤ 4294967295 := by omega
  have b0 : x % 4294967296 ≤ 4294967295 := by omega
  have c1 : y / 4294967296 ≤ 4294967295 := by omega
  have c0 : y % 4294967296 ≤ 4294967295 := by omega
  generalize x / 4294967296 = x1 at *
  generalize x % 4294967296 = x0 at *
  generalize y / 4294967296 = y1 at *
  generalize y % 4294967296 = y0 at *
  have p11 : x1 * y1 ≤ 4294967295 * 4294967295 := Nat.mul_le_mul b1 c1
  have p10 : x1 * y0 ≤ 4294967295 * 4294967295 := Nat.mul_le_mul b1 c0
  have p01 : x0 * y1 ≤ 4294967295 * 4294967295 := Nat.mul_le_mul b0 c1
  have p00 : x0 * y0 ≤ 4294967295 * 4294967295 := Nat.mul_le_mul b0 c0
  have hp : x * y = 18446744073709551616 * (x1 * y1) + 4294967296 * (x1 * y0 + x0 * y1) + x0 * y0 := by
    rw [hxx, hyy, Nat.mul_add, Nat.add_mul, Nat.add_mul]
    have h1 : 4294967296 * x1 * (4294967296 * y1) = 18446744073709551616 * (x1 * y1) := by
      rw [Nat.mul_assoc, Nat.mul_left_comm x1, ← Nat.mul_assoc]
    have h2 : x0 * (4294967296 * y1) = 4294967296 * (x0 * y1) := Nat.mul_left_comm _ _ _
    have h3 : 4294967296 * x1 * y0 = 4294967296 * (x1 * y0) := Nat.mul_assoc _ _ _
    rw [h1, h2, h3]; omega
  rw [hp]
  have k11 : ((x1 : Int) * (y1 : Int)) = ((x1 * y1 : Nat) : Int) := by simp
  have k10 : ((x1 : Int) * (y0 : Int)) = ((x1 * y0 : Nat) : Int) := by simp
  have k01 : ((x0 : Int) * (y1 : Int)) = ((x0 * y1 : Nat) : Int) := by simp
  have k00 : ((x0 : Int) * (y0 : Int)) = ((x0 * y0 : Nat) : Int) := by simp
  have kk : ((x : Int) * (y : Int)) = ((x * y : Nat) : Int) := by simp
  rw [k11, k10, k01, k00, kk, hp]
  generalize x1 * y1 = p at *
  generalize x1 * y0 = q at *
  generalize x0 * y1 = r at *
  generalize x0 * y0 = s at *
  have ee : ∀ n : Int, 0 ≤ n → n < 18446744073709551616 → Go.bits .and .u64 n 4294967295 = n % 4294967296 := by
    intro n h0 h1
    have := u64_mask 32 (by decide) n h0 h1; simpa using this
  simp only [wrap_u64]
  rw [ee _ (by omega) (by omega)]
  simp only [Option.some.injEq, Prod.mk.injEq]
  constructor <;> omega

theorem gw_size (a : Int) (ha0 : -9223372036854775808 ≤ a) (ha1 : a < 9223372036854775808) : grain_size.f a = some (a.natAbs : Int) := by
  unfold grain_size.f
  simp only [wrap_u64]
  split <;> (simp only [Option.some.injEq]; omega)

theorem gw_natAbs_mul (a b : Int) : ((a.natAbs * b.natAbs : Nat) : Int) = if (a < 0 ∧ 0 ≤ b) ∨ (0 ≤ a ∧ b < 0) then -(a * b) else a * b := by
  rcases Int.natAbs_eq a with h | h <;> rcases Int.natAbs_eq b with k | k <;> generalize a.natAbs = m at * <;> generalize b.natAbs = n at * <;> subst h <;> subst k
  all_goals
    simp only [Int.natCast_mul, Int.neg_mul, Int.mul_neg, Int.neg_neg]
    split
    all_goals first | rfl | (rename_i h; exfalso; omega) | skip
  all_goals
    rename_i h
    have : (m : Int) = 0 ∨ (n : Int) = 0 := by omega
    rcases this with e | e <;> simp [e]

theorem gw_mul (a b : Int) (ha0 : -9223372036854775808 ≤ a) (ha1 : a < 9223372036854775808) (hb0 : -9223372036854775808 ≤ b) (hb1 : b < 9223372036854775808) (k : Nat) :
    grain_Mul.f (k + 1) a b = some (mulr (a * b)) := by
  have hna := gw_natAbs_mul a b
  have hz : a = 0 ∨ b = 0 → a * b = 0 := by rintro (h | h) <;> simp [h]
  have sgn : (a < 0 ∧ 0 < b) ∨ (0 < a ∧ b < 0) → a * b < 0 := by
    rintro (⟨h1, h2⟩ | ⟨h1, h2⟩)
    · exact Int.mul_neg_of_neg_of_pos h1 h2
    · exact Int.mul_neg_of_pos_of_neg h1 h2
  have sgp : (a < 0 ∧ b < 0) ∨ (0 < a ∧ 0 < b) → 0 < a * b := by
    rintro (⟨h1, h2⟩ | ⟨h1, h2⟩)
    · exact Int.mul_pos_of_neg_of_neg h1 h2
    · exact Int.mul_pos h1 h2
  unfold grain_Mul.f
  rw [gw_size a ha0 ha1, gw_size b hb0 hb1]
  simp only [Option.bind_some]
  rw [gw_parts a.natAbs b.natAbs (by omega) (by omega)]
  simp only [Option.bind_some, grain_Mul.j0, mulr]
  generalize a.natAbs * b.natAbs = p at *
  generalize a * b = q at *
  simp only [bne_iff_ne, ne_eq, decide_eq_decide, decide_eq_true_eq, wrap_u64, wrap64]
  have hp0 : 0 ≤ (p : Int) := by omega
  have e1 : ((p / 18446744073709551616 : Nat) : Int) = (p : Int) / 18446744073709551616 := by omega
  have e2 : ((p % 18446744073709551616 : Nat) : Int) = (p : Int) % 18446744073709551616 := by omega
  rw [e1, e2]
  generalize (p : Int) = P at *
  by_cases hn : (a < 0 ∧ 0 ≤ b) ∨ (0 ≤ a ∧ b < 0)
  · rw [if_pos hn] at hna
    have hc : ¬ (a < 0 ↔ b < 0) := by omega
    have hq : q ≤ 0 := by
      by_cases z : a = 0 ∨ b = 0
      · have := hz z; omega
      · have := sgn (by omega); omega
    simp only [hc, not_false_eq_true, if_true]
    repeat' split
    all_goals first | (simp only [Option.some.injEq, Prod.mk.injEq, and_true]; omega) | (exfalso; omega) | rfl | simp_all
  · rw [if_neg hn] at hna
    have hc : (a < 0 ↔ b < 0) := by omega
    have hq : 0 ≤ q := by
      by_cases z : a = 0 ∨ b = 0
      · have := hz z; omega
      · have := sgp (by omega); omega
    simp only [hc, not_true_eq_false, if_false]
    repeat' split
    all_goals first | (simp only [Option.some.injEq, Prod.mk.injEq, and_true]; omega) | (exfalso; omega) | rfl | simp_all

theorem add_eq (a b : Int) (ha0 : -9223372036854775808 ≤ a) (ha1 : a < 9223372036854775808) (hb0 : -9223372036854775808 ≤ b) (hb1 : b < 9223372036854775808) : grain_Add.f a b = some (mulr (a + b)) := by
  unfold grain_Add.f mulr wrap64
  simp only [beq_iff_eq, bne_iff_ne, ne_eq, decide_eq_decide]
  repeat' split
  all_goals first | rfl | (exfalso; omega) | (simp only [Option.some.injEq, Prod.mk.injEq, and_true]; omega)
theorem sub_eq (a b : Int) (ha0 : -9223372036854775808 ≤ a) (ha1 : a < 9223372036854775808) (hb0 : -9223372036854775808 ≤ b) (hb1 : b < 9223372036854775808) : grain_Sub.f a b = some (mulr (a - b)) := by
  unfold grain_Sub.f mulr wrap64
  simp only [bne_iff_ne, ne_eq, decide_eq_decide]
  repeat' split
  all_goals first | rfl | (exfalso; omega) | (simp only [Option.some.injEq, Prod.mk.injEq, and_true]; omega)

theorem rev_loop (x2 : List Int) (hl : x2.length * 8 ≤ 140737488351232) : ∀ (n : Nat) (acc : List Int) (k : Nat), n ≤ x2.length → acc.length + n ≤ x2.length →
    sluicelaw01_GrainUndone.l0 (k + 1 + n) x2 acc ((n : Int) - 1) = sluicelaw01_GrainUndone.l0 (k + 1) x2 (acc ++ (x2.take n).reverse) (-1) := by
  intro n
  induction n with
  | zero => intro acc k _ _; simp
  | succ n ih =>
    intro acc k h1 h2
    have e : k + 1 + (n + 1) = (k + 1 + n) + 1 := by omega
    have e2 : ((n + 1 : Nat) : Int) - 1 = (n : Int) := by omega
    rw [e, e2, sluicelaw01_GrainUndone.l0, if_pos (by omega), if_pos (by omega), if_pos (by omega), if_pos (by omega), w64_id (by omega) (by omega)]
    have hr : rd x2 (n : Int) = x2[n] := by simp [rd, List.getD, show n < x2.length by omega]
    have hrev : (x2.take (n + 1)).reverse = x2[n] :: (x2.take n).reverse := by
      rw [List.take_succ_eq_append_getElem (by omega), List.reverse_append]; rfl
    rw [hr, ih _ k (by omega) (by simp; omega), hrev]
    simp

theorem GrainUndone : sluicelaw01_GrainUndone.Pure := by
  intro a b xs wa wb hm hl hw
  obtain ⟨ha0, ha1⟩ := wf_i64 wa
  obtain ⟨hb0, hb1⟩ := wf_i64 wb
  have hxs := In64.of_wf hw
  have hlen : xs.length ≤ 140737488355328 := by omega
  -- the last part: sums in both orders
  have hlast : ∀ k, sluicelaw01_GrainUndone.j3 (k + xs.length + 3) xs = some true := by
    intro k
    rw [sluicelaw01_GrainUndone.j3, w64_id (by omega) (by omega)]
    have e : k + xs.length + 2 = (k + 1) + 1 + xs.length := by omega
    rw [e, rev_loop xs hl xs.length [] (k + 1) (by omega) (by simp)]
    rw [sluicelaw01_GrainUndone.l0, if_neg (by decide), List.take_length, List.nil_append]
    have hrev : In64 xs.reverse := fun x hx => hxs x (List.mem_reverse.mp hx)
    rw [total_eq xs hxs hlen, total_eq xs.reverse hrev (by simpa using hlen), total_eq [] (fun x hx => by cases hx) (by decide), sumI_reverse]
    simp [sluicelaw01_num.f, mulr, sumI]
  have hj2f : ∀ k, sluicelaw01_GrainUndone.j2 (k + xs.length + 4) a b xs false = some true := by
    intro k
    rw [sluicelaw01_GrainUndone.j2, if_neg (by decide)]
    exact hlast k
  have hj1 : ∀ k, sluicelaw01_GrainUndone.j1 (k + xs.length + 5) a b xs false = some true := by
    intro k
    rw [sluicelaw01_GrainUndone.j1, if_neg (by decide)]
    by_cases c : b = 0
    · rw [if_pos c]; exact hj2f k
    rw [if_neg c]
    by_cases c1 : b = -1
    · subst c1; exact hj2f k
    rw [bne_iff_ne.mpr c1, sluicelaw01_GrainUndone.j2, if_pos rfl]
    have hd := Int.mul_tdiv_add_tmod a b
    have hn1 : (Int.tmod a b).natAbs < b.natAbs := by rw [Int.natAbs_tmod]; exact Nat.mod_lt _ (by omega)
    have hn2 : (Int.tmod a b).natAbs ≤ a.natAbs := by rw [Int.natAbs_tmod]; exact Nat.mod_le _ _
    have hq1 : (Int.tdiv a b).natAbs ≤ a.natAbs := by rw [Int.natAbs_tdiv]; exact Nat.div_le_self _ _
    have hq2 : Int.tdiv a b ≠ 9223372036854775808 := by
      intro hx
      have h5 : (Int.tdiv a b).natAbs = a.natAbs / b.natAbs := Int.natAbs_tdiv a b
      have g1 : b = 1 ∨ 2 ≤ b.natAbs := by omega
      rcases g1 with g1 | g1
      · subst g1; rw [Int.tdiv_one] at hx; omega
      · have := Nat.div_le_div_left g1 (by decide : 0 < 2) (a := a.natAbs)
        omega
    have hqb : (b * Int.tdiv a b).natAbs ≤ a.natAbs := by
      rw [Int.natAbs_mul, Int.natAbs_tdiv]; exact Nat.mul_div_le _ _
    have hpb : -9223372036854775808 ≤ b * Int.tdiv a b ∧ b * Int.tdiv a b < 9223372036854775808 := by
      refine ⟨by omega, ?_⟩
      by_cases g : 0 ≤ a
      · omega
      · -- the product has the sign of a
        have hs : b * Int.tdiv a b ≤ 0 := by
          have h6 : Int.tmod a b = -(Int.tmod (-a) b) := by rw [Int.neg_tmod]; omega
          have h8 : 0 ≤ Int.tmod (-a) b := Int.tmod_nonneg b (by omega)
          have h9 : Int.tmod (-a) b ≤ -a := by
            have := Int.natAbs_tmod (-a) b
            have h10 : (Int.tmod (-a) b).natAbs ≤ (-a).natAbs := by rw [this]; exact Nat.mod_le _ _
            omega
          omega
        omega
    have hquo : grain_Quo.f a b = some (Int.tdiv a b, 0) := by
      unfold grain_Quo.f
      rw [if_neg c, if_neg c1, w64_id (by omega) (by omega)]
    have hrem : grain_Rem.f a b = some (Int.tmod a b, 0) := by
      unfold grain_Rem.f
      rw [if_neg c, if_neg c1]
    rw [hquo, hrem]
    simp only [Option.bind_some]
    have e : k + xs.length + 3 = (k + xs.length + 2) + 1 := by omega
    rw [e, gw_mul (Int.tdiv a b) b (by omega) (by omega) hb0 hb1]
    have hm2 : mulr (Int.tdiv a b * b) = (b * Int.tdiv a b, 0) := by
      unfold mulr; rw [Int.mul_comm, if_pos hpb]
    rw [hm2]
    simp only [Option.bind_some, sluicelaw01_num.f, if_true]
    rw [hd, w64_id ha0 ha1, if_pos rfl]
    exact hlast k
  have hj0 : ∀ k, sluicelaw01_GrainUndone.j0 (k + xs.length + 6) a b xs (mulr (a + b)).1 (mulr (a + b)).2 = some true := by
    intro k
    have h2 : In64 [a, b] := by
      intro x hx
      simp only [List.mem_cons, List.not_mem_nil, or_false] at hx
      rcases hx with rfl | rfl
      · exact ⟨ha0, ha1⟩
      · exact ⟨hb0, hb1⟩
    rw [sluicelaw01_GrainUndone.j0, total_eq [a, b] h2 (by simp)]
    have hs : sumI [a, b] = a + b := by simp [sumI]
    rw [hs]
    simp only [Option.bind_some, if_true, bne_self_eq_false]
    exact hj1 k
  refine ⟨xs.length + 6, ?_⟩
  have hj0' := hj0 0
  rw [Nat.zero_add] at hj0'
  unfold sluicelaw01_GrainUndone.f
  rw [add_eq a b ha0 ha1 hb0 hb1]
  simp only [Option.bind_some, sluicelaw01_num.f]
  by_cases c : (mulr (a + b)).2 = 0
  · rw [if_pos c]
    have hin : -9223372036854775808 ≤ a + b ∧ a + b < 9223372036854775808 := by
      unfold mulr at c; split at c
      · assumption
      · exact absurd c (by decide)
    have e1 : (mulr (a + b)).1 = a + b := by unfold mulr; rw [if_pos hin]
    have e2 : grain_Sub.f (mulr (a + b)).1 b = some (a, 0) := by
      rw [e1, sub_eq (a + b) b hin.1 hin.2 hb0 hb1]
      have : a + b - b = a := by omega
      rw [this]; unfold mulr; rw [if_pos ⟨ha0, ha1⟩]
    rw [e2]
    simp only [Option.bind_some, if_true]
    exact hj0'
  · rw [if_neg c]
    exact hj0'

end Go.Proofs.Ytdnofpafojjjaaa.Pure
