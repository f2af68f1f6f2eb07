/- GrainTotals, the pure part, for lists of at most 1048576 numbers: the exact sum is the document's, and the list is as it was. Conditions: the length. -/
import Derived.Test.YtdnofpafojjjaaaQGrainTotalsx1
import Derived.Test.YtdnofpafojjjaaaNum
namespace Go.Proofs.Ytdnofpafojjjaaa.Pure
open Go.RowKit Go.Proofs.Ytdnofpafojjjaaa.QGrainTotals Go.Proofs.YtdnofpafojjjaaaW.PrintWords Go.Proofs.YtdnofpafojjjaaaW.PrintLast
open Go.Proofs.Ytdnofpafojjjaaa.Num

/-! ### The exact sum -/
def sumI : List Int → Int
  | [] => 0
  | x :: r => x + sumI r
theorem sumI_append (a b : List Int) : sumI (a ++ b) = sumI a + sumI b := by
  induction a with
  | nil => simp [sumI]
  | cons x r ih => simp only [List.cons_append, sumI, ih]; omega
theorem sumI_reverse (a : List Int) : sumI a.reverse = sumI a := by
  induction a with
  | nil => rfl
  | cons x r ih => simp only [List.reverse_cons, sumI_append, sumI, ih]; omega
theorem sumI_nil : sumI [] = 0 := rfl
theorem sumI_cons (x : Int) (r : List Int) : sumI (x :: r) = x + sumI r := rfl
attribute [irreducible] sumI
/-- All in 64 bits. -/
def In64 (l : List Int) : Prop := ∀ x ∈ l, -9223372036854775808 ≤ x ∧ x < 9223372036854775808
theorem In64.tail {x : Int} {r : List Int} (h : In64 (x :: r)) : In64 r := fun y hy => h y (List.mem_cons_of_mem _ hy)
theorem In64.head {x : Int} {r : List Int} (h : In64 (x :: r)) : -9223372036854775808 ≤ x ∧ x < 9223372036854775808 := h x (List.mem_cons_self ..)
theorem In64.of_wf {l : List Int} (h : ∀ x ∈ l, (Lit.int .i64 x).wf = true) : In64 l := fun x hx => wf_i64 (h x hx)
theorem sumI_bound (l : List Int) (h : In64 l) : -(9223372036854775808 * (l.length : Int)) ≤ sumI l ∧ sumI l ≤ 9223372036854775808 * (l.length : Int) := by
  induction l with
  | nil => simp [sumI_nil]
  | cons x r ih =>
    have h1 := h.head
    have h2 := ih h.tail
    simp only [sumI_cons, List.length_cons]
    omega

theorem go_eq : ∀ (l : List Int) (hi lo : Int), In64 l → 0 ≤ hi → hi < 18446744073709551616 → 0 ≤ lo → lo < 18446744073709551616 →
    0 ≤ (grain_Total.go l hi lo).1 ∧ (grain_Total.go l hi lo).1 < 18446744073709551616 ∧ 0 ≤ (grain_Total.go l hi lo).2 ∧ (grain_Total.go l hi lo).2 < 18446744073709551616 ∧
      (grain_Total.go l hi lo).1 * 18446744073709551616 + (grain_Total.go l hi lo).2 = (hi * 18446744073709551616 + lo + sumI l) % 340282366920938463463374607431768211456 := by
  intro l
  induction l with
  | nil =>
    intro hi lo _ h0 h1 h2 h3
    simp only [grain_Total.go, sumI_nil]
    refine ⟨h0, h1, h2, h3, ?_⟩
    omega
  | cons x r ih =>
    intro hi lo hl h0 h1 h2 h3
    have hx := hl.head
    simp only [grain_Total.go, sumI_cons]
    rw [wrap_u64, wrap_u64]
    have := ih ((hi + x / 9223372036854775808 % 18446744073709551616 + (lo + x % 18446744073709551616) / 18446744073709551616) % 18446744073709551616) ((lo + x % 18446744073709551616) % 18446744073709551616) hl.tail (by omega) (by omega) (by omega) (by omega)
    obtain ⟨a1, a2, a3, a4, a5⟩ := this
    refine ⟨a1, a2, a3, a4, a5.trans ?_⟩
    generalize sumI r = s
    by_cases c : 0 ≤ x
    · have e1 : x / 9223372036854775808 = 0 := by omega
      have e2 : x % 18446744073709551616 = x := by omega
      rw [e1, e2]
      omega
    · have e1 : x / 9223372036854775808 = -1 := by omega
      have e2 : x % 18446744073709551616 = x + 18446744073709551616 := by omega
      rw [e1, e2]
      omega

/-- What a checked number tells. -/
def mulr (p : Int) : Int × Int := if -9223372036854775808 ≤ p ∧ p < 9223372036854775808 then (p, 0) else (0, 13)
theorem total_eq (l : List Int) (h : In64 l) (hl : l.length ≤ 140737488355328) : grain_Total.f l = some (mulr (sumI l)) := by
  unfold grain_Total.f
  rw [if_pos hl]
  congr 1
  obtain ⟨a1, a2, a3, a4, a5⟩ := go_eq l 0 0 h (by decide) (by decide) (by decide) (by decide)
  have hb := sumI_bound l h
  generalize grain_Total.go l 0 0 = p at *
  obtain ⟨hi, lo⟩ := p
  simp only at a1 a2 a3 a4 a5
  unfold grain_Total.fin mulr
  simp only
  generalize sumI l = T at *
  have hT : -1298074214633706907132624082305024 ≤ T ∧ T ≤ 1298074214633706907132624082305024 := by omega
  rw [wrap_u64]
  have a6 : hi * 18446744073709551616 + lo = T % 340282366920938463463374607431768211456 := by rw [a5]; congr 1; omega
  clear a5 hb
  by_cases c : -9223372036854775808 ≤ T ∧ T < 9223372036854775808
  · rw [if_pos c]
    have e1 : wrap64 lo = T := by unfold wrap64; omega
    rw [e1]
    have : hi = T / 9223372036854775808 % 18446744073709551616 := by omega
    rw [if_pos this]
  · rw [if_neg c]
    refine if_neg ?_
    intro hx
    by_cases c2 : lo < 9223372036854775808
    · have e1 : wrap64 lo = lo := by unfold wrap64; omega
      rw [e1] at hx
      have e2 : lo / 9223372036854775808 = 0 := by omega
      rw [e2] at hx
      omega
    · have e1 : wrap64 lo = lo - 18446744073709551616 := by unfold wrap64; omega
      rw [e1] at hx
      have e2 : (lo - 18446744073709551616) / 9223372036854775808 = -1 := by omega
      rw [e2] at hx
      omega
/-! ### The document's sum -/
theorem rd_nat (l : List Int) (i : Nat) (h : i < l.length) : rd l (i : Int) = l[i] := by simp [rd, List.getD, h]
theorem sumI_take (l : List Int) (i : Nat) (h : i < l.length) : sumI (l.take (i + 1)) = sumI (l.take i) + l[i] := by
  rw [List.take_succ_eq_append_getElem h, sumI_append]; simp [sumI_cons, sumI_nil]
theorem ref_loop (l : List Int) (hl : l.length ≤ 1048576) (h : In64 l) (k : Nat) : ∀ (n i : Nat) (hi lo : Int), i + n = l.length → 0 ≤ lo → lo < 4294967296 →
    -(2147483648 * (i : Int)) ≤ hi → hi ≤ 2147483648 * (i : Int) → hi * 4294967296 + lo = sumI (l.take i) →
    sluiceref01_Total.l0 (k + 1 + n) l hi lo i = some (mulr (sumI l)) := by
  intro n
  induction n with
  | zero =>
    intro i hi lo hin h0 h1 h2 h3 hs
    have e : i = l.length := by omega
    subst e
    rw [List.take_length] at hs
    rw [Nat.add_zero, sluiceref01_Total.l0, if_neg (by omega)]
    unfold mulr
    by_cases c1 : hi < -2147483648
    · rw [if_pos c1, if_neg (by omega)]
    rw [if_neg c1]
    by_cases c2 : hi ≥ 2147483648
    · rw [if_pos c2, if_neg (by omega)]
    rw [if_neg c2, if_pos (by omega), w64_id (n := hi * 4294967296) (by omega) (by omega), w64_id (by omega) (by omega), hs]
  | succ n ih =>
    intro i hi lo hin h0 h1 h2 h3 hs
    have hlt : i < l.length := by omega
    have hx := h l[i] (List.getElem_mem hlt)
    have hst := sumI_take l i hlt
    have e : k + 1 + (n + 1) = (k + 1 + n) + 1 := by omega
    rw [e, sluiceref01_Total.l0, if_pos (by omega), if_pos (by omega), rd_nat l i hlt]
    generalize l[i] = x at hx hst ⊢
    have hs' : (hi + x / 4294967296 + (lo + x % 4294967296) / 4294967296) * 4294967296 + (lo + x % 4294967296) % 4294967296 = sumI (l.take (i + 1)) := by
      rw [hst, ← hs]
      clear hst hs
      omega
    clear hst hs
    rw [show wrap64 (hi + x / 4294967296) = hi + x / 4294967296 from w64_id (by omega) (by omega)]
    rw [show wrap64 (wrap64 (lo + x) - wrap64 (x / 4294967296 * 4294967296)) = lo + x % 4294967296 by unfold wrap64; omega]
    rw [show wrap64 ((i : Int) + 1) = ((i + 1 : Nat) : Int) by rw [w64_id (by omega) (by omega)]; omega]
    rw [show wrap64 (hi + x / 4294967296 + (lo + x % 4294967296) / 4294967296) = hi + x / 4294967296 + (lo + x % 4294967296) / 4294967296 from w64_id (by omega) (by omega)]
    rw [show Int.tmod (lo + x % 4294967296) 4294967296 = (lo + x % 4294967296) % 4294967296 from tmod_nonneg _ _ (by omega)]
    refine ih (i + 1) _ _ ?_ ?_ ?_ ?_ ?_ hs'
    all_goals
      clear hs'
      omega
theorem ref_eq (l : List Int) (hl : l.length ≤ 1048576) (h : In64 l) (k : Nat) : sluiceref01_Total.f (k + 1 + l.length) l = some (mulr (sumI l)) := by
  unfold sluiceref01_Total.f
  have := ref_loop l hl h k l.length 0 0 0 (by omega) (by decide) (by decide) (by omega) (by omega) (by simp [sumI_nil])
  simpa using this

/-! ### The law -/
theorem copy_loop (l : List Int) (hl : l.length ≤ 1048576) (k : Nat) : ∀ (n i : Nat), i + n = l.length →
    sluicelaw01_GrainTotals.l0 (k + 1 + n) l (l.take i) i = sluicelaw01_GrainTotals.l0 (k + 1) l l (l.length : Int) := by
  intro n
  induction n with
  | zero =>
    intro i hin
    have e : i = l.length := by omega
    subst e
    rw [List.take_length]
  | succ n ih =>
    intro i hin
    have hlt : i < l.length := by omega
    have e : k + 1 + (n + 1) = (k + 1 + n) + 1 := by omega
    have w3 : wrap64 ((i : Int) + 1) = ((i + 1 : Nat) : Int) := by rw [w64_id (by omega) (by omega)]; omega
    have ht : (l.take i).length < 17592186044416 := by rw [List.length_take]; omega
    rw [e]
    conv => lhs; rw [sluicelaw01_GrainTotals.l0]
    rw [if_pos (by omega), if_pos (by omega), if_pos ht, rd_nat l i hlt, w3, ← List.take_succ_eq_append_getElem hlt]
    exact ih (i + 1) (by omega)
theorem same_loop (l : List Int) (hl : l.length ≤ 1048576) (c : Int) (d : Int) (k : Nat) : ∀ (n i : Nat), i + n = l.length →
    sluicelaw01_GrainTotals.l1 (k + 1 + n) l (l ++ [171, 205]) c d c d i = some true := by
  intro n
  have hll : (l ++ [171, 205]).length = l.length + 2 := by simp
  induction n with
  | zero =>
    intro i hin
    have e : i = l.length := by omega
    subst e
    have r1 : rd (l ++ [171, 205]) (l.length : Int) = 171 := by rw [rd_nat _ _ (by omega)]; simp
    have r2 : rd (l ++ [171, 205]) ((l.length + 1 : Nat) : Int) = 205 := by rw [rd_nat _ _ (by omega)]; simp
    have w3 : wrap64 ((l.length : Int) + 1) = ((l.length + 1 : Nat) : Int) := by rw [w64_id (by omega) (by omega)]; omega
    rw [Nat.add_zero, sluicelaw01_GrainTotals.l1, if_neg (by omega), if_pos rfl]
    simp only [sluicelaw01_num.f, Option.bind_some, if_true]
    rw [if_pos (by omega), if_pos (by omega), if_pos r1, w3, if_pos (by omega), if_pos (by omega), r2]
    rfl
  | succ n ih =>
    intro i hin
    have hlt : i < l.length := by omega
    have e : k + 1 + (n + 1) = (k + 1 + n) + 1 := by omega
    have w3 : wrap64 ((i : Int) + 1) = ((i + 1 : Nat) : Int) := by rw [w64_id (by omega) (by omega)]; omega
    have r1 : rd (l ++ [171, 205]) (i : Int) = rd l (i : Int) := by
      rw [rd_nat _ _ (by omega), rd_nat _ _ hlt, List.getElem_append_left hlt]
    rw [e, sluicelaw01_GrainTotals.l1, if_pos (by omega), if_pos (by omega), if_pos (by omega), if_pos r1, w3]
    exact ih (i + 1) (by omega)

def GrainTotalsUpto : Prop := ∀ (l0 : List Int), l0.length ≤ maxLen → l0.length * 8 ≤ 140737488351232 → (∀ x ∈ l0, (Lit.int .i64 x).wf = true) → l0.length ≤ 1048576 → ∃ k, sluicelaw01_GrainTotals.f k l0 = some true
theorem GrainTotals : GrainTotalsUpto := by
  intro l _ _ hw hl
  have h := In64.of_wf hw
  refine ⟨1 + 1 + l.length + 1 + l.length, ?_⟩
  unfold sluicelaw01_GrainTotals.f
  have h1 := copy_loop l hl (1 + l.length + 1) l.length 0 (by omega)
  rw [List.take_zero] at h1
  have e1 : 1 + l.length + 1 + 1 + l.length = 1 + 1 + l.length + 1 + l.length := by omega
  rw [e1] at h1
  have e0 : ((0 : Nat) : Int) = 0 := rfl
  rw [e0] at h1
  rw [h1, sluicelaw01_GrainTotals.l0, if_neg (by omega)]
  simp only [Option.bind_some]
  have hll : (l ++ [171, 205]).length = l.length + 2 := by simp
  have hc : l.length + ([171, 205] : List Int).length < 17592186044416 := by simp; omega
  rw [if_pos hc, if_pos (by omega), if_pos (by omega)]
  have ht : ((l ++ [171, 205]).take (l.length : Int).toNat).drop 0 = l := by simp
  rw [ht, total_eq l h (by omega)]
  simp only [Option.bind_some]
  have hr := ref_eq l hl h 1
  have e2 : 1 + l.length + 1 = 1 + 1 + l.length := by omega
  rw [e2, hr]
  simp only [Option.bind_some]
  have := same_loop l hl (mulr (sumI l)).1 (mulr (sumI l)).2 1 l.length 0 (by omega)
  exact this
end Go.Proofs.Ytdnofpafojjjaaa.Pure
