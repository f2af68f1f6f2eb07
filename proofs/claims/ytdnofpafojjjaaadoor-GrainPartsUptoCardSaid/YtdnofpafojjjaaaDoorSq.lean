/- Maps of registers: 32 numbers in a block of their own; what such a map makes of a register; the map of e steps. Conditions: as each lemma says. -/
import Derived.Test.YtdnofpafojjjaaaDoorCrc
import Derived.Deep.WholeRow
import Derived.Test.YtdnofpafojjjaaaDoorWMore
namespace Go.Proofs.YtdnofpafojjjaaaDoor.Sq
open Go.RowKit Go.Proofs.YtdnofpafojjjaaaDoorW.PrintWords Go.Proofs.YtdnofpafojjjaaaDoorW.PrintLast Go.Proofs.YtdnofpafojjjaaaDoorW.PrintMore Go.Proofs.YtdnofpafojjjaaaDoor.Num Go.Proofs.YtdnofpafojjjaaaDoor.Crc
set_option linter.unusedVariables false
set_option linter.unusedSimpArgs false
/-- The numbers as cells. -/
def U (s : List Nat) : Array Value := (s.map fun x : Nat => Value.int .u32 (x : Int)).toArray
theorem U_size (s : List Nat) : (U s).size = s.length := by simp [U]
theorem U_one (s : List Nat) : (U s).all (·.oneCell') = true := by
  rw [Array.all_eq_true_iff_forall_mem]
  intro v hv
  simp only [U, List.mem_toArray, List.mem_map] at hv
  obtain ⟨x, _, rfl⟩ := hv
  rfl
/-- The 32 numbers stand in block g. -/
def At (t : TypeId) (w : World) (g : Nat) (s : List Nat) : Prop := s.length = 32 ∧ w.heap[g]? = some (.cells (U s) t (0, 0))
section
variable {t : TypeId} {w w' w0 : World} {g g' base : Nat} {s s' : List Nat}
theorem At.lt (h : At t w g s) : g < w.heap.size := blk_lt h.2
theorem At.cell (h : At t w g s) (i : Nat) (hi : i < 32) : w.cell? ⟨g, i, none⟩ = some (.int .u32 ((s.getD i 0 : Nat) : Int)) := by
  rw [blk_cell h.2 i]
  have hl : i < s.length := by rw [h.1]; exact hi
  simp [U, hl]
theorem At.frozen (h : At t w g s) (i : Nat) : w.frozen? ⟨g, i, none⟩ = false := blk_frozen h.2 i
theorem At.set (h : At t w g s) (i : Nat) (x : Nat) : At t (w.setCell ⟨g, i, none⟩ (.int .u32 (x : Int))) g (s.set i x) := by
  refine ⟨by rw [List.length_set]; exact h.1, ?_⟩
  rw [setCell_eq_setRow w g i _ t (0, 0) _ h.2, setRow_heap w g _ _ t (0, 0) h.2]
  congr 2
  simp [U, List.map_set]
theorem At.far (h : At t w g s) (hg : g ≠ g') (i : Nat) (u : Value) : At t (w.setCell ⟨g', i, none⟩ u) g s := ⟨h.1, (Below.heap_setCell w ⟨g', i, none⟩ u g hg).trans h.2⟩
theorem At.store (h : At t w g s) (hs : s'.length = 32) : At t (w.setRow g (U s')) g s' := ⟨hs, setRow_heap w g _ _ t (0, 0) h.2⟩
theorem At.row_far (h : At t w g s) (hg : g ≠ g') (cs : Array Value) : At t (w.setRow g' cs) g s := by
  refine ⟨h.1, ?_⟩
  rw [← h.2]
  unfold World.setRow
  show (w.heap.modify g' _)[g]? = w.heap[g]?
  rw [Array.getElem?_modify, if_neg (Ne.symm hg)]
theorem At.below (h : At t w g s) (hb : Below w.heap.size w w') : At t w' g s := ⟨h.1, blk_below h.2 hb⟩
theorem At.below' (h : At t w g s) (hg : g < base) (hb : Below base w w') : At t w' g s := ⟨h.1, (hb.block g hg).trans h.2⟩
theorem At.drewN (h : At t w g s) (n : Nat) : At t (w.drewN n) g s := h
theorem At.drew (h : At t w g s) : At t w.drew g s := h
theorem At.alloc (h : At t w g s) (o : Obj) : At t (w.alloc o) g s := h.below (below_alloc (Below.refl _ _) o)
theorem below_row (h : Below base w0 w) (hg : base ≤ g) (cs : Array Value) : Below base w0 (w.setRow g cs) := by
  refine ⟨h.os, h.tape, h.output, ?_, fun k hk => ?_⟩
  · show w0.heap.size ≤ (w.heap.modify g _).size
    rw [Array.size_modify]
    exact h.size
  · rw [← h.block k hk]
    show (w.heap.modify g _)[k]? = w.heap[k]?
    rw [Array.getElem?_modify, if_neg (by omega)]
end
section
variable {P : Program} {ops : Array Oper} {rest : List Oper} {o : Oper} {a : Act} {Q : Exit → Act → World → Prop} {W : World}
theorem load_run {T : TypeId} {p : Tmp} (ho : o.op = .load T (.tmp p)) {g : Nat} {s : List Nat} (hx : a.eval (.tmp p) = .pointer (some ⟨g, 0, none⟩)) {t : TypeId} (h : At t W g s) {n e : Nat} (hu : P.underlying T = some (.array n e)) (hi : (P.info? T).map (·.size) = some 32) :
    (execOp a.eval o).run P W = .ok (.value (.agg (U s))) W := by
  unfold execOp
  simp only [ho, hx, Instr.loadAt, Instr.sureAddr, Sem.run_bind, Sem.run_pure, Result.andThen_ok, run_loadVar_row W g t T (U s) (0, 0) _ h.2 hu rfl (by rw [hi, U_size, h.1])]
/-- A whole array out of its block. -/
theorem load_event (hgd : o.guard = none) {T : TypeId} {p : Tmp} (ho : o.op = .load T (.tmp p)) {g : Nat} {s : List Nat} (hx : a.eval (.tmp p) = .pointer (some ⟨g, 0, none⟩)) {t : TypeId} (h : At t W g s) {n e : Nat} (hu : P.underlying T = some (.array n e)) (hi : (P.info? T).map (·.size) = some 32)
    (hk : wpList P ops Q rest (a.put o.dst (.agg (U s))) W) : wpList P ops Q (o :: rest) a W := by
  refine Kd.event_run hgd ?_ hk
  unfold execOp
  simp only [ho, hx, Instr.loadAt, Instr.sureAddr, Sem.run_bind, Sem.run_pure, Result.andThen_ok, run_loadVar_row W g t T (U s) (0, 0) _ h.2 hu rfl (by rw [hi, U_size, h.1])]
/-- A whole array into its block. -/
theorem store_event (hgd : o.guard = none) {T : TypeId} {p : Tmp} {v : Operand} (ho : o.op = .store T (.tmp p) v) (hN : o.dst = none) {g : Nat} {s s' : List Nat} (hx : a.eval (.tmp p) = .pointer (some ⟨g, 0, none⟩)) (hy : a.eval v = .agg (U s')) {t : TypeId} (h : At t W g s) (hs : s'.length = 32) (hi : (P.info? T).map (·.size) = some 32)
    (hk : ∀ w', w' = W.setRow g (U s') → wpList P ops Q rest a w') : wpList P ops Q (o :: rest) a W := by
  refine Go.Proofs.YtdnofpafojjjaaaDoorW.PrintWords.store_event hgd ho hN (w1 := W.setRow g (U s')) ?_ hk
  unfold execOp
  simp only [ho, hx, hy, Instr.storeAt, Instr.sureAddr, Sem.run_bind, Sem.run_pure, Result.andThen_ok, run_storeVar_row W g t T (U s) (U s') h.2 (by rw [hi, U_size, hs]) (by rw [U_size, U_size, h.1, hs]) (U_one s')]
end
/-! ### maps -/
def linN (s : List Nat) (a : Nat) : Nat → Nat
  | 0 => 0
  | i + 1 => linN s a i ^^^ (if a.testBit i then s.getD i 0 else 0)
def lin (s : List Nat) (a : Nat) : Nat := linN s a 32
theorem xswap (a b c : Nat) : (a ^^^ b) ^^^ c = (a ^^^ c) ^^^ b := by rw [Nat.xor_assoc, Nat.xor_comm b c, ← Nat.xor_assoc]
theorem linN_clear (s : List Nat) (a a' t : Nat) (ht : a.testBit t = true) (h : ∀ i, a'.testBit i = (a.testBit i && decide (i ≠ t))) : ∀ n, linN s a n = (if t < n then s.getD t 0 else 0) ^^^ linN s a' n
  | 0 => by simp [linN]
  | n + 1 => by
    show linN s a n ^^^ _ = _ ^^^ (linN s a' n ^^^ _)
    rw [linN_clear s a a' t ht h n, h n]
    by_cases c : n = t
    · subst c
      rw [if_neg (by omega), if_pos (by omega), ht]
      simp [Nat.xor_comm]
    · by_cases c2 : t < n
      · have c3 : t < n + 1 := by omega
        simp [c, c2, c3, Nat.xor_assoc]
      · have c3 : ¬ t < n + 1 := by omega
        simp [c, c2, c3]
theorem low_parts : ∀ n a : Nat, a ≤ n → 0 < a → ∃ j q, a = 2 ^ j * (2 * q + 1)
  | 0, a, h, h0 => by omega
  | n + 1, a, h, h0 => by
    by_cases c : a % 2 = 0
    · obtain ⟨j, q, e⟩ := low_parts n (a / 2) (by omega) (by omega)
      refine ⟨j + 1, q, ?_⟩
      rw [Nat.pow_succ, Nat.mul_comm (2 ^ j) 2, Nat.mul_assoc, ← e]
      omega
    · exact ⟨0, a / 2, by simp; omega⟩
theorem low_clear (j q a : Nat) (ha : a = 2 ^ j * (2 * q + 1)) : a.testBit j = true ∧ (∀ i, (a &&& (a - 1)).testBit i = (a.testBit i && decide (i ≠ j))) := by
  have hp : 0 < 2 ^ j := Nat.two_pow_pos j
  have e1 : a = 2 ^ j * (2 * q + 1) + 0 := by omega
  have e2 : a - 1 = 2 ^ j * (2 * q) + (2 ^ j - 1) := by
    rw [ha, Nat.mul_add, Nat.mul_one]; omega
  have b1 : ∀ i, a.testBit i = if i < j then (0 : Nat).testBit i else (2 * q + 1).testBit (i - j) := fun i => by
    conv => lhs; rw [e1]
    exact Nat.testBit_two_pow_mul_add _ hp i
  have b2 : ∀ i, (a - 1).testBit i = if i < j then (2 ^ j - 1).testBit i else (2 * q).testBit (i - j) := fun i => by
    rw [e2]
    exact Nat.testBit_two_pow_mul_add _ (by omega) i
  constructor
  · rw [b1, if_neg (by omega), Nat.sub_self, Nat.testBit_zero]
    simp
  · intro i
    rw [Nat.testBit_and, b1, b2]
    by_cases c : i < j
    · rw [if_pos c, if_pos c]
      simp
    · rw [if_neg c, if_neg c]
      by_cases c2 : i = j
      · subst c2
        rw [Nat.sub_self, Nat.testBit_zero, Nat.testBit_zero]
        simp
      · obtain ⟨d, hd⟩ : ∃ d, i - j = d + 1 := ⟨i - j - 1, by omega⟩
        rw [hd, Nat.testBit_succ, Nat.testBit_succ, show (2 * q + 1) / 2 = q from by omega, show 2 * q / 2 = q from by omega]
        simp [c2]
theorem lin_step (s : List Nat) (j q a : Nat) (hj : j < 32) (ha : a = 2 ^ j * (2 * q + 1)) : lin s a = s.getD j 0 ^^^ lin s (a &&& (a - 1)) := by
  obtain ⟨h1, h2⟩ := low_clear j q a ha
  have := linN_clear s a (a &&& (a - 1)) j h1 h2 32
  rw [if_pos hj] at this
  exact this
theorem lin_zero (s : List Nat) : lin s 0 = 0 := by
  have : ∀ n, linN s 0 n = 0 := by
    intro n
    induction n with
    | zero => rfl
    | succ n ih => show linN s 0 n ^^^ _ = 0; rw [ih]; simp
  exact this 32
/-- The map of e steps. -/
def Mat (e : Nat) : List Nat := (List.range 32).map fun i => D e (2 ^ i)
theorem Mat_len (e : Nat) : (Mat e).length = 32 := by simp [Mat]
theorem Mat_get (e i : Nat) (hi : i < 32) : (Mat e).getD i 0 = D e (2 ^ i) := by simp [Mat, hi]
theorem D_zero (e : Nat) : D e 0 = 0 := by
  have := D_xor e 0 0
  rw [Nat.xor_self, Nat.xor_self] at this
  exact this
theorem linN_Mat (e a : Nat) : ∀ n, n ≤ 32 → linN (Mat e) a n = D e (a % 2 ^ n)
  | 0, _ => by rw [Nat.pow_zero, Nat.mod_one, D_zero]; rfl
  | n + 1, h => by
    show linN (Mat e) a n ^^^ _ = _
    rw [linN_Mat e a n (by omega), Mat_get e n (by omega)]
    have hs : a % 2 ^ (n + 1) = (a % 2 ^ n) ^^^ (if a.testBit n then 2 ^ n else 0) := by
      apply Nat.eq_of_testBit_eq
      intro i
      rw [Nat.testBit_xor, Nat.testBit_mod_two_pow, Nat.testBit_mod_two_pow]
      by_cases c : a.testBit n = true
      · rw [if_pos c, Nat.testBit_two_pow]
        by_cases c2 : i = n
        · subst c2
          simp [c]
        · by_cases c3 : i < n
          · simp [c3, show i < n + 1 by omega, Ne.symm c2]
          · simp [c3, show ¬ i < n + 1 by omega, Ne.symm c2]
      · rw [if_neg c]
        by_cases c2 : i = n
        · subst c2
          simp at c
          simp [c]
        · by_cases c3 : i < n
          · simp [c3, show i < n + 1 by omega]
          · simp [c3, show ¬ i < n + 1 by omega]
    rw [hs, D_xor]
    by_cases c : a.testBit n = true
    · rw [if_pos c, if_pos c]
    · rw [if_neg c, if_neg c, D_zero]
theorem lin_Mat (e a : Nat) (ha : a < 4294967296) : lin (Mat e) a = D e a := by
  have := linN_Mat e a 32 (Nat.le_refl _)
  rw [Nat.mod_eq_of_lt (show a < 2 ^ 32 from ha)] at this
  exact this
theorem Mat_lt (e i : Nat) (hi : i < 32) : (Mat e).getD i 0 < 4294967296 := by
  rw [Mat_get e i hi]
  exact (D_ok e _ (Nat.pow_lt_pow_right (by decide) hi)).1
theorem linN_lt (s : List Nat) (hs : ∀ i, s.getD i 0 < 4294967296) (a : Nat) : ∀ n, linN s a n < 4294967296
  | 0 => by show 0 < 4294967296; decide
  | n + 1 => by
    refine Nat.xor_lt_two_pow (n := 32) (linN_lt s hs a n) ?_
    split
    · exact hs n
    · decide
/-- The map twice over. -/
theorem Mat_twice (e i : Nat) (hi : i < 32) : lin (Mat e) ((Mat e).getD i 0) = (Mat (2 * e)).getD i 0 := by
  rw [lin_Mat e _ (Mat_lt e i hi), Mat_get e i hi, Mat_get _ i hi, ← D_add, show e + e = 2 * e from by omega]
/-- The first i numbers of a map, the rest zero. -/
def zs (e i : Nat) : List Nat := (Mat e).take i ++ List.replicate (32 - i) 0
theorem zs_set (e i : Nat) (hi : i < 32) : (zs e i).set i ((Mat e).getD i 0) = zs e (i + 1) := by
  have hl : i < (Mat e).length := by rw [Mat_len]; exact hi
  have ht : ((Mat e).take i).length = i := by rw [List.length_take]; omega
  unfold zs
  rw [List.set_append_right _ _ (by omega), ht, Nat.sub_self, show 32 - i = (32 - (i + 1)) + 1 from by omega, List.replicate_succ, List.set_cons_zero, List.take_succ_eq_append_getElem hl, List.append_assoc]
  congr 2
  simp [List.getD, hl]
theorem zs_all (e : Nat) : zs e 32 = Mat e := by
  unfold zs
  rw [List.take_of_length_le (by rw [Mat_len]; exact Nat.le_refl _), Nat.sub_self]
  simp
theorem Mat_lt_all (e i : Nat) : (Mat e).getD i 0 < 4294967296 := by
  by_cases h : i < 32
  · exact Mat_lt e i h
  · have hl : (Mat e).length ≤ i := by rw [Mat_len]; omega
    rw [List.getD_eq_getElem?_getD, List.getElem?_eq_none hl]
    decide
theorem half (e n x : Nat) (h : 0 < n) : Crc.D (2 * e * (n / 2)) (if n % 2 = 1 then Crc.D e x else x) = Crc.D (e * n) x := by
  split
  · rw [← Crc.D_add]
    congr 1
    rename_i h1
    have : n = 2 * (n / 2) + 1 := by omega
    conv => rhs; rw [this, Nat.mul_add, ← Nat.mul_assoc, Nat.mul_one, Nat.mul_comm e 2]
    omega
  · congr 1
    rename_i h1
    have : n = 2 * (n / 2) := by omega
    conv => rhs; rw [this, ← Nat.mul_assoc, Nat.mul_comm e 2]
end Go.Proofs.YtdnofpafojjjaaaDoor.Sq
