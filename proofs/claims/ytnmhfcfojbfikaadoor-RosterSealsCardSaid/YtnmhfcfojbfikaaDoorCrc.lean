/- The CRC's register as a plain number: one step is linear over xor and takes no number but 0 to 0; a row of bytes is one long number. Conditions: as each lemma says. -/
import Derived.Test.YtnmhfcfojbfikaaDoorGlob
import Derived.Test.YtnmhfcfojbfikaaDoorNum
namespace Go.Proofs.YtnmhfcfojbfikaaDoor.Crc
open Go.RowKit Go.Proofs.YtnmhfcfojbfikaaDoorW.PrintWords Go.Proofs.YtnmhfcfojbfikaaDoor.Num
set_option linter.unusedVariables false
set_option linter.unusedSimpArgs false
/-- One step. -/
def d (x : Nat) : Nat := (x / 2) ^^^ (if x % 2 = 1 then 3988292384 else 0)
def D : Nat → Nat → Nat
  | 0, x => x
  | n + 1, x => D n (d x)
theorem xor_mod2 (x y : Nat) : (x ^^^ y) % 2 = (x % 2 + y % 2) % 2 := by
  have h := Nat.xor_mod_two_pow (a := x) (b := y) (n := 1)
  have hx := Nat.mod_two_eq_zero_or_one x
  have hy := Nat.mod_two_eq_zero_or_one y
  simp only [Nat.pow_one] at h
  rw [h]
  rcases hx with hx | hx <;> rcases hy with hy | hy <;> simp [hx, hy]
theorem xor_div2 (x y : Nat) : (x ^^^ y) / 2 = (x / 2) ^^^ (y / 2) := by
  have := Nat.shiftRight_xor_distrib (a := x) (b := y) (i := 1)
  simpa [Nat.shiftRight_succ] using this
theorem d_xor (x y : Nat) : d (x ^^^ y) = d x ^^^ d y := by
  unfold d
  rw [xor_mod2, xor_div2]
  have e : ∀ a b c e : Nat, (a ^^^ b) ^^^ (c ^^^ e) = (a ^^^ c) ^^^ (b ^^^ e) := fun a b c e => by
    apply Nat.eq_of_testBit_eq
    intro i
    simp only [Nat.testBit_xor]
    cases a.testBit i <;> cases b.testBit i <;> cases c.testBit i <;> cases e.testBit i <;> rfl
  rcases Nat.mod_two_eq_zero_or_one x with hx | hx <;> rcases Nat.mod_two_eq_zero_or_one y with hy | hy
  · simp [hx, hy]
  · simp [hx, hy, Nat.xor_assoc]
  · simp only [hx, hy, Nat.xor_zero, if_pos, if_neg, Nat.add_zero, Nat.one_mod, Nat.zero_ne_one, if_false]
    rw [Nat.xor_assoc, Nat.xor_assoc, Nat.xor_comm (y / 2)]
  · simp only [hx, hy, if_pos]
    rw [e]
    simp
theorem D_xor (n : Nat) : ∀ x y, D n (x ^^^ y) = D n x ^^^ D n y := by
  induction n with
  | zero => intro x y; rfl
  | succ n ih => intro x y; show D n (d (x ^^^ y)) = _; rw [d_xor, ih]; rfl
theorem D_add (m n : Nat) : ∀ x, D (m + n) x = D n (D m x) := by
  induction m with
  | zero => intro x; rw [Nat.zero_add]; rfl
  | succ m ih => intro x; rw [Nat.add_right_comm]; exact ih (d x)
theorem d_even (x : Nat) : d (2 * x) = x := by
  have h1 : 2 * x / 2 = x := by omega
  have h2 : 2 * x % 2 = 0 := by omega
  simp [d, h1, h2]
theorem D_shift (n : Nat) : ∀ x, D n (x <<< n) = x := by
  induction n with
  | zero => intro x; rfl
  | succ n ih =>
    intro x
    show D n (d (x <<< (n + 1))) = x
    rw [Nat.shiftLeft_succ, d_even, ih]
theorem d_lt (x : Nat) (h : x < 2 ^ 32) : d x < 2 ^ 32 := by
  refine Nat.xor_lt_two_pow ?_ ?_
  · omega
  · split <;> decide
theorem d_ne (x : Nat) (h : x < 2 ^ 32) (h0 : x ≠ 0) : d x ≠ 0 := by
  intro hd
  unfold d at hd
  have he : x / 2 = (if x % 2 = 1 then 3988292384 else 0) := by
    generalize (if x % 2 = 1 then 3988292384 else 0) = y at hd
    have h3 : ((x / 2) ^^^ y) ^^^ y = 0 ^^^ y := by rw [hd]
    rw [Nat.xor_assoc, Nat.xor_self, Nat.xor_zero, Nat.zero_xor] at h3
    exact h3
  split at he <;> omega
theorem D_ok (n : Nat) : ∀ x, x < 2 ^ 32 → D n x < 2 ^ 32 ∧ (x ≠ 0 → D n x ≠ 0) := by
  induction n with
  | zero => intro x h; exact ⟨h, id⟩
  | succ n ih =>
    intro x h
    obtain ⟨a, b⟩ := ih (d x) (d_lt x h)
    exact ⟨a, fun h0 => b (d_ne x h h0)⟩
/-- A row of bytes as one number, the first byte lowest. -/
def num : List Int → Nat
  | [] => 0
  | c :: t => c.toNat ^^^ (num t <<< 8)
theorem num_append (a b : List Int) : num (a ++ b) = num a ^^^ (num b <<< (8 * a.length)) := by
  induction a with
  | nil => simp [num]
  | cons c t ih =>
    show c.toNat ^^^ (num (t ++ b) <<< 8) = (c.toNat ^^^ (num t <<< 8)) ^^^ _
    rw [ih, Nat.shiftLeft_xor_distrib, Nat.xor_assoc, ← Nat.shiftLeft_add]
    congr 3
/-- The register behind a row. -/
def run (r : Nat) : List Int → Nat
  | [] => r
  | c :: t => run (D 8 (r ^^^ c.toNat)) t
theorem run_eq (l : List Int) : ∀ r, run r l = D (8 * l.length) (r ^^^ num l) := by
  induction l with
  | nil => intro r; simp [run, num, D]
  | cons c t ih =>
    intro r
    show run (D 8 (r ^^^ c.toNat)) t = _
    rw [ih]
    have e : 8 * (c :: t).length = 8 + 8 * t.length := by simp only [List.length_cons]; omega
    rw [e, D_add]
    congr 1
    show _ = D 8 (r ^^^ (c.toNat ^^^ (num t <<< 8)))
    rw [← Nat.xor_assoc, D_xor 8 (r ^^^ c.toNat), D_shift]
theorem run_append (a b : List Int) : ∀ r, run r (a ++ b) = run (run r a) b := by
  induction a with
  | nil => intro r; rfl
  | cons c t ih => intro r; exact ih _
theorem run_lt (l : List Int) (hl : ∀ c ∈ l, 0 ≤ c ∧ c < 256) : ∀ r, r < 2 ^ 32 → run r l < 2 ^ 32 := by
  induction l with
  | nil => intro r h; exact h
  | cons c t ih =>
    intro r h
    have hc := hl c List.mem_cons_self
    refine ih (fun x hx => hl x (List.mem_cons_of_mem _ hx)) _ ((D_ok 8 _ ?_).1)
    exact Nat.xor_lt_two_pow h (by omega)
/-- One bit turned. -/
theorem num_set (l : List Int) (i m : Nat) (v : Int) (hi : i < l.length) (hv : v.toNat = (l.getD i 0).toNat ^^^ m) : num (l.set i v) = num l ^^^ (m <<< (8 * i)) := by
  induction l generalizing i with
  | nil => simp at hi
  | cons c t ih =>
    cases i with
    | zero =>
      show v.toNat ^^^ (num t <<< 8) = (c.toNat ^^^ (num t <<< 8)) ^^^ (m <<< 0)
      have : v.toNat = c.toNat ^^^ m := hv
      rw [this, Nat.shiftLeft_zero, Nat.xor_assoc, Nat.xor_assoc, Nat.xor_comm m]
    | succ i =>
      show c.toNat ^^^ (num (t.set i v) <<< 8) = (c.toNat ^^^ (num t <<< 8)) ^^^ _
      rw [ih i (by simpa using hi) hv, Nat.shiftLeft_xor_distrib, Nat.xor_assoc, ← Nat.shiftLeft_add]
      congr 3
/-- Bits turned in a window of 32. -/
theorem run_turned (l l' : List Int) (r e at_ : Nat) (hlen : l'.length = l.length) (hn : num l' = num l ^^^ (e <<< at_)) (he : e < 2 ^ 32) (hat : at_ ≤ 8 * l.length) : (run r l' = run r l ↔ e = 0) := by
  rw [run_eq, run_eq, hlen, hn, ← Nat.xor_assoc, D_xor _ (r ^^^ num l)]
  have h2 : D (8 * l.length) (e <<< at_) = D (8 * l.length - at_) e := by
    have : 8 * l.length = at_ + (8 * l.length - at_) := by omega
    rw [this, D_add, D_shift]
    congr 1
    omega
  rw [h2]
  generalize hX : D (8 * l.length) (r ^^^ num l) = X
  obtain ⟨_, hne⟩ := D_ok (8 * l.length - at_) e he
  constructor
  · intro h
    apply Classical.byContradiction
    intro h0
    apply hne h0
    have h3 : X ^^^ (X ^^^ D (8 * l.length - at_) e) = X ^^^ X := by rw [h]
    rw [← Nat.xor_assoc, Nat.xor_self, Nat.zero_xor] at h3
    exact h3
  · intro h0
    subst h0
    have : D (8 * l.length - at_) 0 = 0 := by
      have := D_xor (8 * l.length - at_) 0 0
      rw [Nat.xor_self, Nat.xor_self] at this
      exact this
    rw [this, Nat.xor_zero]
/-! ### the program's step -/
theorem low16 (x : Nat) (h : x < 16) : D 4 x = (Glob.steps.getD x 0).toNat := by
  have : ∀ y : Fin 16, D 4 y.val = (Glob.steps.getD y.val 0).toNat := by decide +kernel
  exact this ⟨x, h⟩
theorem steps_nat (i : Nat) : ((Glob.steps.getD i 0).toNat : Int) = Glob.steps.getD i 0 ∧ (Glob.steps.getD i 0).toNat < 4294967296 := by
  by_cases h : i < 16
  · have : ∀ y : Fin 16, ((Glob.steps.getD y.val 0).toNat : Int) = Glob.steps.getD y.val 0 ∧ (Glob.steps.getD y.val 0).toNat < 4294967296 := by decide +kernel
    exact this ⟨i, h⟩
  · have hl : Glob.steps.length ≤ i := by show 16 ≤ i; omega
    rw [List.getD_eq_getElem?_getD, List.getElem?_eq_none hl]
    decide
theorem four (x : Nat) (h : x < 4294967296) : Go.bits .xor .u32 (Glob.steps.getD (Go.bits .and .u32 (x : Int) 15).toNat 0) ((x : Int) / 16) = (D 4 x : Nat) := by
  have h1 : Go.bits .and .u32 (x : Int) 15 = ((x % 16 : Nat) : Int) := by
    have := u32_mask 4 (by decide) (x : Int) (by omega) (by omega)
    rw [show (2 : Int) ^ 4 - 1 = 15 from rfl, show (2 : Int) ^ 4 = 16 from rfl] at this
    rw [this]; omega
  rw [h1, Int.toNat_natCast]
  obtain ⟨e1, e2⟩ := steps_nat (x % 16)
  rw [← e1, show (x : Int) / 16 = ((x / 16 : Nat) : Int) from by omega, n32_xor _ _ e2 (by omega), ← low16 _ (Nat.mod_lt _ (by decide))]
  congr 1
  have hx : x = (x % 16) ^^^ ((x / 16) <<< 4) := by
    apply Nat.eq_of_testBit_eq
    intro i
    rw [Nat.testBit_xor, Nat.testBit_shiftLeft, show x % 16 = x % 2 ^ 4 from rfl, Nat.testBit_mod_two_pow, show x / 16 = x / 2 ^ 4 from rfl, Nat.testBit_div_two_pow]
    by_cases hi : 4 ≤ i
    · have : ¬ i < 4 := by omega
      simp [hi, this]
    · have : i < 4 := by omega
      simp [hi, this]
  conv => rhs; rw [hx, D_xor, D_shift]
end Go.Proofs.YtnmhfcfojbfikaaDoor.Crc
