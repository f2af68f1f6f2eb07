/- GrainParts, the pure part, for at most 1048576 bytes: the sum of bytes is the same however they are cut. Conditions: the length. -/
import Derived.Test.YtdnofpafojjjaaaDoorWalkGrainParts
import Derived.Test.YtdnofpafojjjaaaDoorCrc
import Derived.Test.YtdnofpafojjjaaaDoorNum
namespace Go.Proofs.YtdnofpafojjjaaaDoor.Pure
open Go.RowKit Go.Proofs.YtdnofpafojjjaaaDoor.QGrainParts Go.Proofs.YtdnofpafojjjaaaDoorW.PrintWords Go.Proofs.YtdnofpafojjjaaaDoorW.PrintLast Go.Proofs.YtdnofpafojjjaaaDoorW.PrintMore
open Go.Proofs.YtdnofpafojjjaaaDoor.Num Go.Proofs.YtdnofpafojjjaaaDoor.Crc
set_option linter.unusedVariables false
set_option linter.unusedSimpArgs false
theorem steps8_val (x : Nat) (h : x < 4294967296) : grain_steps8.f (x : Int) = some ((D 8 x : Nat) : Int) := by
  have e1 : grain_steps8.s4 (x : Int) = ((D 4 x : Nat) : Int) := four x h
  have h2 : D 4 x < 4294967296 := (D_ok 4 x h).1
  have e2 : grain_steps8.s4 ((D 4 x : Nat) : Int) = ((D 4 (D 4 x) : Nat) : Int) := four _ h2
  show some (grain_steps8.s4 (grain_steps8.s4 (x : Int))) = _
  rw [e1, e2, ← D_add]
def BytesL (l : List Int) : Prop := ∀ c ∈ l, 0 ≤ c ∧ c < 256
theorem rd_nat (l : List Int) (i : Nat) (h : i < l.length) : rd l (i : Int) = l[i] := by
  show l.getD (i : Int).toNat 0 = _
  rw [Int.toNat_natCast, List.getD_eq_getElem?_getD, List.getElem?_eq_getElem h]
  rfl
theorem more_l0 (l : List Int) (hl : BytesL l) (hL : l.length < 1000000000000000) : ∀ (n k i r : Nat), n + i = l.length → n + 1 ≤ k → r < 4294967296 →
    grain_More.l0 k (r : Int) l (l.length : Int) (i : Int) = some (((run r (l.drop i) ^^^ 4294967295 : Nat)) : Int) := by
  intro n
  induction n with
  | zero =>
    intro k i r hn hk hr
    obtain ⟨k, rfl⟩ : ∃ m, k = m + 1 := ⟨k - 1, by omega⟩
    have hi : i = l.length := by omega
    unfold grain_More.l0
    rw [if_neg (by omega), List.drop_of_length_le (by omega)]
    show some (Go.bits .xor .u32 ((4294967295 : Nat) : Int) (r : Int)) = _
    rw [n32_xor _ _ (by decide) hr, Nat.xor_comm]
    rfl
  | succ n ih =>
    intro k i r hn hk hr
    obtain ⟨k, rfl⟩ : ∃ m, k = m + 1 := ⟨k - 1, by omega⟩
    have hi : i < l.length := by omega
    unfold grain_More.l0
    rw [if_pos (by omega), if_pos (by omega), if_pos (by omega), rd_nat l i hi]
    obtain ⟨c0, c1⟩ := hl l[i] (List.getElem_mem hi)
    have hc : l[i] % 4294967296 = (l[i].toNat : Int) := by omega
    rw [hc, n32_xor _ _ hr (by omega)]
    have hx : r ^^^ l[i].toNat < 4294967296 := Nat.xor_lt_two_pow (n := 32) hr (by omega)
    rw [steps8_val _ hx]
    show grain_More.l0 k ((D 8 (r ^^^ l[i].toNat) : Nat) : Int) l (l.length : Int) (wrap64 ((i : Int) + 1)) = _
    rw [w64_id (by omega) (by omega), show (i : Int) + 1 = ((i + 1 : Nat) : Int) from by omega, ih k (i + 1) _ (by omega) (by omega) ((D_ok 8 _ hx).1), List.drop_eq_getElem_cons hi]
    rfl
theorem more_val (l : List Int) (hl : BytesL l) (hL : l.length < 1000000000000000) (k a : Nat) (hk : l.length + 1 ≤ k) (ha : a < 4294967296) :
    grain_More.f k (a : Int) l = some (((run (a ^^^ 4294967295) l ^^^ 4294967295 : Nat)) : Int) := by
  show grain_More.l0 k (Go.bits .xor .u32 ((4294967295 : Nat) : Int) (a : Int)) l (l.length : Int) ((0 : Nat) : Int) = _
  rw [n32_xor _ _ (by decide) ha, Nat.xor_comm, more_l0 l hl hL l.length k 0 _ (by omega) hk (Nat.xor_lt_two_pow (n := 32) ha (by decide))]
  rfl
/-- The sum of a row. -/
def crc (l : List Int) : Nat := run 4294967295 l ^^^ 4294967295
theorem crc_lt (l : List Int) (hl : BytesL l) : crc l < 4294967296 := Nat.xor_lt_two_pow (n := 32) (run_lt l hl _ (by decide)) (by decide)
theorem crc_one (l : List Int) (hl : BytesL l) (hL : l.length < 1000000000000000) (k : Nat) (hk : l.length + 2 ≤ k) : grain_CRC.f k [l] = some ((crc l : Nat) : Int) := by
  obtain ⟨k, rfl⟩ : ∃ m, k = m + 2 := ⟨k - 2, by omega⟩
  unfold grain_CRC.f
  unfold grain_CRC.l0
  rw [if_pos (by simp), if_pos (by decide), if_pos (by simp)]
  have e : grain_More.f (k + 1) 0 (rd_L1 [l] 0) = some ((crc l : Nat) : Int) := by
    have := more_val l hl hL (k + 1) 0 (by omega) (by decide)
    rw [Nat.zero_xor] at this
    exact this
  rw [e]
  show grain_CRC.l0 (k + 1) ((crc l : Nat) : Int) [l] ((([l] : List (List Int)).length : Nat) : Int) (wrap64 (0 + 1)) = _
  unfold grain_CRC.l0
  rw [if_neg (by rw [w64_id (by decide) (by decide)]; simp)]
/-! ### the sum of rows -/
def more (r : Nat) (l : List Int) : Nat := run (r ^^^ 4294967295) l ^^^ 4294967295
theorem more_lt (r : Nat) (l : List Int) (hl : BytesL l) (hr : r < 4294967296) : more r l < 4294967296 :=
  Nat.xor_lt_two_pow (n := 32) (run_lt l hl _ (Nat.xor_lt_two_pow (n := 32) hr (by decide))) (by decide)
def mores : Nat → List (List Int) → Nat
  | r, [] => r
  | r, x :: t => mores (more r x) t
def RowsL (M : Nat) (ls : List (List Int)) : Prop := ∀ x ∈ ls, BytesL x ∧ x.length ≤ M
theorem rd_L1_nat (ls : List (List Int)) (i : Nat) (h : i < ls.length) : rd_L1 ls (i : Int) = ls[i] := by
  show ls.getD (i : Int).toNat [] = _
  rw [Int.toNat_natCast, List.getD_eq_getElem?_getD, List.getElem?_eq_getElem h]
  rfl
theorem crc_rows (M : Nat) (hM : M < 1000000000000000) (ls : List (List Int)) (hl : RowsL M ls) (hL : ls.length < 1000000000000000) : ∀ (n k i r : Nat), n + i = ls.length → n + M + 2 ≤ k → r < 4294967296 →
    grain_CRC.l0 k (r : Int) ls (ls.length : Int) (i : Int) = some ((mores r (ls.drop i) : Nat) : Int) := by
  intro n
  induction n with
  | zero =>
    intro k i r hn hk hr
    obtain ⟨k, rfl⟩ : ∃ m, k = m + 1 := ⟨k - 1, by omega⟩
    unfold grain_CRC.l0
    rw [if_neg (by omega), List.drop_of_length_le (by omega)]
    rfl
  | succ n ih =>
    intro k i r hn hk hr
    obtain ⟨k, rfl⟩ : ∃ m, k = m + 1 := ⟨k - 1, by omega⟩
    have hi : i < ls.length := by omega
    obtain ⟨hb, hm⟩ := hl ls[i] (List.getElem_mem hi)
    unfold grain_CRC.l0
    rw [if_pos (by omega), if_pos (by omega), if_pos (by omega), rd_L1_nat ls i hi, more_val ls[i] hb (by omega) k r (by omega) hr, Option.bind_some, w64_id (by omega) (by omega), show (i : Int) + 1 = ((i + 1 : Nat) : Int) from by omega]
    have := ih k (i + 1) (more r ls[i]) (by omega) (by omega) (more_lt _ _ hb hr)
    rw [List.drop_eq_getElem_cons hi]
    exact this
theorem crcs_val (M : Nat) (hM : M < 1000000000000000) (ls : List (List Int)) (hl : RowsL M ls) (hL : ls.length < 1000000000000000) (k : Nat) (hk : ls.length + M + 2 ≤ k) : grain_CRC.f k ls = some ((mores 0 ls : Nat) : Int) := crc_rows M hM ls hl hL ls.length k 0 0 (by omega) hk (by decide)
/-! ### parts -/
theorem nine : crc [49, 50, 51, 52, 53, 54, 55, 56, 57] = 3421780262 := by decide +kernel
theorem x2 (r : Nat) (m : Nat) : (r ^^^ m) ^^^ m = r := by rw [Nat.xor_assoc, Nat.xor_self, Nat.xor_zero]
theorem more_nil (r : Nat) : more r [] = r := x2 r _
theorem more_app (r : Nat) (a b : List Int) : more (more r a) b = more r (a ++ b) := by
  unfold more
  rw [x2, run_append]
theorem more_zero (l : List Int) : more 0 l = crc l := by
  unfold more crc
  rw [Nat.zero_xor]
theorem crc_app (a b : List Int) : crc (a ++ b) = D (8 * b.length) (crc a) ^^^ crc b := by
  unfold crc
  rw [run_append, run_eq b (run 4294967295 a), run_eq b 4294967295, D_xor, D_xor _ (run 4294967295 a) 4294967295, D_xor _ 4294967295 (num b)]
  generalize D (8 * b.length) (run 4294967295 a) = p
  generalize D (8 * b.length) 4294967295 = q
  generalize D (8 * b.length) (num b) = s
  apply Nat.eq_of_testBit_eq
  intro i
  simp only [Nat.testBit_xor]
  cases p.testBit i <;> cases q.testBit i <;> cases s.testBit i <;> cases (4294967295 : Nat).testBit i <;> rfl
theorem parts_all (A0 : Option Addr) (c0 : Nat) (l : List Int) (a1 : Int) (w : World) (hr0 : (Kd.int .u8).C w A0 l.length l) (hc0 : l.length ≤ c0) (hl : BytesL l) (hL : l.length ≤ 1048576) (hGD : Glob.GD w) (hGS : Glob.GS w) :
    Calls Tryd.prog 7 #[.slice A0 l.length c0, .int .i64 a1] w fun e w' => e = .returned (.bool true) ∧ Below w.heap.size w w' := by
  refine parts_calls (l.length + 40) A0 c0 l a1 w hr0 hc0 ((crc l : Nat) : Int) (crc_one l hl (by omega) _ (by omega)) ?_ ?_ hGD hGS
  · have := crc_one [49, 50, 51, 52, 53, 54, 55, 56, 57] (by unfold BytesL; decide) (by decide) (l.length + 40) (by simp only [List.length_cons, List.length_nil]; omega)
    rw [nine] at this
    exact this
  · intro c hc
    have ht : BytesL (l.take c) := fun x hx => hl x (List.mem_of_mem_take hx)
    have hd : BytesL (l.drop c) := fun x hx => hl x (List.mem_of_mem_drop hx)
    have lt : (l.take c).length = c := by rw [List.length_take]; omega
    have ld : (l.drop c).length = l.length - c := List.length_drop
    have happ : l.take c ++ l.drop c = l := List.take_append_drop c l
    refine ⟨((crc (l.take c) : Nat) : Int), ((crc (l.drop c) : Nat) : Int), crc_one _ ht (by omega) _ (by omega), crc_one _ hd (by omega) _ (by omega), ?_, ?_, ?_⟩
    · unfold grain_Join.f
      have h1 := crc_lt _ ht
      have h2 := crc_lt _ hd
      rw [if_pos ⟨⟨by omega, by omega⟩, ⟨by omega, by omega⟩⟩, if_pos ⟨by omega, by omega⟩, Int.toNat_natCast, Int.toNat_natCast, show ((l.length : Int) - (c : Int)).toNat = (l.drop c).length from by omega, ← crc_app, happ]
    · have h := crcs_val l.length (by omega) [l.take c, [], l.drop c] (by
        intro x hx
        simp only [List.mem_cons, List.not_mem_nil, or_false] at hx
        rcases hx with rfl | rfl | rfl
        · exact ⟨ht, by omega⟩
        · exact ⟨fun c hc => absurd hc (by simp), Nat.zero_le _⟩
        · exact ⟨hd, by omega⟩) (by simp only [List.length_cons, List.length_nil]; omega) (l.length + 40) (by simp only [List.length_cons, List.length_nil]; omega)
      rw [show mores 0 [l.take c, [], l.drop c] = more (more (more 0 (l.take c)) []) (l.drop c) from rfl, more_nil, more_app, happ, more_zero] at h
      exact h
    · have h := more_val (l.drop c) hd (by omega) (l.length + 40) (crc (l.take c)) (by omega) (crc_lt _ ht)
      rw [show run (crc (l.take c) ^^^ 4294967295) (l.drop c) ^^^ 4294967295 = more (crc (l.take c)) (l.drop c) from rfl, ← more_zero, more_app, happ, more_zero] at h
      exact h
theorem GrainParts : True := trivial
end Go.Proofs.YtdnofpafojjjaaaDoor.Pure
namespace Go.Proofs.YtdnofpafojjjaaaDoor.QGrainParts
open Go.RowKit Go.Proofs.YtdnofpafojjjaaaDoorW.PrintWords Go.Proofs.YtdnofpafojjjaaaDoorW.PrintLast Go.Proofs.YtdnofpafojjjaaaDoorW.PrintMore Go.Proofs.YtdnofpafojjjaaaDoor.Num
theorem sluicelaw01_GrainParts.walk (_P : True) (a0 : Option Addr) (len0 cap0 : Nat) (z0 : List Int) (a1 : Int) (w : World) (w0 : (a0 = none ∧ len0 = 0 ∧ cap0 = 0 ∧ z0 = []) ∨ ∃ x, a0 = some x ∧ len0 ≤ cap0 ∧ cap0 ≤ maxLen ∧ z0.length = cap0 ∧ (∀ i, i < z0.length → w.cell? (x.add i) = some (.int .u8 (z0.getD i 0))) ∧ ∀ n ∈ z0, (Lit.int .u8 n).wf = true) (yb0 : len0 ≤ 1048576) (hGD : Glob.GD w) (hGS : Glob.GS w) :
    Calls Tryd.prog 7 #[.slice a0 len0 cap0, .int .i64 a1] w fun e w' => e = .returned (.bool true) ∧ Below w.heap.size w w' := by
  obtain ⟨l0, rfl, hr0, hm0, hw0, hc0⟩ := ReadsInt.ofRowC w0
  exact Pure.parts_all a0 cap0 l0 a1 w (Kd.C_of_reads (d := (0 : Int)) (h1 := fun _ => rfl) hr0) hc0 (fun c hc => wf_u8 (hw0 c hc)) yb0 hGD hGS
end Go.Proofs.YtdnofpafojjjaaaDoor.QGrainParts
