/- GrainSums, the pure part: the sum of parts, and what comes behind any sum. Conditions: none but the row's own. -/
import Derived.Test.YtdnofpafojjjaaaDoorWalkGrainSums
import Derived.Test.YtdnofpafojjjaaaDoorCrc
namespace Go.Proofs.YtdnofpafojjjaaaDoor.Pure
open Go.RowKit Go.Proofs.YtdnofpafojjjaaaDoor.QGrainSums Go.Proofs.YtdnofpafojjjaaaDoorW.PrintWords Go.Proofs.YtdnofpafojjjaaaDoorW.PrintLast Go.Proofs.YtdnofpafojjjaaaDoorW.PrintMore
open Go.Proofs.YtdnofpafojjjaaaDoor.Num Go.Proofs.YtdnofpafojjjaaaDoor.Crc
set_option linter.unusedVariables false
set_option linter.unusedSimpArgs false
theorem steps8_val (x : Nat) (h : x < 4294967296) : grain_steps8.f (x : Int) = some ((D 8 x : Nat) : Int) := by
  have e1 : grain_steps8.s4 (x : Int) = ((D 4 x : Nat) : Int) := four x h
  have h2 : D 4 x < 4294967296 := (D_ok 4 x h).1
  have e2 : grain_steps8.s4 ((D 4 x : Nat) : Int) = ((D 4 (D 4 x) : Nat) : Int) := four _ h2
  show some (grain_steps8.s4 (grain_steps8.s4 (x : Int))) = _
  rw [e1, e2, ← D_add]
def BytesL (l : List Int) : Prop := ∀ c ∈ l, 0 ≤ c ∧ c < 256
theorem rd_nat (l : List Int) (i : Nat) (h : i < l.length) : rd l (i : Int) = l[i] := by
  show l.getD (i : Int).toNat 0 = _
  rw [Int.toNat_natCast, List.getD_eq_getElem?_getD, List.getElem?_eq_getElem h]
  rfl
theorem more_l0 (l : List Int) (hl : BytesL l) (hL : l.length < 1000000000000000) : ∀ (n k i r : Nat), n + i = l.length → n + 1 ≤ k → r < 4294967296 →
    grain_More.l0 k (r : Int) l (l.length : Int) (i : Int) = some (((run r (l.drop i) ^^^ 4294967295 : Nat)) : Int) := by
  intro n
  induction n with
  | zero =>
    intro k i r hn hk hr
    obtain ⟨k, rfl⟩ : ∃ m, k = m + 1 := ⟨k - 1, by omega⟩
    have hi : i = l.length := by omega
    unfold grain_More.l0
    rw [if_neg (by omega), List.drop_of_length_le (by omega)]
    show some (Go.bits .xor .u32 ((4294967295 : Nat) : Int) (r : Int)) = _
    rw [n32_xor _ _ (by decide) hr, Nat.xor_comm]
    rfl
  | succ n ih =>
    intro k i r hn hk hr
    obtain ⟨k, rfl⟩ : ∃ m, k = m + 1 := ⟨k - 1, by omega⟩
    have hi : i < l.length := by omega
    unfold grain_More.l0
    rw [if_pos (by omega), if_pos (by omega), if_pos (by omega), rd_nat l i hi]
    obtain ⟨c0, c1⟩ := hl l[i] (List.getElem_mem hi)
    have hc : l[i] % 4294967296 = (l[i].toNat : Int) := by omega
    rw [hc, n32_xor _ _ hr (by omega)]
    have hx : r ^^^ l[i].toNat < 4294967296 := Nat.xor_lt_two_pow (n := 32) hr (by omega)
    rw [steps8_val _ hx]
    show grain_More.l0 k ((D 8 (r ^^^ l[i].toNat) : Nat) : Int) l (l.length : Int) (wrap64 ((i : Int) + 1)) = _
    rw [w64_id (by omega) (by omega), show (i : Int) + 1 = ((i + 1 : Nat) : Int) from by omega, ih k (i + 1) _ (by omega) (by omega) ((D_ok 8 _ hx).1), List.drop_eq_getElem_cons hi]
    rfl
theorem more_val (l : List Int) (hl : BytesL l) (hL : l.length < 1000000000000000) (k a : Nat) (hk : l.length + 1 ≤ k) (ha : a < 4294967296) :
    grain_More.f k (a : Int) l = some (((run (a ^^^ 4294967295) l ^^^ 4294967295 : Nat)) : Int) := by
  show grain_More.l0 k (Go.bits .xor .u32 ((4294967295 : Nat) : Int) (a : Int)) l (l.length : Int) ((0 : Nat) : Int) = _
  rw [n32_xor _ _ (by decide) ha, Nat.xor_comm, more_l0 l hl hL l.length k 0 _ (by omega) hk (Nat.xor_lt_two_pow (n := 32) ha (by decide))]
  rfl
/-- The sum of a row. -/
def crc (l : List Int) : Nat := run 4294967295 l ^^^ 4294967295
theorem crc_lt (l : List Int) (hl : BytesL l) : crc l < 4294967296 := Nat.xor_lt_two_pow (n := 32) (run_lt l hl _ (by decide)) (by decide)
theorem crc_one (l : List Int) (hl : BytesL l) (hL : l.length < 1000000000000000) (k : Nat) (hk : l.length + 2 ≤ k) : grain_CRC.f k [l] = some ((crc l : Nat) : Int) := by
  obtain ⟨k, rfl⟩ : ∃ m, k = m + 2 := ⟨k - 2, by omega⟩
  unfold grain_CRC.f
  unfold grain_CRC.l0
  rw [if_pos (by simp), if_pos (by decide), if_pos (by simp)]
  have e : grain_More.f (k + 1) 0 (rd_L1 [l] 0) = some ((crc l : Nat) : Int) := by
    have := more_val l hl hL (k + 1) 0 (by omega) (by decide)
    rw [Nat.zero_xor] at this
    exact this
  rw [e]
  show grain_CRC.l0 (k + 1) ((crc l : Nat) : Int) [l] ((([l] : List (List Int)).length : Nat) : Int) (wrap64 (0 + 1)) = _
  unfold grain_CRC.l0
  rw [if_neg (by rw [w64_id (by decide) (by decide)]; simp)]
/-! ### the document's sum of bytes -/
theorem down_val (x : Nat) (h : x < 4294967296) : sluiceref01_down.f (x : Int) = some ((d x : Nat) : Int) := by
  unfold sluiceref01_down.f
  rw [tmod_nonneg _ _ (by omega), tdiv_nonneg _ _ (by omega), show (x : Int) / 2 % 4294967296 = ((x / 2 : Nat) : Int) from by omega]
  have := n32_xor (x / 2) 3988292384 (by omega) (by decide)
  unfold d
  split
  · rw [if_pos (by omega)]
    exact congrArg some this
  · rw [if_neg (by omega), Nat.xor_zero]
theorem rmore_l1 (l : List Int) (i : Int) : ∀ (n : Nat) (k : Nat) (r : Nat) (j : Int), r < 4294967296 → (n : Int) + j = 8 → 0 ≤ j →
    sluiceref01_More.l1 (k + 1 + n) l (r : Int) i j = sluiceref01_More.l0 k l ((D n r : Nat) : Int) (wrap64 (i + 1)) := by
  intro n
  induction n with
  | zero =>
    intro k r j hr hj _
    rw [sluiceref01_More.l1]
    rw [if_neg (by omega)]
    rfl
  | succ n ih =>
    intro k r j hr hj h0
    rw [show k + 1 + (n + 1) = (k + 1 + n) + 1 from by omega]
    rw [sluiceref01_More.l1]
    rw [if_pos (by omega), down_val r hr]
    show sluiceref01_More.l1 (k + 1 + n) l ((d r : Nat) : Int) i (wrap64 (j + 1)) = _
    rw [w64_id (by omega) (by omega), ih k (d r) (j + 1) (d_lt r hr) (by omega) (by omega)]
    rfl
theorem rmore_l0 (l : List Int) (hl : BytesL l) (hL : l.length < 1000000000000000) : ∀ (n k i r : Nat), n + i = l.length → 10 * n + 1 ≤ k → r < 4294967296 →
    sluiceref01_More.l0 k l (r : Int) (i : Int) = some (((run r (l.drop i) ^^^ 4294967295 : Nat)) : Int) := by
  intro n
  induction n with
  | zero =>
    intro k i r hn hk hr
    obtain ⟨k, rfl⟩ : ∃ m, k = m + 1 := ⟨k - 1, by omega⟩
    have hi : i = l.length := by omega
    rw [sluiceref01_More.l0]
    rw [if_neg (by omega), List.drop_of_length_le (by omega)]
    show some (Go.bits .xor .u32 ((4294967295 : Nat) : Int) (r : Int)) = _
    rw [n32_xor _ _ (by decide) hr, Nat.xor_comm]
    rfl
  | succ n ih =>
    intro k i r hn hk hr
    obtain ⟨k, rfl⟩ : ∃ m, k = m + 1 + 8 + 1 := ⟨k - 10, by omega⟩
    have hi : i < l.length := by omega
    rw [sluiceref01_More.l0]
    rw [if_pos (by omega), if_pos (by omega), rd_nat l i hi]
    obtain ⟨c0, c1⟩ := hl l[i] (List.getElem_mem hi)
    have hc : l[i] % 4294967296 = (l[i].toNat : Int) := by omega
    rw [hc, n32_xor _ _ hr (by omega)]
    have hx : r ^^^ l[i].toNat < 4294967296 := Nat.xor_lt_two_pow (n := 32) hr (by omega)
    rw [rmore_l1 l i 8 k _ 0 hx (by omega) (by omega), w64_id (by omega) (by omega), show (i : Int) + 1 = ((i + 1 : Nat) : Int) from by omega, ih k (i + 1) _ (by omega) (by omega) ((D_ok 8 _ hx).1), List.drop_eq_getElem_cons hi]
    rfl
theorem rmore_val (l : List Int) (hl : BytesL l) (hL : l.length < 1000000000000000) (k a : Nat) (hk : 10 * l.length + 1 ≤ k) (ha : a < 4294967296) :
    sluiceref01_More.f k (a : Int) l = some (((run (a ^^^ 4294967295) l ^^^ 4294967295 : Nat)) : Int) := by
  show sluiceref01_More.l0 k l (Go.bits .xor .u32 ((4294967295 : Nat) : Int) (a : Int)) ((0 : Nat) : Int) = _
  rw [n32_xor _ _ (by decide) ha, Nat.xor_comm, rmore_l0 l hl hL l.length k 0 _ (by omega) hk (Nat.xor_lt_two_pow (n := 32) ha (by decide))]
  rfl
theorem rcrc_one (l : List Int) (hl : BytesL l) (hL : l.length < 1000000000000000) (k : Nat) (hk : 10 * l.length + 2 ≤ k) : sluiceref01_CRC.f k [l] = some ((crc l : Nat) : Int) := by
  obtain ⟨k, rfl⟩ : ∃ m, k = m + 2 := ⟨k - 2, by omega⟩
  unfold sluiceref01_CRC.f
  unfold sluiceref01_CRC.l0
  rw [if_pos (by simp), if_pos (by decide)]
  have e : sluiceref01_More.f (k + 1) 0 (rd_L1 [l] 0) = some ((crc l : Nat) : Int) := by
    have := rmore_val l hl hL (k + 1) 0 (by omega) (by decide)
    rw [Nat.zero_xor] at this
    exact this
  rw [e]
  show sluiceref01_CRC.l0 (k + 1) [l] ((crc l : Nat) : Int) (wrap64 (0 + 1)) = _
  unfold sluiceref01_CRC.l0
  rw [if_neg (by rw [w64_id (by decide) (by decide)]; simp)]
/-! ### the sum of rows -/
def more (r : Nat) (l : List Int) : Nat := run (r ^^^ 4294967295) l ^^^ 4294967295
theorem more_lt (r : Nat) (l : List Int) (hl : BytesL l) (hr : r < 4294967296) : more r l < 4294967296 :=
  Nat.xor_lt_two_pow (n := 32) (run_lt l hl _ (Nat.xor_lt_two_pow (n := 32) hr (by decide))) (by decide)
def mores : Nat → List (List Int) → Nat
  | r, [] => r
  | r, x :: t => mores (more r x) t
def RowsL (M : Nat) (ls : List (List Int)) : Prop := ∀ x ∈ ls, BytesL x ∧ x.length ≤ M
theorem rd_L1_nat (ls : List (List Int)) (i : Nat) (h : i < ls.length) : rd_L1 ls (i : Int) = ls[i] := by
  show ls.getD (i : Int).toNat [] = _
  rw [Int.toNat_natCast, List.getD_eq_getElem?_getD, List.getElem?_eq_getElem h]
  rfl
theorem crc_rows (M : Nat) (hM : M < 1000000000000000) (ls : List (List Int)) (hl : RowsL M ls) (hL : ls.length < 1000000000000000) : ∀ (n k i r : Nat), n + i = ls.length → n + M + 2 ≤ k → r < 4294967296 →
    grain_CRC.l0 k (r : Int) ls (ls.length : Int) (i : Int) = some ((mores r (ls.drop i) : Nat) : Int) := by
  intro n
  induction n with
  | zero =>
    intro k i r hn hk hr
    obtain ⟨k, rfl⟩ : ∃ m, k = m + 1 := ⟨k - 1, by omega⟩
    unfold grain_CRC.l0
    rw [if_neg (by omega), List.drop_of_length_le (by omega)]
    rfl
  | succ n ih =>
    intro k i r hn hk hr
    obtain ⟨k, rfl⟩ : ∃ m, k = m + 1 := ⟨k - 1, by omega⟩
    have hi : i < ls.length := by omega
    obtain ⟨hb, hm⟩ := hl ls[i] (List.getElem_mem hi)
    unfold grain_CRC.l0
    rw [if_pos (by omega), if_pos (by omega), if_pos (by omega), rd_L1_nat ls i hi, more_val ls[i] hb (by omega) k r (by omega) hr, Option.bind_some, w64_id (by omega) (by omega), show (i : Int) + 1 = ((i + 1 : Nat) : Int) from by omega]
    have := ih k (i + 1) (more r ls[i]) (by omega) (by omega) (more_lt _ _ hb hr)
    rw [List.drop_eq_getElem_cons hi]
    exact this
theorem rcrc_rows (M : Nat) (hM : M < 1000000000000000) (ls : List (List Int)) (hl : RowsL M ls) (hL : ls.length < 1000000000000000) : ∀ (n k i r : Nat), n + i = ls.length → n + 10 * M + 2 ≤ k → r < 4294967296 →
    sluiceref01_CRC.l0 k ls (r : Int) (i : Int) = some ((mores r (ls.drop i) : Nat) : Int) := by
  intro n
  induction n with
  | zero =>
    intro k i r hn hk hr
    obtain ⟨k, rfl⟩ : ∃ m, k = m + 1 := ⟨k - 1, by omega⟩
    unfold sluiceref01_CRC.l0
    rw [if_neg (by omega), List.drop_of_length_le (by omega)]
    rfl
  | succ n ih =>
    intro k i r hn hk hr
    obtain ⟨k, rfl⟩ : ∃ m, k = m + 1 := ⟨k - 1, by omega⟩
    have hi : i < ls.length := by omega
    obtain ⟨hb, hm⟩ := hl ls[i] (List.getElem_mem hi)
    unfold sluiceref01_CRC.l0
    rw [if_pos (by omega), if_pos (by omega), rd_L1_nat ls i hi, rmore_val ls[i] hb (by omega) k r (by omega) hr, Option.bind_some, w64_id (by omega) (by omega), show (i : Int) + 1 = ((i + 1 : Nat) : Int) from by omega]
    have := ih k (i + 1) (more r ls[i]) (by omega) (by omega) (more_lt _ _ hb hr)
    rw [List.drop_eq_getElem_cons hi]
    exact this
theorem crcs_val (M : Nat) (hM : M < 1000000000000000) (ls : List (List Int)) (hl : RowsL M ls) (hL : ls.length < 1000000000000000) (k : Nat) (hk : ls.length + M + 2 ≤ k) : grain_CRC.f k ls = some ((mores 0 ls : Nat) : Int) := crc_rows M hM ls hl hL ls.length k 0 0 (by omega) hk (by decide)
theorem rcrcs_val (M : Nat) (hM : M < 1000000000000000) (ls : List (List Int)) (hl : RowsL M ls) (hL : ls.length < 1000000000000000) (k : Nat) (hk : ls.length + 10 * M + 2 ≤ k) : sluiceref01_CRC.f k ls = some ((mores 0 ls : Nat) : Int) := rcrc_rows M hM ls hl hL ls.length k 0 0 (by omega) hk (by decide)
/-! ### the law -/
theorem twin_val (l : List Int) (h : l.length ≤ 4194304) : sluicelaw01_twin.f l = some l := if_pos (by omega)
theorem kept_val (l : List Int) (h : l.length ≤ 4194304) : sluicelaw01_kept.f l l = some true := by
  unfold sluicelaw01_kept.f
  rw [if_pos (by omega)]
  exact congrArg some (decide_eq_true rfl)
theorem l2_true (ls : List (List Int)) (hl : RowsL 4194304 ls) (hL : ls.length ≤ 5864062014634) (a : Nat) (ha : a < 4294967296) : ∀ (n k i : Nat), n + i = ls.length → n + 41943050 ≤ k →
    sluicelaw01_GrainSums.l2 k ls (a : Int) ls (i : Int) = some true := by
  intro n
  induction n with
  | zero =>
    intro k i hn hk
    obtain ⟨k, rfl⟩ : ∃ m, k = m + 1 := ⟨k - 1, by omega⟩
    rw [sluicelaw01_GrainSums.l2, if_neg (by omega)]
  | succ n ih =>
    intro k i hn hk
    obtain ⟨k, rfl⟩ : ∃ m, k = m + 1 := ⟨k - 1, by omega⟩
    have hi : i < ls.length := by omega
    obtain ⟨hb, hm⟩ := hl ls[i] (List.getElem_mem hi)
    rw [sluicelaw01_GrainSums.l2, if_pos (by omega), if_pos (by omega), if_pos (by omega), rd_L1_nat ls i hi, more_val ls[i] hb (by omega) k a (by omega) ha, Option.bind_some, rmore_val ls[i] hb (by omega) k a (by omega) ha, Option.bind_some, if_pos rfl, kept_val _ hm, Option.bind_some, if_pos rfl, w64_id (by omega) (by omega), show (i : Int) + 1 = ((i + 1 : Nat) : Int) from by omega]
    exact ih k (i + 1) (by omega) (by omega)
theorem l1_true (ls : List (List Int)) (hl : RowsL 4194304 ls) (hL : ls.length ≤ 5864062014634) (a : Nat) (ha : a < 4294967296) : ∀ (n k i : Nat), n + i = ls.length → n + ls.length + 41943060 ≤ k →
    sluicelaw01_GrainSums.l1 k ls (a : Int) (ls.take i) (i : Int) = some true := by
  intro n
  induction n with
  | zero =>
    intro k i hn hk
    obtain ⟨k, rfl⟩ : ∃ m, k = m + 1 := ⟨k - 1, by omega⟩
    rw [sluicelaw01_GrainSums.l1, if_neg (by omega), List.take_of_length_le (by omega), crcs_val 4194304 (by decide) ls hl (by omega) k (by omega), Option.bind_some, rcrcs_val 4194304 (by decide) ls hl (by omega) k (by omega), Option.bind_some, if_pos rfl]
    exact l2_true ls hl hL a ha ls.length k 0 (by omega) (by omega)
  | succ n ih =>
    intro k i hn hk
    obtain ⟨k, rfl⟩ : ∃ m, k = m + 1 := ⟨k - 1, by omega⟩
    have hi : i < ls.length := by omega
    obtain ⟨hb, hm⟩ := hl ls[i] (List.getElem_mem hi)
    rw [sluicelaw01_GrainSums.l1, if_pos (by omega), if_pos (by omega), rd_L1_nat ls i hi, twin_val _ hm, Option.bind_some, if_pos (by rw [List.length_take]; omega), w64_id (by omega) (by omega), show (i : Int) + 1 = ((i + 1 : Nat) : Int) from by omega, ← List.take_succ_eq_append_getElem hi]
    exact ih k (i + 1) (by omega) (by omega)
theorem j1_true (ls : List (List Int)) (hb : ∀ x ∈ ls, BytesL x) (hL : ls.length ≤ 5864062014634) (a : Nat) (ha : a < 4294967296) (left : Int) (hleft : 0 ≤ left → ∀ x ∈ ls, x.length ≤ 4194304) (k : Nat) (hk : 2 * ls.length + 41943070 ≤ k) :
    sluicelaw01_GrainSums.j1 k ls (a : Int) left = some true := by
  obtain ⟨k, rfl⟩ : ∃ m, k = m + 1 := ⟨k - 1, by omega⟩
  rw [sluicelaw01_GrainSums.j1]
  split
  · rfl
  · have h := hleft (by omega)
    exact l1_true ls (fun x hx => ⟨hb x hx, h x hx⟩) hL a ha ls.length k 0 (by omega) (by omega)
theorem l0_true (ls : List (List Int)) (hb : ∀ x ∈ ls, BytesL x) (hm : ∀ x ∈ ls, x.length ≤ 9223372036854775807) (hL : ls.length ≤ 5864062014634) (a : Nat) (ha : a < 4294967296) : ∀ (n k i : Nat) (left : Int), n + i = ls.length → n + 2 * ls.length + 41943080 ≤ k →
    -9223372036854775807 ≤ left → left ≤ 4194304 → (∀ x ∈ ls.take i, (x.length : Int) ≤ 4194304 - left) → sluicelaw01_GrainSums.l0 k ls (a : Int) left (i : Int) = some true := by
  intro n
  induction n with
  | zero =>
    intro k i left hn hk h0 h1 hx
    obtain ⟨k, rfl⟩ : ∃ m, k = m + 1 := ⟨k - 1, by omega⟩
    rw [sluicelaw01_GrainSums.l0, if_neg (by omega)]
    rw [List.take_of_length_le (by omega)] at hx
    exact j1_true ls hb hL a ha left (fun h x hxm => by have := hx x hxm; omega) k (by omega)
  | succ n ih =>
    intro k i left hn hk h0 h1 hx
    obtain ⟨k, rfl⟩ : ∃ m, k = m + 1 := ⟨k - 1, by omega⟩
    have hi : i < ls.length := by omega
    rw [sluicelaw01_GrainSums.l0, if_pos (by omega)]
    split
    · have hmi := hm ls[i] (List.getElem_mem hi)
      rw [if_pos (by omega), rd_L1_nat ls i hi, w64_id (n := left - _) (by omega) (by omega), w64_id (by omega) (by omega), show (i : Int) + 1 = ((i + 1 : Nat) : Int) from by omega]
      refine ih k (i + 1) _ (by omega) (by omega) (by omega) (by omega) (fun x hxm => ?_)
      rw [List.take_succ_eq_append_getElem hi, List.mem_append, List.mem_singleton] at hxm
      rcases hxm with h | h
      · have := hx x h; omega
      · rw [h]; omega
    · exact j1_true ls hb hL a ha left (fun h => by omega) k (by omega)
theorem sums_true (ls : List (List Int)) (hb : ∀ x ∈ ls, BytesL x) (hm : ∀ x ∈ ls, x.length ≤ 9223372036854775807) (hL : ls.length ≤ 5864062014634) (a : Int) (ha : 0 ≤ a ∧ a < 4294967296) : ∃ k, sluicelaw01_GrainSums.f k ls a = some true := by
  refine ⟨3 * ls.length + 41943090, ?_⟩
  have := l0_true ls hb hm hL a.toNat (by omega) ls.length (3 * ls.length + 41943090) 0 4194304 (by omega) (by omega) (by omega) (by omega) (by rw [List.take_zero]; intro x hx; cases hx)
  rw [show ((a.toNat : Nat) : Int) = a from by omega] at this
  exact this
/-- The law. -/
theorem GrainSums : sluicelaw01_GrainSums.Pure := fun ls a hL hw hm ha => sums_true ls (fun x hx c hc => wf_u8 (hw x hx c hc)) (fun x hx => by have := hm x hx; have e_ : maxLen = 9223372036854775807 := rfl; omega) (by omega) a (wf_u32 ha)
end Go.Proofs.YtdnofpafojjjaaaDoor.Pure
