/- RosterSeals, the pure part: every text's seal is the document's, and taken off again. Conditions: none. -/
import Derived.Test.YtnmhfcfojbfikaaDoorQRosterSealsx9
import Derived.Test.YtnmhfcfojbfikaaDoorCrc
import Derived.Lib.Strings
namespace Go.Proofs.YtnmhfcfojbfikaaDoor.Pure
open Go.RowKit Go.Proofs.YtnmhfcfojbfikaaDoor.QRosterSeals Go.Proofs.YtnmhfcfojbfikaaDoorW.PrintWords Go.Proofs.YtnmhfcfojbfikaaDoorW.PrintLast Go.Proofs.YtnmhfcfojbfikaaDoorW.PrintMore
open Go.Proofs.YtnmhfcfojbfikaaDoor.Num Go.Proofs.YtnmhfcfojbfikaaDoor.Crc
set_option linter.unusedVariables false
set_option linter.unusedSimpArgs false
theorem steps8_val (x : Nat) (h : x < 4294967296) : grain_steps8.f (x : Int) = some ((D 8 x : Nat) : Int) := by
  have e1 : grain_steps8.s4 (x : Int) = ((D 4 x : Nat) : Int) := four x h
  have h2 : D 4 x < 4294967296 := (D_ok 4 x h).1
  have e2 : grain_steps8.s4 ((D 4 x : Nat) : Int) = ((D 4 (D 4 x) : Nat) : Int) := four _ h2
  show some (grain_steps8.s4 (grain_steps8.s4 (x : Int))) = _
  rw [e1, e2, ← D_add]
def BytesL (l : List Int) : Prop := ∀ c ∈ l, 0 ≤ c ∧ c < 256
theorem rd_nat (l : List Int) (i : Nat) (h : i < l.length) : rd l (i : Int) = l[i] := by
  show l.getD (i : Int).toNat 0 = _
  rw [Int.toNat_natCast, List.getD_eq_getElem?_getD, List.getElem?_eq_getElem h]
  rfl
theorem more_l0 (l : List Int) (hl : BytesL l) (hL : l.length < 1000000000000000) : ∀ (n k i r : Nat), n + i = l.length → n + 1 ≤ k → r < 4294967296 →
    grain_More.l0 k (r : Int) l (l.length : Int) (i : Int) = some (((run r (l.drop i) ^^^ 4294967295 : Nat)) : Int) := by
  intro n
  induction n with
  | zero =>
    intro k i r hn hk hr
    obtain ⟨k, rfl⟩ : ∃ m, k = m + 1 := ⟨k - 1, by omega⟩
    have hi : i = l.length := by omega
    unfold grain_More.l0
    rw [if_neg (by omega), List.drop_of_length_le (by omega)]
    show some (Go.bits .xor .u32 ((4294967295 : Nat) : Int) (r : Int)) = _
    rw [n32_xor _ _ (by decide) hr, Nat.xor_comm]
    rfl
  | succ n ih =>
    intro k i r hn hk hr
    obtain ⟨k, rfl⟩ : ∃ m, k = m + 1 := ⟨k - 1, by omega⟩
    have hi : i < l.length := by omega
    unfold grain_More.l0
    rw [if_pos (by omega), if_pos (by omega), if_pos (by omega), rd_nat l i hi]
    obtain ⟨c0, c1⟩ := hl l[i] (List.getElem_mem hi)
    have hc : l[i] % 4294967296 = (l[i].toNat : Int) := by omega
    rw [hc, n32_xor _ _ hr (by omega)]
    have hx : r ^^^ l[i].toNat < 4294967296 := Nat.xor_lt_two_pow (n := 32) hr (by omega)
    rw [steps8_val _ hx]
    show grain_More.l0 k ((D 8 (r ^^^ l[i].toNat) : Nat) : Int) l (l.length : Int) (wrap64 ((i : Int) + 1)) = _
    rw [w64_id (by omega) (by omega), show (i : Int) + 1 = ((i + 1 : Nat) : Int) from by omega, ih k (i + 1) _ (by omega) (by omega) ((D_ok 8 _ hx).1), List.drop_eq_getElem_cons hi]
    rfl
theorem more_val (l : List Int) (hl : BytesL l) (hL : l.length < 1000000000000000) (k a : Nat) (hk : l.length + 1 ≤ k) (ha : a < 4294967296) :
    grain_More.f k (a : Int) l = some (((run (a ^^^ 4294967295) l ^^^ 4294967295 : Nat)) : Int) := by
  show grain_More.l0 k (Go.bits .xor .u32 ((4294967295 : Nat) : Int) (a : Int)) l (l.length : Int) ((0 : Nat) : Int) = _
  rw [n32_xor _ _ (by decide) ha, Nat.xor_comm, more_l0 l hl hL l.length k 0 _ (by omega) hk (Nat.xor_lt_two_pow (n := 32) ha (by decide))]
  rfl
/-- The sum of a row. -/
def crc (l : List Int) : Nat := run 4294967295 l ^^^ 4294967295
theorem crc_lt (l : List Int) (hl : BytesL l) : crc l < 4294967296 := Nat.xor_lt_two_pow (n := 32) (run_lt l hl _ (by decide)) (by decide)
theorem crc_one (l : List Int) (hl : BytesL l) (hL : l.length < 1000000000000000) (k : Nat) (hk : l.length + 2 ≤ k) : grain_CRC.f k [l] = some ((crc l : Nat) : Int) := by
  obtain ⟨k, rfl⟩ : ∃ m, k = m + 2 := ⟨k - 2, by omega⟩
  unfold grain_CRC.f
  unfold grain_CRC.l0
  rw [if_pos (by simp), if_pos (by decide), if_pos (by simp)]
  have e : grain_More.f (k + 1) 0 (rd_L1 [l] 0) = some ((crc l : Nat) : Int) := by
    have := more_val l hl hL (k + 1) 0 (by omega) (by decide)
    rw [Nat.zero_xor] at this
    exact this
  rw [e]
  show grain_CRC.l0 (k + 1) ((crc l : Nat) : Int) [l] ((([l] : List (List Int)).length : Nat) : Int) (wrap64 (0 + 1)) = _
  unfold grain_CRC.l0
  rw [if_neg (by rw [w64_id (by decide) (by decide)]; simp)]
theorem down_val (x : Nat) (h : x < 4294967296) : sluiceref01_down.f (x : Int) = some ((d x : Nat) : Int) := by
  unfold sluiceref01_down.f
  rw [tmod_nonneg _ _ (by omega), tdiv_nonneg _ _ (by omega), show (x : Int) / 2 % 4294967296 = ((x / 2 : Nat) : Int) from by omega]
  have := n32_xor (x / 2) 3988292384 (by omega) (by decide)
  unfold d
  split
  · rw [if_pos (by omega)]
    exact congrArg some this
  · rw [if_neg (by omega), Nat.xor_zero]
theorem rmore_l1 (l : List Int) (i : Int) : ∀ (n : Nat) (k : Nat) (r : Nat) (j : Int), r < 4294967296 → (n : Int) + j = 8 → 0 ≤ j →
    sluiceref01_More.l1 (k + 1 + n) l (r : Int) i j = sluiceref01_More.l0 k l ((D n r : Nat) : Int) (wrap64 (i + 1)) := by
  intro n
  induction n with
  | zero =>
    intro k r j hr hj _
    rw [sluiceref01_More.l1]
    rw [if_neg (by omega)]
    rfl
  | succ n ih =>
    intro k r j hr hj h0
    rw [show k + 1 + (n + 1) = (k + 1 + n) + 1 from by omega]
    rw [sluiceref01_More.l1]
    rw [if_pos (by omega), down_val r hr]
    show sluiceref01_More.l1 (k + 1 + n) l ((d r : Nat) : Int) i (wrap64 (j + 1)) = _
    rw [w64_id (by omega) (by omega), ih k (d r) (j + 1) (d_lt r hr) (by omega) (by omega)]
    rfl
theorem rmore_l0 (l : List Int) (hl : BytesL l) (hL : l.length < 1000000000000000) : ∀ (n k i r : Nat), n + i = l.length → 10 * n + 1 ≤ k → r < 4294967296 →
    sluiceref01_More.l0 k l (r : Int) (i : Int) = some (((run r (l.drop i) ^^^ 4294967295 : Nat)) : Int) := by
  intro n
  induction n with
  | zero =>
    intro k i r hn hk hr
    obtain ⟨k, rfl⟩ : ∃ m, k = m + 1 := ⟨k - 1, by omega⟩
    have hi : i = l.length := by omega
    rw [sluiceref01_More.l0]
    rw [if_neg (by omega), List.drop_of_length_le (by omega)]
    show some (Go.bits .xor .u32 ((4294967295 : Nat) : Int) (r : Int)) = _
    rw [n32_xor _ _ (by decide) hr, Nat.xor_comm]
    rfl
  | succ n ih =>
    intro k i r hn hk hr
    obtain ⟨k, rfl⟩ : ∃ m, k = m + 1 + 8 + 1 := ⟨k - 10, by omega⟩
    have hi : i < l.length := by omega
    rw [sluiceref01_More.l0]
    rw [if_pos (by omega), if_pos (by omega), rd_nat l i hi]
    obtain ⟨c0, c1⟩ := hl l[i] (List.getElem_mem hi)
    have hc : l[i] % 4294967296 = (l[i].toNat : Int) := by omega
    rw [hc, n32_xor _ _ hr (by omega)]
    have hx : r ^^^ l[i].toNat < 4294967296 := Nat.xor_lt_two_pow (n := 32) hr (by omega)
    rw [rmore_l1 l i 8 k _ 0 hx (by omega) (by omega), w64_id (by omega) (by omega), show (i : Int) + 1 = ((i + 1 : Nat) : Int) from by omega, ih k (i + 1) _ (by omega) (by omega) ((D_ok 8 _ hx).1), List.drop_eq_getElem_cons hi]
    rfl
theorem rmore_val (l : List Int) (hl : BytesL l) (hL : l.length < 1000000000000000) (k a : Nat) (hk : 10 * l.length + 1 ≤ k) (ha : a < 4294967296) :
    sluiceref01_More.f k (a : Int) l = some (((run (a ^^^ 4294967295) l ^^^ 4294967295 : Nat)) : Int) := by
  show sluiceref01_More.l0 k l (Go.bits .xor .u32 ((4294967295 : Nat) : Int) (a : Int)) ((0 : Nat) : Int) = _
  rw [n32_xor _ _ (by decide) ha, Nat.xor_comm, rmore_l0 l hl hL l.length k 0 _ (by omega) hk (Nat.xor_lt_two_pow (n := 32) ha (by decide))]
  rfl
/-! ### hex digits -/
theorem tl_inj {a b : ByteArray} (h : a.toList = b.toList) : a = b := by
  rw [Lib.toList_data, Lib.toList_data] at h
  exact ByteArray.ext (Array.toList_inj.1 h)
theorem son_size (l : List Int) : (strOfNums l).size = l.length := by simp [strOfNums, ByteArray.size]
theorem son_append (a b : List Int) : strOfNums a ++ strOfNums b = strOfNums (a ++ b) := by
  apply ByteArray.ext
  simp [strOfNums]
theorem least16 : ∀ (n v : Nat), v < 16 ^ (n + 1) → ∃ j, j ≤ n ∧ v / 16 ^ j < 16 ∧ ∀ i, i < j → 16 ≤ v / 16 ^ i
  | 0, v, h => ⟨0, Nat.le_refl _, by rw [Nat.pow_zero, Nat.div_one]; simpa using h, fun i hi => absurd hi (by omega)⟩
  | n + 1, v, h => by
    by_cases c : v < 16
    · exact ⟨0, by omega, by rw [Nat.pow_zero, Nat.div_one]; exact c, fun i hi => absurd hi (by omega)⟩
    · obtain ⟨j, h1, h2, h3⟩ := least16 n (v / 16) (by rw [Nat.div_lt_iff_lt_mul (by decide), ← Nat.pow_succ]; exact h)
      refine ⟨j + 1, by omega, by rw [Nat.pow_succ', ← Nat.div_div_eq_div_mul]; exact h2, fun i hi => ?_⟩
      rcases i with _ | i
      · rw [Nat.pow_zero, Nat.div_one]; omega
      · rw [Nat.pow_succ', ← Nat.div_div_eq_div_mul]; exact h3 i (by omega)
theorem hex_pad (v j : Nat) (h : v < 16 ^ (j + 1)) : ∀ m, Hex.hexN (m + (j + 1)) v = List.replicate m 48 ++ Hex.hexN (j + 1) v
  | 0 => by rw [Nat.zero_add]; rfl
  | m + 1 => by
    rw [show m + 1 + (j + 1) = (m + (j + 1)) + 1 from by omega]
    show Hex.hexd (v / 16 ^ (m + (j + 1)) % 16) :: Hex.hexN (m + (j + 1)) v = _
    rw [hex_pad v j h m, Nat.div_eq_of_lt (Nat.lt_of_lt_of_le h (Nat.pow_le_pow_right (by decide) (by omega))), List.replicate_succ]
    rfl
/-- Eight hex digits. -/
def hex8 (v : Nat) : ByteArray := strOfNums (Hex.hexN 8 v)
theorem hex8_size (v : Nat) : (hex8 v).size = 8 := by rw [hex8, son_size, Hex.hexN_len]
theorem hex32_val (v : Nat) (h : v < 4294967296) : roster_hex32.f (v : Int) = some (hex8 v) := by
  obtain ⟨j, h1, h2, h3⟩ := least16 7 v h
  have e := Hex.hexF_eq j 16 v (by omega) h2 h3
  have hs : (strOfNums (Hex.hexN (j + 1) v)).size = j + 1 := by rw [son_size, Hex.hexN_len]
  unfold roster_hex32.f roster_padded.f strconv_FormatUint_20.f
  rw [u64_nat v (by omega), if_pos ⟨by omega, by omega, rfl⟩, Int.toNat_natCast, e, Option.bind_some, hs, w64_id (by omega) (by omega)]
  unfold strings_Repeat.f
  rw [if_pos ⟨rfl, by omega, by omega⟩, Option.bind_some]
  have hz : (⟨(List.replicate ((8 : Int) - ((j + 1 : Nat) : Int)).toNat (48 : UInt8)).toArray⟩ : ByteArray) = strOfNums (List.replicate (7 - j) 48) := by
    apply ByteArray.ext
    rw [show ((8 : Int) - ((j + 1 : Nat) : Int)).toNat = 7 - j from by omega]
    simp only [strOfNums, List.map_replicate]
    rfl
  rw [hz, son_append, son_size]
  have hv : v < 16 ^ (j + 1) := by
    have := Nat.lt_mul_of_div_lt h2 (Nat.pow_pos (n := j) (by decide : 0 < 16))
    rw [Nat.pow_succ']
    exact this
  have hp := hex_pad v j hv (7 - j)
  rw [show 7 - j + (j + 1) = 8 from by omega] at hp
  rw [← hp, if_pos (by rw [List.length_replicate]; omega), Option.bind_some]
  rfl
/-- The document's digits. -/
theorem dig_low (n : Nat) (h : n < 16) : (if (n : Int) < 10 then strOfNums [(48 + (n : Int)) % 256] else strOfNums [(((97 + (n : Int)) % 256) - 10) % 256]) = strOfNums [Hex.hexd n] := by
  unfold Hex.hexd
  split
  · rw [if_pos (by omega), show (48 + (n : Int)) % 256 = 48 + (n : Int) from by omega]
  · rw [if_neg (by omega), show ((97 + (n : Int)) % 256 - 10) % 256 = 87 + (n : Int) from by omega]
theorem rhex_e1 (u : Nat) : Int.tmod (u : Int) 16 % 256 = ((u % 16 : Nat) : Int) := by
  rw [tmod_nonneg _ _ (by omega)]
  omega
theorem rhex_e2 (u : Nat) (h : u < 18446744073709551616) : IntKind.u64.wrap (Int.tdiv (u : Int) 16) = ((u / 16 : Nat) : Int) := by
  rw [tdiv_nonneg _ _ (by omega), wrap_u64]
  omega
theorem rhex_e3 (i : Nat) (h : i < 8) : wrap64 ((i : Int) + 1) = ((i + 1 : Nat) : Int) := by
  rw [w64_id (by omega) (by omega)]
  rfl
theorem rhex_sz (ds : List Int) (i : Nat) (hl : ds.length = i) (h : i < 8) : ∀ x : Int, (strOfNums [x]).size + (strOfNums ds).size ≤ 9223372036854775807 := fun x => by
  rw [son_size, son_size, hl, List.length_singleton]
  omega
theorem rhex_l0 (v : Nat) (h : v < 18446744073709551616) : ∀ (n i k : Nat), n + i = 8 → n < k → sluiceref07_Hex.l0 k ((v / 16 ^ i : Nat) : Int) 8 (strOfNums (Hex.hexN i v)) (i : Int) = some (hex8 v)
  | 0, i, k, hi, hk => by
    obtain ⟨k, rfl⟩ : ∃ m, k = m + 1 := ⟨k - 1, by omega⟩
    obtain rfl : i = 8 := by omega
    unfold sluiceref07_Hex.l0
    rw [if_neg (by decide)]
    rfl
  | n + 1, i, k, hi, hk => by
    obtain ⟨k, rfl⟩ : ∃ m, k = m + 1 := ⟨k - 1, by omega⟩
    have ih := rhex_l0 v h n (i + 1) k (by omega) (by omega)
    have hu : v / 16 ^ i < 18446744073709551616 := Nat.lt_of_le_of_lt (Nat.div_le_self _ _) h
    have e4 : strOfNums [Hex.hexd (v / 16 ^ i % 16)] ++ strOfNums (Hex.hexN i v) = strOfNums (Hex.hexN (i + 1) v) := son_append _ _
    rw [Nat.pow_succ, ← Nat.div_div_eq_div_mul] at ih
    have hl : (Hex.hexN i v).length = i := Hex.hexN_len v i
    generalize v / 16 ^ i = u at ih hu e4 ⊢
    generalize Hex.hexN i v = ds at e4 hl ⊢
    have hd := dig_low (u % 16) (Nat.mod_lt _ (by decide))
    have hz := rhex_sz ds i hl (by omega)
    have hi8 : (i : Int) < 8 := by omega
    have e3 := rhex_e3 i (by omega)
    unfold sluiceref07_Hex.l0
    rw [if_pos hi8, rhex_e1 u, rhex_e2 u hu, e3]
    by_cases c : ((u % 16 : Nat) : Int) < 10
    · rw [if_pos c] at hd ⊢
      rw [Option.bind_some, if_pos (hz _), hd, e4]
      exact ih
    · rw [if_neg c] at hd ⊢
      rw [Option.bind_some, if_pos (hz _), hd, e4]
      exact ih
theorem rhex_val (v : Nat) (h : v < 4294967296) (k : Nat) (hk : 9 ≤ k) : sluiceref07_Hex.f k (v : Int) 8 = some (hex8 v) := by
  have := rhex_l0 v (by omega) 8 0 k (by omega) (by omega)
  rw [Nat.pow_zero, Nat.div_one] at this
  exact this
/-! ### texts -/
theorem bytesOf_range (s : ByteArray) : BytesL (bytesOf s) := by
  intro c hc
  obtain ⟨b, _, rfl⟩ := List.mem_map.1 hc
  have := b.toNat_lt
  omega
theorem tl_append (a b : ByteArray) : (a ++ b).toList = a.toList ++ b.toList := by
  rw [Lib.toList_data, Lib.toList_data, Lib.toList_data, ByteArray.data_append, Array.toList_append]
theorem tl_length (a : ByteArray) : a.toList.length = a.size := by
  rw [Lib.toList_data, Array.length_toList]
  rfl
theorem ex_front (a b : ByteArray) : (a ++ b).extract 0 a.size = a := by
  apply tl_inj
  rw [Lib.extract_toList, ← Lib.toList_data, tl_append, List.drop_zero, Nat.sub_zero, List.take_left' (tl_length a)]
theorem ex_back (a b : ByteArray) : (a ++ b).extract a.size (a ++ b).size = b := by
  apply tl_inj
  rw [Lib.extract_toList, ← Lib.toList_data, tl_append, List.drop_left' (tl_length a), ByteArray.size_append, Nat.add_sub_cancel_left, List.take_of_length_le (by rw [tl_length]; exact Nat.le_refl _)]
theorem ex_join (a : ByteArray) (m : Nat) (h : m ≤ a.size) : a.extract 0 m ++ a.extract m a.size = a := by
  apply tl_inj
  rw [tl_append, Lib.extract_toList, Lib.extract_toList, ← Lib.toList_data, List.drop_zero, Nat.sub_zero, List.take_of_length_le (l := a.toList.drop m) (by rw [List.length_drop, tl_length]; omega), List.take_append_drop]
theorem ex_size (a : ByteArray) (m : Nat) (h : m ≤ a.size) : (a.extract 0 m).size = m := by
  rw [ByteArray.size_extract]
  omega
theorem bt_list (s : ByteArray) (i : Nat) (h : i < s.size) : ∃ b : UInt8, s.toList[i]? = some b ∧ bt s (i : Int) = (b.toNat : Int) := by
  refine ⟨s[i], ?_, ?_⟩
  · rw [Lib.toList_data, Array.getElem?_toList, Array.getElem?_eq_getElem h]
    rfl
  · rw [← bt_at s (i : Int) (by rw [Int.toNat_natCast]; exact h)]
    simp
theorem last_list (s : ByteArray) (h : 0 < s.size) : ∃ b : UInt8, s.toList.drop (s.size - 1) = [b] ∧ bt s (((s.size - 1 : Nat)) : Int) = (b.toNat : Int) := by
  obtain ⟨b, h1, h2⟩ := bt_list s (s.size - 1) (by omega)
  refine ⟨b, ?_, h2⟩
  have hl := tl_length s
  obtain ⟨hlt, hg⟩ := List.getElem?_eq_some_iff.1 h1
  rw [List.drop_eq_getElem_cons hlt, hg, List.drop_of_length_le (by omega)]
theorem suffix_val (s : ByteArray) (h : 0 < s.size) (hm : s.size ≤ 1000000000000000000) : strings_HasSuffix.f s ⟨#[10]⟩ = some (bt s (((s.size - 1 : Nat)) : Int) == 10) := by
  obtain ⟨b, h1, h2⟩ := last_list s h
  have e1 : wrap64 ((s.size : Int) - ((⟨#[10]⟩ : ByteArray).size : Int)) = ((s.size - 1 : Nat) : Int) := by
    show wrap64 ((s.size : Int) - 1) = _
    rw [w64_id (by omega) (by omega)]
    omega
  unfold strings_HasSuffix.f stringslite_HasSuffix.f
  rw [if_pos (show (s.size : Int) ≥ ((⟨#[10]⟩ : ByteArray).size : Int) from by show (s.size : Int) ≥ 1; omega), e1, if_pos (by omega), if_pos (by omega), Option.bind_some, Int.toNat_natCast, Lib.extract_toList, ← Lib.toList_data, h1, h2, show s.size - (s.size - 1) = 1 from by omega]
  congr 1
  rw [Bool.eq_iff_iff, beq_iff_eq, beq_iff_eq, ByteArray.toList_eq]
  constructor
  · intro he
    have : b = 10 := by simpa using he
    rw [this]
    rfl
  · intro he
    have hb : b.toNat = 10 := by omega
    have : b = 10 := UInt8.toNat_inj.1 hb
    rw [this]
    rfl
/-- The line that seals a text. -/
def sealS (t : ByteArray) : ByteArray := (⟨#[59, 32, 115, 101, 97, 108, 32]⟩ ++ hex8 (crc (bytesOf t))) ++ ⟨#[10]⟩
theorem sealS_size (t : ByteArray) : (sealS t).size = 16 := by
  unfold sealS
  rw [ByteArray.size_append, ByteArray.size_append, hex8_size]
  rfl
theorem seal_val (t : ByteArray) (h : t.size ≤ 131072) (k : Nat) (hk : 131080 ≤ k) : roster_sealOf.f k t = some (sealS t) := by
  have hb := bytesOf_range t
  have hl := bytesOf_length t
  unfold roster_sealOf.f
  rw [if_pos (by omega), crc_one _ hb (by omega) k (by omega), Option.bind_some, hex32_val _ (crc_lt _ hb), Option.bind_some, if_pos (by rw [hex8_size]; decide)]
  rfl
theorem rcrc_val (t : ByteArray) (h : t.size ≤ 131072) (k : Nat) (hk : 1400000 ≤ k) : sluiceref07_crc.f k t = some ((crc (bytesOf t) : Nat) : Int) := by
  have hb := bytesOf_range t
  have hl := bytesOf_length t
  unfold sluiceref07_crc.f
  rw [if_pos (by omega)]
  have := rmore_val _ hb (by omega) k 0 (by omega) (by decide)
  rw [Nat.zero_xor] at this
  exact this
def empty : ByteArray := ⟨#[]⟩
def sealF (t : ByteArray) : ByteArray × Int := if 131056 < t.size then (empty, 4) else (t ++ sealS t, 0)
theorem prog_j1 (t : ByteArray) (h : t.size ≤ 1000000000000000000) (k : Nat) (hk : 1400000 ≤ k) : roster_Seal.j1 (k + 1) t = some (sealF t) := by
  rw [roster_Seal.j1]
  unfold sealF
  by_cases c : 131056 < t.size
  · rw [if_pos (by omega), if_pos c]
    rfl
  · rw [if_neg (by omega), if_neg c, seal_val t (by omega) k (by omega), Option.bind_some, sealS_size, if_pos (by omega)]
theorem seal_assoc (t : ByteArray) : ((t ++ (⟨#[59, 32, 115, 101, 97, 108, 32]⟩ : ByteArray)) ++ hex8 (crc (bytesOf t))) ++ (⟨#[10]⟩ : ByteArray) = t ++ sealS t := by
  unfold sealS
  rw [ByteArray.append_assoc, ByteArray.append_assoc, ByteArray.append_assoc]
theorem ref_w (t : ByteArray) (h : t.size ≤ 1000000000000000000) : wrap64 ((t.size : Int) + 16) = (t.size : Int) + 16 := w64_id (by omega) (by omega)
theorem ref_j1 (t : ByteArray) (h : t.size ≤ 1000000000000000000) (k : Nat) (hk : 1400000 ≤ k) : sluiceref07_Seal.j1 (k + 1) t = some (sealF t) := by
  rw [sluiceref07_Seal.j1]
  unfold sealF
  rw [ref_w t h]
  by_cases c : 131056 < t.size
  · rw [if_pos (by omega), if_pos c]
    rfl
  · have hc := crc_lt _ (bytesOf_range t)
    have hs : (t ++ (⟨#[59, 32, 115, 101, 97, 108, 32]⟩ : ByteArray)).size = t.size + 7 := by rw [ByteArray.size_append]; rfl
    rw [if_neg (by omega), if_neg c, if_pos (by omega), rcrc_val t (by omega) k hk, Option.bind_some, u64_nat _ (by omega), rhex_val _ hc k (by omega), Option.bind_some, if_pos (by rw [hs, hex8_size]; omega), if_pos (by rw [ByteArray.size_append, hs, hex8_size]; omega), seal_assoc]
/-- A text that ends its line. -/
def norm (s : ByteArray) : ByteArray := if s.size = 0 then s else if bt s (((s.size - 1 : Nat)) : Int) = 10 then s else s ++ ⟨#[10]⟩
theorem nil_iff (s : ByteArray) : s.toList = [] ↔ s.size = 0 := by
  rw [← List.length_eq_zero_iff, tl_length]
theorem prog_seal (s : ByteArray) (h : s.size ≤ 140737488351232) (k : Nat) (hk : 1500000 ≤ k) : roster_Seal.f k s = some (sealF (norm s)) := by
  obtain ⟨k, rfl⟩ : ∃ m, k = m + 1 + 1 := ⟨k - 2, by omega⟩
  have ha : (s ++ (⟨#[10]⟩ : ByteArray)).size = s.size + 1 := by rw [ByteArray.size_append]; rfl
  unfold roster_Seal.f norm
  by_cases c : s.size = 0
  · rw [if_pos ((nil_iff s).2 c), if_pos c]
    rw [roster_Seal.j0]
    rw [if_neg (by decide)]
    exact prog_j1 s (by omega) k (by omega)
  · rw [if_neg (fun hn => c ((nil_iff s).1 hn)), if_neg c, suffix_val s (by omega) (by omega), Option.bind_some]
    rw [roster_Seal.j0]
    by_cases c2 : bt s (((s.size - 1 : Nat)) : Int) = 10
    · rw [if_pos c2, c2, if_neg (by decide)]
      exact prog_j1 s (by omega) k (by omega)
    · rw [if_neg c2, beq_eq_false_iff_ne.2 c2, if_pos (by decide), if_pos (by omega)]
      exact prog_j1 _ (by omega) k (by omega)
theorem last_w (s : ByteArray) (h : 0 < s.size) (hm : s.size ≤ 1000000000000000000) : wrap64 ((s.size : Int) - 1) = ((s.size - 1 : Nat) : Int) := by
  rw [w64_id (by omega) (by omega)]
  omega
theorem ref_seal (s : ByteArray) (h : s.size ≤ 140737488351232) (k : Nat) (hk : 1500000 ≤ k) : sluiceref07_Seal.f k s = some (sealF (norm s)) := by
  obtain ⟨k, rfl⟩ : ∃ m, k = m + 1 + 1 := ⟨k - 2, by omega⟩
  have ha : (s ++ (⟨#[10]⟩ : ByteArray)).size = s.size + 1 := by rw [ByteArray.size_append]; rfl
  unfold sluiceref07_Seal.f norm
  by_cases c : s.size = 0
  · rw [if_pos ((nil_iff s).2 c), if_pos c]
    rw [sluiceref07_Seal.j0]
    rw [if_neg (by decide)]
    exact ref_j1 s (by omega) k (by omega)
  · rw [if_neg (fun hn => c ((nil_iff s).1 hn)), if_neg c, last_w s (by omega) (by omega), if_pos (by omega), if_pos (by omega)]
    rw [sluiceref07_Seal.j0]
    by_cases c2 : bt s (((s.size - 1 : Nat)) : Int) = 10
    · rw [if_pos c2, c2, if_neg (by decide)]
      exact ref_j1 s (by omega) k (by omega)
    · rw [if_neg c2, if_pos (bne_iff_ne.2 c2), if_pos (by omega)]
      exact ref_j1 _ (by omega) k (by omega)
/-! ### taken off -/
def unsB (s b : ByteArray) : ByteArray × Int := if s.extract b.size s.size = sealS b then (b, 0) else (empty, 78)
def unsF (s : ByteArray) : ByteArray × Int :=
  if 131072 < s.size then (empty, 4) else if s.size < 16 then (empty, 78) else
    if (s.extract 0 (s.size - 16)).size = 0 then unsB s (s.extract 0 (s.size - 16)) else
      if bt (s.extract 0 (s.size - 16)) ((((s.extract 0 (s.size - 16)).size - 1 : Nat)) : Int) = 10 then unsB s (s.extract 0 (s.size - 16)) else (empty, 78)
theorem cut_w (s : ByteArray) (h : 16 ≤ s.size) (hm : s.size ≤ 1000000000000000000) : wrap64 ((s.size : Int) - 16) = ((s.size - 16 : Nat) : Int) := by
  rw [w64_id (by omega) (by omega)]
  omega
theorem bne_tl (a b : ByteArray) : (a.toList != b.toList) = !decide (a = b) := by
  by_cases h : a = b
  · rw [h]; simp
  · have : a.toList ≠ b.toList := fun e => h (tl_inj e)
    rw [bne_iff_ne.2 this, decide_eq_false h]
    rfl
theorem prog_tail (s b : ByteArray) (k : Nat) : roster_Unseal.j0 (k + 1) b ((s.extract b.size s.size).toList != (sealS b).toList) = some (unsB s b) := by
  rw [bne_tl]
  rw [roster_Unseal.j0]
  unfold unsB
  by_cases h : s.extract b.size s.size = sealS b
  · rw [if_pos h, decide_eq_true h, if_neg (by decide)]
  · rw [if_neg h, decide_eq_false h, if_pos (by decide)]
    rfl
theorem prog_uns (s : ByteArray) (h : s.size ≤ 140737488351232) (k : Nat) (hk : 1500000 ≤ k) : roster_Unseal.f k s = some (unsF s) := by
  obtain ⟨k, rfl⟩ : ∃ m, k = m + 1 := ⟨k - 1, by omega⟩
  unfold roster_Unseal.f unsF
  by_cases c1 : 131072 < s.size
  · rw [if_pos (by omega), if_pos c1]; rfl
  rw [if_neg (by omega), if_neg c1]
  by_cases c2 : s.size < 16
  · rw [if_pos (by omega), if_pos c2]; rfl
  rw [if_neg (by omega), if_neg c2, cut_w s (by omega) (by omega), if_pos (by omega), if_pos (by omega), Int.toNat_natCast]
  have hb := ex_size s (s.size - 16) (by omega)
  generalize s.extract 0 (s.size - 16) = b at hb ⊢
  by_cases c3 : b.size = 0
  · rw [if_pos ((nil_iff b).2 c3), if_pos c3, if_pos (by omega), if_pos (by omega), seal_val b (by omega) _ (by omega), Option.bind_some, Int.toNat_natCast]
    exact prog_tail s b k
  · rw [if_neg (fun hn => c3 ((nil_iff b).1 hn)), if_neg c3, suffix_val b (by omega) (by omega), Option.bind_some]
    by_cases c4 : bt b (((b.size - 1 : Nat)) : Int) = 10
    · rw [if_pos c4, if_pos (beq_iff_eq.2 c4), if_pos (by omega), if_pos (by omega), seal_val b (by omega) _ (by omega), Option.bind_some, Int.toNat_natCast]
      exact prog_tail s b k
    · rw [if_neg c4, if_neg (by rw [beq_eq_false_iff_ne.2 c4]; decide)]
      rw [roster_Unseal.j0]
      rw [if_pos rfl]
      rfl
theorem norm_self (b : ByteArray) (h : b.size = 0 ∨ bt b (((b.size - 1 : Nat)) : Int) = 10) : norm b = b := by
  unfold norm
  rcases h with h | h
  · rw [if_pos h]
  · rw [if_pos h]
    split <;> rfl
theorem ref_tail (s b : ByteArray) (h : b.size + 16 = s.size) (hs : s.size ≤ 131072) (hx : s.extract 0 b.size = b) (hn : norm b = b) (k : Nat) (hk : 1500000 ≤ k) : sluiceref07_Unseal.j0 (k + 1 + 1) s b false = some (unsB s b) := by
  rw [sluiceref07_Unseal.j0]
  have hF : sealF b = (b ++ sealS b, 0) := by
    unfold sealF
    rw [if_neg (by omega)]
  rw [if_neg (by decide), ref_seal b (by omega) _ (by omega), hn, hF, Option.bind_some, if_pos rfl, bne_tl]
  unfold unsB
  have hj := ex_join s b.size (by omega)
  rw [hx] at hj
  rw [sluiceref07_Unseal.j1]
  by_cases c : s.extract b.size s.size = sealS b
  · have e : b ++ sealS b = s := by rw [← c]; exact hj
    rw [if_pos c]
    show (if (!decide (b ++ sealS b = s)) = true then _ else _) = _
    rw [decide_eq_true e, if_neg (by decide)]
  · have e : b ++ sealS b ≠ s := fun he => c (by rw [← he]; exact ex_back b (sealS b))
    rw [if_neg c]
    show (if (!decide (b ++ sealS b = s)) = true then _ else _) = _
    rw [decide_eq_false e, if_pos (by decide)]
    rfl
theorem ref_uns (s : ByteArray) (h : s.size ≤ 140737488351232) (k : Nat) (hk : 1600000 ≤ k) : sluiceref07_Unseal.f k s = some (unsF s) := by
  obtain ⟨k, rfl⟩ : ∃ m, k = m + 1 + 1 := ⟨k - 2, by omega⟩
  unfold sluiceref07_Unseal.f unsF
  by_cases c1 : 131072 < s.size
  · rw [if_pos (by omega), if_pos c1]; rfl
  rw [if_neg (by omega), if_neg c1]
  by_cases c2 : s.size < 16
  · rw [if_pos (by omega), if_pos c2]; rfl
  rw [if_neg (by omega), if_neg c2, cut_w s (by omega) (by omega), if_pos (by omega), if_pos (by omega), Int.toNat_natCast]
  have hb := ex_size s (s.size - 16) (by omega)
  have hx : s.extract 0 (s.extract 0 (s.size - 16)).size = s.extract 0 (s.size - 16) := by rw [hb]
  generalize s.extract 0 (s.size - 16) = b at hb hx ⊢
  by_cases c3 : b.size = 0
  · rw [if_pos ((nil_iff b).2 c3), if_pos c3]
    exact ref_tail s b (by omega) (by omega) hx (norm_self b (.inl c3)) k (by omega)
  · rw [if_neg (fun hn => c3 ((nil_iff b).1 hn)), if_neg c3, last_w b (by omega) (by omega), if_pos (by omega), if_pos (by omega)]
    by_cases c4 : bt b (((b.size - 1 : Nat)) : Int) = 10
    · rw [if_pos c4, c4]
      exact ref_tail s b (by omega) (by omega) hx (norm_self b (.inr c4)) k (by omega)
    · rw [if_neg c4, bne_iff_ne.2 c4]
      rw [sluiceref07_Unseal.j0]
      rw [if_pos rfl]
      rfl
theorem norm_end (s : ByteArray) : (norm s).size = 0 ∨ bt (norm s) ((((norm s).size - 1 : Nat)) : Int) = 10 := by
  unfold norm
  split
  · exact .inl (by assumption)
  · split
    · exact .inr (by assumption)
    · right
      have ha : (s ++ (⟨#[10]⟩ : ByteArray)).size = s.size + 1 := by rw [ByteArray.size_append]; rfl
      obtain ⟨b, h1, h2⟩ := last_list (s ++ (⟨#[10]⟩ : ByteArray)) (by omega)
      rw [h2]
      rw [ha, Nat.add_sub_cancel, tl_append, List.drop_left' (tl_length s), ByteArray.toList_eq] at h1
      have : (10 : UInt8) = b := by simpa using h1
      rw [← this]
      rfl
theorem uns_seal (t : ByteArray) (h : t.size ≤ 131056) (hn : t.size = 0 ∨ bt t (((t.size - 1 : Nat)) : Int) = 10) : unsF (t ++ sealS t) = (t, 0) := by
  have hs : (t ++ sealS t).size = t.size + 16 := by rw [ByteArray.size_append, sealS_size]
  have hx : (t ++ sealS t).extract 0 ((t ++ sealS t).size - 16) = t := by rw [hs, Nat.add_sub_cancel]; exact ex_front t _
  have hu : unsB (t ++ sealS t) t = (t, 0) := by
    unfold unsB
    rw [if_pos (ex_back t _)]
  unfold unsF
  rw [if_neg (by omega), if_neg (by omega), hx]
  rcases hn with hn | hn
  · rw [if_pos hn, hu]
  · rw [if_pos hn, hu]
    split <;> rfl
theorem law_j2 (s : ByteArray) (h : s.size ≤ 140737488351232) (k : Nat) (hk : 1600000 ≤ k) : sluicelaw07_RosterSeals.j2 (k + 1) s = some true := by
  rw [sluicelaw07_RosterSeals.j2]
  rw [prog_uns s h k (by omega), Option.bind_some, ref_uns s h k hk, Option.bind_some, if_pos rfl]
  show some (((unsF s).2) == ((unsF s).2)) = _
  rw [beq_self_eq_true]
theorem RosterSeals : sluicelaw07_RosterSeals.Pure := by
  intro s h
  refine ⟨1600000 + 1 + 1 + 1, ?_⟩
  unfold sluicelaw07_RosterSeals.f
  rw [prog_seal s h _ (by decide), Option.bind_some, ref_seal s h _ (by decide), Option.bind_some, if_pos rfl]
  show sluicelaw07_RosterSeals.j0 (1600000 + 1 + 1 + 1) s (sealF (norm s)).1 (sealF (norm s)).2 ((sealF (norm s)).2 != (sealF (norm s)).2) = _
  rw [bne_self_eq_false]
  have hj := law_j2 s h
  have hn := norm_end s
  generalize norm s = t at hn ⊢
  generalize hK : 1600000 + 1 + 1 = K
  rw [sluicelaw07_RosterSeals.j0]
  rw [if_neg (by decide)]
  unfold sealF
  by_cases c : 131056 < t.size
  · rw [if_pos c, if_neg (by decide), ← hK]
    exact hj _ (by omega)
  · have hs : (t ++ sealS t).size = t.size + 16 := by rw [ByteArray.size_append, sealS_size]
    rw [if_neg c, if_pos rfl]
    show ((roster_Unseal.f K (t ++ sealS t)).bind _) = _
    rw [prog_uns (t ++ sealS t) (by omega) K (by omega), uns_seal t (by omega) hn, Option.bind_some]
    show (if (0 : Int) = 0 then (if 0 ≤ (wrap64 (((t ++ sealS t).size : Int) - 16)) then (if (wrap64 (((t ++ sealS t).size : Int) - 16)) ≤ ((t ++ sealS t).size : Int) then (sluicelaw07_RosterSeals.j1 K s (t.toList != ((t ++ sealS t).extract 0 ((wrap64 (((t ++ sealS t).size : Int) - 16)) : Int).toNat).toList)) else (none)) else (none)) else (sluicelaw07_RosterSeals.j1 K s true)) = _
    rw [if_pos rfl, cut_w _ (by omega) (by omega), if_pos (by omega), if_pos (by omega), Int.toNat_natCast, hs, Nat.add_sub_cancel, ex_front, bne_self_eq_false, ← hK]
    rw [sluicelaw07_RosterSeals.j1]
    rw [if_neg (by decide)]
    exact hj _ (by omega)
end Go.Proofs.YtnmhfcfojbfikaaDoor.Pure
