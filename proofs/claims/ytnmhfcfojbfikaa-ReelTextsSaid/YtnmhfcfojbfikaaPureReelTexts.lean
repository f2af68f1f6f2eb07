/- ReelTexts, the plain law: the buffer, the record and the comparison answer as the walk wants it. Conditions: as each lemma says. -/
import Derived.Test.YtnmhfcfojbfikaaWalkReelTexts
import Derived.Test.YtnmhfcfojbfikaaNum
namespace Go.Proofs.Ytnmhfcfojbfikaa.QReelTexts
open Go.RowKit Go.Proofs.YtnmhfcfojbfikaaW.PrintWords Go.Proofs.YtnmhfcfojbfikaaW.PrintLast Go.Proofs.YtnmhfcfojbfikaaW.PrintMore
set_option linter.unusedVariables false
set_option linter.unusedSimpArgs false
theorem w64 {x : Int} (h0 : -9223372036854775808 ≤ x) (h1 : x ≤ 9223372036854775807) : wrap64 x = x := by unfold wrap64; omega
def roomN (n : Int) : Nat := (min (max n 0) 4096).toNat
theorem roomN_le (n : Int) : roomN n ≤ 4096 := by unfold roomN; omega
theorem room_eq (n : Int) : sluicelaw06_room.f n = some ((roomN n : Nat) : Int) := by
  unfold sluicelaw06_room.f mn mx roomN
  congr 1
  split <;> split <;> omega
theorem set_rep (i d : Nat) (x y : Int) : (List.replicate i x ++ List.replicate (d + 1) y).set i x = List.replicate (i + 1) x ++ List.replicate d y := by
  rw [List.set_append_right _ _ (by rw [List.length_replicate]; exact Nat.le_refl _), List.length_replicate, Nat.sub_self, List.replicate_succ, List.set_cons_zero, List.replicate_succ', List.append_assoc]
  rfl
theorem buffer_l0 (n : Int) (m : Nat) (hm : m ≤ 4096) (hr : sluicelaw06_room.f n = some (m : Int)) : ∀ (d i k : Nat), i + d = m + 2 → d < k →
    sluicelaw06_buffer.l0 k n (List.replicate i 99 ++ List.replicate d 0) (i : Int) = some (List.replicate m 99)
  | d, i, 0, _, hk => by omega
  | 0, i, k + 1, hi, _ => by
    unfold sluicelaw06_buffer.l0
    rw [if_neg (by simp), hr, Option.bind_some, if_pos (by omega), if_pos (by simp; omega)]
    congr 1
    rw [List.replicate_zero, List.append_nil, List.take_replicate]
    congr 1
    omega
  | d + 1, i, k + 1, hi, hk => by
    unfold sluicelaw06_buffer.l0
    have hc : (i : Int) < ((List.replicate i (99 : Int) ++ List.replicate (d + 1) 0).length : Int) := by simp; omega
    rw [if_pos hc, if_pos (by omega), Int.toNat_natCast, set_rep, w64 (by omega) (by omega), show (i : Int) + 1 = ((i + 1 : Nat) : Int) from by omega]
    exact buffer_l0 n m hm hr d (i + 1) k (by omega) (by omega)
theorem buffer_eq (n : Int) (k : Nat) (hk : 5000 ≤ k) : sluicelaw06_buffer.f k n = some (List.replicate (roomN n) 99) := by
  have hl := roomN_le n
  unfold sluicelaw06_buffer.f
  rw [room_eq, Option.bind_some, w64 (by omega) (by omega), if_pos (by omega), if_pos (by omega)]
  have := buffer_l0 n (roomN n) hl (room_eq n) (roomN n + 2) 0 k (by omega) (by omega)
  rw [List.replicate_zero, List.nil_append] at this
  rw [show ((roomN n : Int) + 2).toNat = roomN n + 2 from by omega]
  exact this
theorem bytes_get (t : ByteArray) (i : Nat) (h : i < t.size) : (bytesOf t)[i]? = some (bt t (i : Int)) := by
  rw [← rd_bytesOf]
  unfold rd
  rw [Int.toNat_natCast, List.getD_eq_getElem?_getD, List.getElem?_eq_getElem (by rw [bytesOf_length]; exact h)]
  rfl
theorem rec_set (t : ByteArray) (i d : Nat) (h : i < t.size) : ((bytesOf t).take i ++ List.replicate (d + 1) 0).set i (bt t (i : Int)) = (bytesOf t).take (i + 1) ++ List.replicate d 0 := by
  have hl : i < (bytesOf t).length := by rw [bytesOf_length]; exact h
  have ht : ((bytesOf t).take i).length = i := by rw [List.length_take]; omega
  have hg := bytes_get t i h
  rw [List.getElem?_eq_getElem hl] at hg
  rw [List.set_append_right _ _ (by omega), ht, Nat.sub_self, List.replicate_succ, List.set_cons_zero, List.take_succ_eq_append_getElem hl, Option.some.inj hg, List.append_assoc]
  rfl
theorem record_l0 (t : ByteArray) (W : Nat) (hW : W ≤ 4096) : ∀ (d i k : Nat), i + d = W → i ≤ t.size → d < k →
    sluicelaw06_record.l0 k t (W : Int) ((bytesOf t).take i ++ List.replicate d 0) (i : Int) = some (strOfNums (recI t W))
  | d, i, 0, _, _, hk => by omega
  | 0, i, k + 1, hi, ht, _ => by
    unfold sluicelaw06_record.l0
    rw [if_neg (by omega)]
    congr 2
    unfold recI
    rw [show min t.size W = i from by omega, show W - i = 0 from by omega]
  | d + 1, i, k + 1, hi, ht, hk => by
    unfold sluicelaw06_record.l0
    rw [if_pos (by omega)]
    by_cases h : i < t.size
    · have hlen : ((bytesOf t).take i ++ List.replicate (d + 1) (0 : Int)).length = W := by rw [List.length_append, List.length_take, bytesOf_length, List.length_replicate]; omega
      rw [if_pos (by omega), if_pos (by omega), hlen, if_pos (by omega), Int.toNat_natCast, rec_set t i d h, w64 (by omega) (by omega), show (i : Int) + 1 = ((i + 1 : Nat) : Int) from by omega]
      exact record_l0 t W hW d (i + 1) k (by omega) (by omega) (by omega)
    · rw [if_neg (by omega)]
      congr 2
      unfold recI
      rw [show min t.size W = i from by omega, show W - i = d + 1 from by omega]
theorem record_eq (t : ByteArray) (W k : Nat) (hW : W ≤ 4096) (hk : 5000 ≤ k) : sluicelaw06_record.f k t (W : Int) = some (strOfNums (recI t W)) := by
  unfold sluicelaw06_record.f
  rw [if_pos (by omega), Int.toNat_natCast, if_pos (by omega)]
  have := record_l0 t W hW W 0 k (by omega) (by omega) (by omega)
  rw [List.take_zero, List.nil_append] at this
  exact this
theorem laid_l0 (a : List Int) (r : Nat) (h : a.length + r ≤ 4096) : ∀ (d i k : Nat), i + d = a.length + r → d < k →
    sluicelaw06_laid.l0 k (a ++ List.replicate r 99) a (i : Int) = some true
  | d, i, 0, _, hk => by omega
  | 0, i, k + 1, hi, _ => by
    unfold sluicelaw06_laid.l0
    rw [List.length_append, List.length_replicate, if_neg (by omega), decide_eq_true (by omega)]
  | d + 1, i, k + 1, hi, hk => by
    have ih := laid_l0 a r h d (i + 1) k (by omega) (by omega)
    unfold sluicelaw06_laid.l0
    rw [List.length_append, List.length_replicate, if_pos (by omega)]
    have e : wrap64 ((i : Int) + 1) = ((i + 1 : Nat) : Int) := by rw [w64 (by omega) (by omega)]; omega
    by_cases c : i < a.length
    · rw [if_pos (by omega), if_pos (by omega)]
      have hrd : rd (a ++ List.replicate r 99) (i : Int) = rd a (i : Int) := by
        unfold rd
        rw [Int.toNat_natCast, List.getD_eq_getElem?_getD, List.getD_eq_getElem?_getD, List.getElem?_append_left c]
      rw [if_pos hrd, e]
      exact ih
    · rw [if_neg (by omega), if_pos (by omega)]
      have hrd : rd (a ++ List.replicate r 99) (i : Int) = 99 := by
        unfold rd
        rw [Int.toNat_natCast, List.getD_eq_getElem?_getD, List.getElem?_append_right (by omega), List.getElem?_replicate, if_pos (by omega)]
        rfl
      rw [if_pos hrd, e]
      exact ih
theorem bytesOf_strOfNums (xs : List Int) (h : ∀ x ∈ xs, 0 ≤ x ∧ x ≤ 255) : bytesOf (strOfNums xs) = xs := by
  unfold bytesOf
  rw [strOfNums_data, List.map_map]
  conv => rhs; rw [← List.map_id xs]
  apply List.map_congr_left
  intro x hx
  have := h x hx
  simp only [Function.comp, id]
  rw [UInt8.toNat_ofNat']
  omega
theorem recI_range (t : ByteArray) (W : Nat) : ∀ x ∈ recI t W, 0 ≤ x ∧ x ≤ 255 := by
  intro x hx
  unfold recI at hx
  rcases List.mem_append.1 hx with h | h
  · have h := List.mem_of_mem_take h
    unfold bytesOf at h
    obtain ⟨b, _, rfl⟩ := List.mem_map.1 h
    have := b.toNat_lt
    omega
  · rw [List.eq_of_mem_replicate h]; omega
theorem laid_ok (t : ByteArray) (W m k : Nat) (hW : W ≤ m) (hm : m ≤ 4096) (hk : 5000 ≤ k) : sluicelaw06_laid.f k (recI t W ++ List.replicate (m - W) 99) (bytesOf (strOfNums (recI t W))) = some true := by
  rw [bytesOf_strOfNums _ (recI_range t W)]
  have hl := recI_length t W
  exact laid_l0 (recI t W) (m - W) (by omega) m 0 k (by omega) (by omega)
theorem laid_bad (m k : Nat) (hm : m ≤ 4096) (hk : 5000 ≤ k) : sluicelaw06_laid.f k (List.replicate m 99) [] = some true := by
  have := laid_l0 [] m (by simp; omega) m 0 k (by simp) (by omega)
  exact this
/-- The law's function answers true. -/
theorem texts (width n : Int) (t : ByteArray) (w : World) :
    Calls Try.prog 10 #[.int .i64 width, .string t, .int .i64 n] w fun e w' => e = .returned (.bool true) ∧ Below w.heap.size w w' := by
  have hm := roomN_le n
  by_cases h0 : roomF width (roomN n) = 0
  · have hw : 1 ≤ width ∧ width ≤ 256 ∧ width ≤ roomN n := by
      unfold roomF at h0
      split at h0
      · cases h0
      · split at h0
        · cases h0
        · omega
    have hr := record_eq t width.toNat 5000 (by omega) (Nat.le_refl _)
    rw [Int.toNat_of_nonneg (by omega)] at hr
    exact texts_ok 5000 width n t (roomN n) w (buffer_eq n 5000 (Nat.le_refl _)) h0 hm hr (laid_ok t width.toNat (roomN n) 5000 (by omega) hm (Nat.le_refl _))
  · refine texts_bad 5000 width n t (roomN n) w _ (buffer_eq n 5000 (Nat.le_refl _)) rfl ?_ (laid_bad (roomN n) 5000 hm (Nat.le_refl _))
    unfold roomF at h0 ⊢
    split
    · exact .inl rfl
    · split
      · exact .inr rfl
      · rename_i h1 h2
        rw [if_neg h1, if_neg h2] at h0
        exact absurd rfl h0
end Go.Proofs.Ytnmhfcfojbfikaa.QReelTexts
