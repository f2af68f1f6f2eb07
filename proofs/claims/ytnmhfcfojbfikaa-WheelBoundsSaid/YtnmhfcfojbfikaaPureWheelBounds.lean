/- WheelBounds, the pure part: the words and bytes that a graph and options of any sizes want are the document's. Conditions: none. -/
import Derived.Test.YtnmhfcfojbfikaaPWheelBoundsx4
import Derived.Test.YtnmhfcfojbfikaaNum
namespace Go.Proofs.Ytnmhfcfojbfikaa.Pure
open Go.RowKit Go.Proofs.Ytnmhfcfojbfikaa.PWheelBounds Go.Proofs.YtnmhfcfojbfikaaW.PrintWords Go.Proofs.YtnmhfcfojbfikaaW.PrintLast
open Go.Proofs.Ytnmhfcfojbfikaa.Num

theorem wb_loop (s : ByteArray) (hs : s.size ≤ 16) : ∀ (k : Nat) (i : Int), 0 ≤ i → wheel_named.l0 k s (s.size : Int) i = sluiceref12_Named.l0 k s i := by
  intro k
  induction k with
  | zero => intro i _; rfl
  | succ k ih =>
    intro i h0
    rw [wheel_named.l0, sluiceref12_Named.l0]
    by_cases c : i < (s.size : Int)
    · have e := ih (wrap64 (i + 1)) (by rw [w64_id (by omega) (by omega)]; omega)
      rw [if_pos c, if_pos h0, if_pos c, if_pos c, if_pos h0, e]
      generalize bt s i = b
      repeat' split
      all_goals first | rfl | (exfalso; omega)
    · rw [if_neg c, if_neg c]
theorem wb_ends (s : ByteArray) (hs : s.size ≤ 16) : ∀ (n k : Nat) (i : Int), 0 ≤ i → (s.size : Int) - i ≤ n → n < k → ∃ b, sluiceref12_Named.l0 k s i = some b := by
  intro n
  induction n with
  | zero =>
    intro k i h0 h1 hk
    obtain ⟨k, rfl⟩ : ∃ m, k = m + 1 := ⟨k - 1, by omega⟩
    rw [sluiceref12_Named.l0, if_neg (by omega)]
    exact ⟨_, rfl⟩
  | succ n ih =>
    intro k i h0 h1 hk
    obtain ⟨k, rfl⟩ : ∃ m, k = m + 1 := ⟨k - 1, by omega⟩
    rw [sluiceref12_Named.l0]
    by_cases c : i < (s.size : Int)
    · obtain ⟨b, hb⟩ := ih k (wrap64 (i + 1)) (by rw [w64_id (by omega) (by omega)]; omega) (by rw [w64_id (by omega) (by omega)]; omega) (by omega)
      rw [if_pos c, if_pos h0, hb]
      repeat' split
      all_goals exact ⟨_, rfl⟩
    · rw [if_neg c]; exact ⟨_, rfl⟩
theorem wb_named (s : ByteArray) (k : Nat) : ∃ b, wheel_named.f (k + 20) s = some b ∧ sluiceref12_Named.f (k + 20) s = some b := by
  unfold wheel_named.f sluiceref12_Named.f
  by_cases e : s.toList = ([] : List UInt8)
  · rw [if_pos e, if_pos e, wheel_named.j0, sluiceref12_Named.j0]
    exact ⟨false, if_pos rfl, if_pos rfl⟩
  · rw [if_neg e, if_neg e, wheel_named.j0, sluiceref12_Named.j0]
    by_cases c : (s.size : Int) > 16
    · rw [decide_eq_true c]
      exact ⟨false, if_pos rfl, if_pos rfl⟩
    · rw [decide_eq_false c, if_neg (by decide), if_neg (by decide), wb_loop s (by omega) _ 0 (by decide)]
      obtain ⟨b, hb⟩ := wb_ends s (by omega) 16 (k + 19) 0 (by decide) (by omega) (by omega)
      exact ⟨b, hb, hb⟩
theorem wb_sized (s : ByteArray) (n a b : Int) (d : Bool) (e f : Int) (hn0 : 0 ≤ n) (hn1 : n < 4294967296) (k : Nat) :
    ∃ t, wheel_sized.f (k + 20) s n a b d e f = some t ∧ sluiceref12_Sized.f (k + 20) s n a b d e f = some t ∧ (t = true → b ≠ 0) := by
  obtain ⟨t, h1, h2⟩ := wb_named s k
  unfold wheel_sized.f sluiceref12_Sized.f
  rw [h1, h2]
  simp only [Option.bind_some]
  cases t with
  | false => exact ⟨false, if_neg (by decide), if_neg (by decide), fun h => by cases h⟩
  | true =>
    rw [if_pos rfl, if_pos rfl, w64_id (n := n) (by omega) (by omega)]
    by_cases c : 0 < n ∧ n ≤ 2147483647 ∧ 1 ≤ a ∧ a ≤ 3 ∧ 1 ≤ b ∧ b ≤ 512 ∧ b ≤ n ∧ 0 ≤ e
    · obtain ⟨c1, c2, c3, c4, c5, c6, c7, c8⟩ := c
      refine ⟨decide (e ≤ 2147483647), ?_, ?_, fun _ => by omega⟩
      · rw [if_pos (by omega), if_pos (by omega), if_pos (by omega), if_pos (by omega), if_pos (by omega), if_pos (by omega), if_pos (by omega), if_pos (by omega)]
      · rw [if_neg (by omega), if_neg (by omega), if_neg (by omega), if_neg (by omega), if_pos (by omega), if_pos (by omega), if_pos (by omega), if_pos (by omega)]
    · refine ⟨false, ?_, ?_, fun h => by cases h⟩
      · repeat' split
        all_goals first | rfl | (exfalso; omega)
      · repeat' split
        all_goals first | rfl | (exfalso; omega)
theorem wb_batched (a b : Int) : wheel_batched.f a b = sluiceref12_Batched.f a b ∧ ∃ t, sluiceref12_Batched.f a b = some t := by
  unfold wheel_batched.f sluiceref12_Batched.f
  refine ⟨rfl, ?_⟩
  repeat' split
  all_goals exact ⟨_, rfl⟩
theorem wb_optioned (s : ByteArray) (a b c d e : Int) (k : Nat) : ∃ t, wheel_optioned.f (k + 20) s a b c d e = some t ∧ sluiceref12_Optioned.f (k + 20) s a b c d e = some t := by
  obtain ⟨t, h1, h2⟩ := wb_named s k
  obtain ⟨h3, u, h4⟩ := wb_batched a b
  unfold wheel_optioned.f sluiceref12_Optioned.f
  rw [h1, h2, h3, h4]
  simp only [Option.bind_some]
  repeat' split
  all_goals exact ⟨_, rfl, rfl⟩
theorem wb_greatest (s : ByteArray) (n a b : Int) (d : Bool) (e f : Int) (hb : b ≠ 0) : ∃ r, wheel_greatest.f s n a b d e f = some r ∧ sluiceref12_Greatest.f s n a b d e f = some r := by
  unfold wheel_greatest.f sluiceref12_Greatest.f
  rw [if_neg hb]
  exact ⟨_, rfl, rfl⟩

def WheelBoundsPure : Prop := ∀ (a0_0 : ByteArray) (a0_1 : Int) (a0_2 : Int) (a0_3 : Int) (a0_4 : Bool) (a0_5 : Int) (a0_6 : Int) (a1_0 : ByteArray) (a1_1 : Int) (a1_2 : Int) (a1_3 : Int) (a1_4 : Int) (a1_5 : Int) (a2 : Int),
  (Lit.int .u32 a0_1).wf = true → ∃ k, sluicelaw12_WheelBounds.f k a0_0 a0_1 a0_2 a0_3 a0_4 a0_5 a0_6 a1_0 a1_1 a1_2 a1_3 a1_4 a1_5 a2 = some true
theorem WheelBounds : WheelBoundsPure := by
  intro s n a b d e f s' a' b' c' d' e' w wn
  obtain ⟨hn0, hn1⟩ := wf_u32 wn
  obtain ⟨t, h1, h2, h3⟩ := wb_sized s n a b d e f hn0 hn1 20
  obtain ⟨u, h4, h5⟩ := wb_optioned s' a' b' c' d' e' 20
  refine ⟨40, ?_⟩
  have hneed : ∃ r, wheel_Need.f 40 s n a b d e f s' a' b' c' d' e' w = some r ∧ sluiceref12_Need.f 40 s n a b d e f s' a' b' c' d' e' w = some r := by
    unfold wheel_Need.f sluiceref12_Need.f
    rw [h1, h2]
    simp only [Option.bind_some]
    cases t with
    | false => exact ⟨_, if_neg (by decide), if_neg (by decide)⟩
    | true =>
      obtain ⟨r, h6, h7⟩ := wb_greatest s n a b d e f (h3 rfl)
      rw [if_pos rfl, if_pos rfl, h4, h5, h6, h7]
      simp only [Option.bind_some]
      repeat' split
      all_goals exact ⟨_, rfl, rfl⟩
  have hj : ∀ x, ∃ r, wheel_Room.j0 40 w x s n a b d e f = some r ∧ sluiceref12_Room.j0 40 w x s n a b d e f = some r := by
    intro x
    rw [wheel_Room.j0, sluiceref12_Room.j0, Int.mul_comm e 2]
    repeat' split
    all_goals exact ⟨_, rfl, rfl⟩
  have hroom : ∃ r, wheel_Room.f 40 s n a b d e f s' a' b' c' d' e' w = some r ∧ sluiceref12_Room.f 40 s n a b d e f s' a' b' c' d' e' w = some r := by
    unfold wheel_Room.f sluiceref12_Room.f
    rw [h1, h2, h4, h5]
    simp only [Option.bind_some]
    repeat' split
    all_goals exact hj _
  obtain ⟨r, h8, h9⟩ := hneed
  obtain ⟨q, h10, h11⟩ := hroom
  unfold sluicelaw12_WheelBounds.f
  rw [h8, h9, h10, h11]
  simp

end Go.Proofs.Ytnmhfcfojbfikaa.Pure
