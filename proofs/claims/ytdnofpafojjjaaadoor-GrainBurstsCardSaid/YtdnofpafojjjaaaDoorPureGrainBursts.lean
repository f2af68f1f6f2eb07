/- GrainBursts, the pure part: bits turned within 32 beside one another change the sum. Conditions: none but the row's own. -/
import Derived.Test.YtdnofpafojjjaaaDoorWalkGrainBursts
import Derived.Test.YtdnofpafojjjaaaDoorCrc
namespace Go.Proofs.YtdnofpafojjjaaaDoor.Pure
open Go.RowKit Go.Proofs.YtdnofpafojjjaaaDoor.QGrainBursts Go.Proofs.YtdnofpafojjjaaaDoorW.PrintWords Go.Proofs.YtdnofpafojjjaaaDoorW.PrintLast Go.Proofs.YtdnofpafojjjaaaDoorW.PrintMore
open Go.Proofs.YtdnofpafojjjaaaDoor.Num Go.Proofs.YtdnofpafojjjaaaDoor.Crc
set_option linter.unusedVariables false
set_option linter.unusedSimpArgs false
theorem steps8_val (x : Nat) (h : x < 4294967296) : grain_steps8.f (x : Int) = some ((D 8 x : Nat) : Int) := by
  have e1 : grain_steps8.s4 (x : Int) = ((D 4 x : Nat) : Int) := four x h
  have h2 : D 4 x < 4294967296 := (D_ok 4 x h).1
  have e2 : grain_steps8.s4 ((D 4 x : Nat) : Int) = ((D 4 (D 4 x) : Nat) : Int) := four _ h2
  show some (grain_steps8.s4 (grain_steps8.s4 (x : Int))) = _
  rw [e1, e2, ← D_add]
def BytesL (l : List Int) : Prop := ∀ c ∈ l, 0 ≤ c ∧ c < 256
theorem rd_nat (l : List Int) (i : Nat) (h : i < l.length) : rd l (i : Int) = l[i] := by
  show l.getD (i : Int).toNat 0 = _
  rw [Int.toNat_natCast, List.getD_eq_getElem?_getD, List.getElem?_eq_getElem h]
  rfl
theorem more_l0 (l : List Int) (hl : BytesL l) (hL : l.length < 1000000000000000) : ∀ (n k i r : Nat), n + i = l.length → n + 1 ≤ k → r < 4294967296 →
    grain_More.l0 k (r : Int) l (l.length : Int) (i : Int) = some (((run r (l.drop i) ^^^ 4294967295 : Nat)) : Int) := by
  intro n
  induction n with
  | zero =>
    intro k i r hn hk hr
    obtain ⟨k, rfl⟩ : ∃ m, k = m + 1 := ⟨k - 1, by omega⟩
    have hi : i = l.length := by omega
    unfold grain_More.l0
    rw [if_neg (by omega), List.drop_of_length_le (by omega)]
    show some (Go.bits .xor .u32 ((4294967295 : Nat) : Int) (r : Int)) = _
    rw [n32_xor _ _ (by decide) hr, Nat.xor_comm]
    rfl
  | succ n ih =>
    intro k i r hn hk hr
    obtain ⟨k, rfl⟩ : ∃ m, k = m + 1 := ⟨k - 1, by omega⟩
    have hi : i < l.length := by omega
    unfold grain_More.l0
    rw [if_pos (by omega), if_pos (by omega), if_pos (by omega), rd_nat l i hi]
    obtain ⟨c0, c1⟩ := hl l[i] (List.getElem_mem hi)
    have hc : l[i] % 4294967296 = (l[i].toNat : Int) := by omega
    rw [hc, n32_xor _ _ hr (by omega)]
    have hx : r ^^^ l[i].toNat < 4294967296 := Nat.xor_lt_two_pow (n := 32) hr (by omega)
    rw [steps8_val _ hx]
    show grain_More.l0 k ((D 8 (r ^^^ l[i].toNat) : Nat) : Int) l (l.length : Int) (wrap64 ((i : Int) + 1)) = _
    rw [w64_id (by omega) (by omega), show (i : Int) + 1 = ((i + 1 : Nat) : Int) from by omega, ih k (i + 1) _ (by omega) (by omega) ((D_ok 8 _ hx).1), List.drop_eq_getElem_cons hi]
    rfl
theorem more_val (l : List Int) (hl : BytesL l) (hL : l.length < 1000000000000000) (k a : Nat) (hk : l.length + 1 ≤ k) (ha : a < 4294967296) :
    grain_More.f k (a : Int) l = some (((run (a ^^^ 4294967295) l ^^^ 4294967295 : Nat)) : Int) := by
  show grain_More.l0 k (Go.bits .xor .u32 ((4294967295 : Nat) : Int) (a : Int)) l (l.length : Int) ((0 : Nat) : Int) = _
  rw [n32_xor _ _ (by decide) ha, Nat.xor_comm, more_l0 l hl hL l.length k 0 _ (by omega) hk (Nat.xor_lt_two_pow (n := 32) ha (by decide))]
  rfl
/-- The sum of a row. -/
def crc (l : List Int) : Nat := run 4294967295 l ^^^ 4294967295
theorem crc_lt (l : List Int) (hl : BytesL l) : crc l < 4294967296 := Nat.xor_lt_two_pow (n := 32) (run_lt l hl _ (by decide)) (by decide)
theorem crc_one (l : List Int) (hl : BytesL l) (hL : l.length < 1000000000000000) (k : Nat) (hk : l.length + 2 ≤ k) : grain_CRC.f k [l] = some ((crc l : Nat) : Int) := by
  obtain ⟨k, rfl⟩ : ∃ m, k = m + 2 := ⟨k - 2, by omega⟩
  unfold grain_CRC.f
  unfold grain_CRC.l0
  rw [if_pos (by simp), if_pos (by decide), if_pos (by simp)]
  have e : grain_More.f (k + 1) 0 (rd_L1 [l] 0) = some ((crc l : Nat) : Int) := by
    have := more_val l hl hL (k + 1) 0 (by omega) (by decide)
    rw [Nat.zero_xor] at this
    exact this
  rw [e]
  show grain_CRC.l0 (k + 1) ((crc l : Nat) : Int) [l] ((([l] : List (List Int)).length : Nat) : Int) (wrap64 (0 + 1)) = _
  unfold grain_CRC.l0
  rw [if_neg (by rw [w64_id (by decide) (by decide)]; simp)]
theorem twin_l0 (l : List Int) (hL : l.length < 140737488355320) : ∀ (n k i : Nat), n + i = l.length → n + 1 ≤ k → sluicelaw01_twin.l0 k l (l.take i) (i : Int) = some l := by
  intro n
  induction n with
  | zero =>
    intro k i hn hk
    obtain ⟨k, rfl⟩ : ∃ m, k = m + 1 := ⟨k - 1, by omega⟩
    have hi : i = l.length := by omega
    subst hi
    unfold sluicelaw01_twin.l0
    rw [if_neg (by omega), List.take_length]
    show (if l.length + 2 < 140737488355328 then _ else _) = _
    rw [if_pos (by omega)]
    show (if 0 ≤ (l.length : Int) then (if (l.length : Int) ≤ ((l ++ [171, 205]).length : Int) then some ((l ++ [171, 205]).take ((l.length : Int)).toNat) else none) else none) = _
    rw [if_pos (by omega), if_pos (by rw [List.length_append]; omega), Int.toNat_natCast, List.take_left]
  | succ n ih =>
    intro k i hn hk
    obtain ⟨k, rfl⟩ : ∃ m, k = m + 1 := ⟨k - 1, by omega⟩
    have hi : i < l.length := by omega
    unfold sluicelaw01_twin.l0
    rw [if_pos (by omega), if_pos (by omega), if_pos (by rw [List.length_take]; omega), rd_nat l i hi, w64_id (by omega) (by omega), ← List.take_succ_eq_append_getElem hi]
    exact ih k (i + 1) (by omega) (by omega)
theorem twin_val (l : List Int) (hL : l.length < 140737488355320) (k : Nat) (hk : l.length + 1 ≤ k) : sluicelaw01_twin.f k l = some l := twin_l0 l hL l.length k 0 (by omega) hk
theorem shl8 (b : Nat) (h : b < 8) : shl .u8 1 (b : Int) = ((1 <<< b : Nat) : Int) := by
  have h8 : b = 0 ∨ b = 1 ∨ b = 2 ∨ b = 3 ∨ b = 4 ∨ b = 5 ∨ b = 6 ∨ b = 7 := by omega
  rcases h8 with rfl | rfl | rfl | rfl | rfl | rfl | rfl | rfl <;> (unfold shl; simp [IntKind.wrap, IntKind.bits, IntKind.signed])
theorem bit8_lt (b : Nat) (h : b < 8) : 1 <<< b < 256 := by
  have : ∀ y : Fin 8, 1 <<< y.val < 256 := by decide
  exact this ⟨b, h⟩
theorem n8_xor (a b : Nat) (ha : a < 256) (hb : b < 256) : Go.bits .xor .u8 (a : Int) (b : Int) = ((a ^^^ b : Nat) : Int) := by
  show IntKind.u8.wrap (((BitVec.ofInt 8 (a : Int) ^^^ BitVec.ofInt 8 (b : Int)).toNat : Nat) : Int) = _
  rw [BitVec.toNat_xor, ofInt_toNat 8 a ha, ofInt_toNat 8 b hb]
  have h := Nat.xor_lt_two_pow (n := 8) ha hb
  simp only [IntKind.wrap, IntKind.bits, IntKind.signed]
  generalize a ^^^ b = y at h
  simp
  omega
theorem crc_inj (a b : Nat) : (a ^^^ 4294967295 = b ^^^ 4294967295) ↔ a = b := by
  constructor
  · intro h
    have h3 : (a ^^^ 4294967295) ^^^ 4294967295 = (b ^^^ 4294967295) ^^^ 4294967295 := by rw [h]
    rw [Nat.xor_assoc, Nat.xor_assoc, Nat.xor_self, Nat.xor_zero, Nat.xor_zero] at h3
    exact h3
  · intro h; rw [h]
theorem turn_num (l x : List Int) (at_ i e : Nat) (v : Int) (hlen : x.length = l.length) (hx : num x = num l ^^^ (e <<< at_)) (hi : (at_ + i) / 8 < x.length)
    (hv : v.toNat = (x.getD ((at_ + i) / 8) 0).toNat ^^^ (1 <<< ((at_ + i) % 8))) : num (x.set ((at_ + i) / 8) v) = num l ^^^ ((e ^^^ 1 <<< i) <<< at_) := by
  rw [num_set x _ _ v hi hv, hx, Nat.xor_assoc, ← Nat.shiftLeft_add, Nat.shiftLeft_xor_distrib, ← Nat.shiftLeft_add]
  congr 3
  omega
theorem next64 (i : Nat) (h : i < 1000) : wrap64 ((i : Int) + 1) = ((i + 1 : Nat) : Int) := by rw [w64_id (by omega) (by omega)]; omega
theorem turn_e (e i : Nat) (he : e < 2 ^ i) : e ^^^ 1 <<< i < 2 ^ (i + 1) ∧ e ^^^ 1 <<< i ≠ 0 := by
  have h1 : 1 <<< i = 2 ^ i := by rw [Nat.shiftLeft_eq, Nat.one_mul]
  have h2 : 2 ^ i < 2 ^ (i + 1) := Nat.pow_lt_pow_right (by decide) (by omega)
  rw [h1]
  refine ⟨Nat.xor_lt_two_pow (Nat.lt_trans he h2) h2, fun h => ?_⟩
  have h3 : (e ^^^ 2 ^ i) ^^^ 2 ^ i = 0 ^^^ 2 ^ i := by rw [h]
  rw [Nat.xor_assoc, Nat.xor_self, Nat.xor_zero, Nat.zero_xor] at h3
  omega
theorem bursts_l0 (l : List Int) (hl : BytesL l) (hL : l.length < 140737488355320) (at_ : Nat) (hat : at_ < 8 * l.length) (a2 : Int) : ∀ (n k i e : Nat) (x : List Int), n + i = 32 → n + l.length + 4 ≤ k → x.length = l.length → BytesL x →
    num x = num l ^^^ (e <<< at_) → e < 2 ^ i → sluicelaw01_GrainBursts.l0 k l (at_ : Int) a2 x (e != 0) (i : Int) = some true := by
  intro n
  induction n with
  | zero =>
    intro k i e x hn hk hlen hx hnum he
    obtain ⟨k, rfl⟩ : ∃ m, k = m + 1 := ⟨k - 1, by omega⟩
    obtain rfl : i = 32 := by omega
    unfold sluicelaw01_GrainBursts.l0
    rw [if_neg (by decide), crc_one x hx (by omega) k (by omega), crc_one l hl (by omega) k (by omega)]
    show some ((((crc x : Nat) : Int) != ((crc l : Nat) : Int)) == (e != 0)) = some true
    have hk2 := run_turned l x 4294967295 e at_ hlen hnum he (by omega)
    have hk3 : crc x = crc l ↔ e = 0 := (crc_inj _ _).trans hk2
    by_cases h0 : e = 0
    · have := hk3.2 h0
      rw [this, h0]; simp
    · have h4 : crc x ≠ crc l := fun h => h0 (hk3.1 h)
      have h5 : ((crc x : Nat) : Int) ≠ ((crc l : Nat) : Int) := fun h => h4 (by omega)
      rw [bne_iff_ne.mpr h5, bne_iff_ne.mpr h0]; rfl
  | succ n ih =>
    intro k i e x hn hk hlen hx hnum he
    obtain ⟨k, rfl⟩ : ∃ m, k = m + 1 := ⟨k - 1, by omega⟩
    have hmore : e < 2 ^ (i + 1) := Nat.lt_trans he (Nat.pow_lt_pow_right (by decide) (by omega))
    unfold sluicelaw01_GrainBursts.l0
    rw [if_pos (by omega), if_pos (by omega)]
    split
    · rw [w64_id (n := (at_ : Int) + (i : Int)) (by omega) (by omega), w64_id (n := 8 * (l.length : Int)) (by omega) (by omega), show (at_ : Int) + (i : Int) = ((at_ + i : Nat) : Int) from by omega]
      split
      · rename_i hlt
        have hlt' : at_ + i < 8 * l.length := by omega
        have hidx : (at_ + i) / 8 < x.length := by omega
        rw [tdiv_nonneg _ _ (by omega), tmod_nonneg _ _ (by omega), show ((at_ + i : Nat) : Int) / 8 = (((at_ + i) / 8 : Nat) : Int) from by omega, show ((at_ + i : Nat) : Int) % 8 = (((at_ + i) % 8 : Nat) : Int) from by omega,
          w64_id (n := (((at_ + i) / 8 : Nat) : Int)) (by omega) (by omega), if_pos (by omega), if_pos (by omega), if_pos (by omega), next64 i (by omega), rd_nat x _ hidx, shl8 _ (Nat.mod_lt _ (by decide)), Int.toNat_natCast]
        obtain ⟨c0, c1⟩ := hx x[(at_ + i) / 8] (List.getElem_mem hidx)
        have hc : x[(at_ + i) / 8] = ((x[(at_ + i) / 8].toNat : Nat) : Int) := by omega
        have hb : 1 <<< ((at_ + i) % 8) < 256 := bit8_lt _ (Nat.mod_lt _ (by decide))
        have hv : Go.bits .xor .u8 x[(at_ + i) / 8] ((1 <<< ((at_ + i) % 8) : Nat) : Int) = ((x[(at_ + i) / 8].toNat ^^^ (1 <<< ((at_ + i) % 8)) : Nat) : Int) := by
          conv => lhs; rw [hc]
          exact n8_xor _ _ (by omega) hb
        rw [hv]
        obtain ⟨he1, he2⟩ := turn_e e i he
        have hd : x.getD ((at_ + i) / 8) 0 = x[(at_ + i) / 8] := by
          rw [List.getD_eq_getElem?_getD, List.getElem?_eq_getElem hidx]; rfl
        have := ih k (i + 1) (e ^^^ 1 <<< i) (x.set ((at_ + i) / 8) ((x[(at_ + i) / 8].toNat ^^^ (1 <<< ((at_ + i) % 8)) : Nat) : Int)) (by omega) (by omega) (by rw [List.length_set]; exact hlen)
          (by
            intro c hcm
            rcases List.mem_or_eq_of_mem_set hcm with h | h
            · exact hx c h
            · have := Nat.xor_lt_two_pow (n := 8) (show x[(at_ + i) / 8].toNat < 2 ^ 8 by omega) (show 1 <<< ((at_ + i) % 8) < 2 ^ 8 from hb)
              rw [h]; constructor <;> omega)
          (turn_num l x at_ i e _ hlen hnum hidx (by rw [hd, Int.toNat_natCast])) he1
        rw [bne_iff_ne.mpr he2] at this
        exact this
      · rw [next64 i (by omega)]
        exact ih k (i + 1) e x (by omega) (by omega) hlen hx hnum hmore
    · rw [next64 i (by omega)]
      exact ih k (i + 1) e x (by omega) (by omega) hlen hx hnum hmore
theorem nine : crc [49, 50, 51, 52, 53, 54, 55, 56, 57] = 3421780262 := by decide +kernel
theorem j0_succ (k : Nat) (x0 : List Int) (x1 x2 : Int) (x23 : Bool) : sluicelaw01_GrainBursts.j0 (k + 1) x0 x1 x2 x23 = if x23 = true then some true else (if wrap64 (8 * (x0.length : Int)) = 0 then none else ((sluicelaw01_twin.f k x0).bind fun t125 => sluicelaw01_GrainBursts.l0 k x0 (Int.tmod x1 (wrap64 (8 * (x0.length : Int)))) x2 t125 false 0)) := by
  conv => lhs; unfold sluicelaw01_GrainBursts.j0
/-- The law. -/
theorem bursts_true (l : List Int) (hl : BytesL l) (hL : l.length < 140737488355320) (a1 a2 : Int) (w1 : (Lit.int .i64 a1).wf = true) : ∃ k, sluicelaw01_GrainBursts.f k l a1 a2 = some true := by
  obtain ⟨b0, b1⟩ := wf_i64 w1
  obtain ⟨K, hK⟩ : ∃ K, K = l.length + 40 := ⟨_, rfl⟩
  refine ⟨K + 1, ?_⟩
  unfold sluicelaw01_GrainBursts.f
  rw [crc_one [49, 50, 51, 52, 53, 54, 55, 56, 57] (by unfold BytesL; decide) (by decide) _ (by simp only [List.length_cons, List.length_nil]; omega), nine]
  rw [Option.bind_some, if_pos (by decide)]
  split
  · rw [j0_succ]
    rw [if_pos rfl]
  · rename_i hneg
    rw [j0_succ]
    by_cases h0 : l.length = 0
    · rw [if_pos (by rw [h0]; rfl)]
    · rw [if_neg (by rw [beq_iff_eq]; omega), w64_id (n := 8 * (l.length : Int)) (by omega) (by omega), if_neg (by omega), twin_val l hL _ (by omega)]
      rw [tmod_nonneg _ _ (by omega)]
      obtain ⟨at_, hat⟩ : ∃ at_ : Nat, a1 % (8 * (l.length : Int)) = (at_ : Int) := ⟨(a1 % (8 * (l.length : Int))).toNat, by have := Int.emod_nonneg a1 (show (8 * (l.length : Int)) ≠ 0 by omega); omega⟩
      have hlt : at_ < 8 * l.length := by have := Int.emod_lt_of_pos a1 (show 0 < (8 * (l.length : Int)) by omega); omega
      rw [hat]
      show sluicelaw01_GrainBursts.l0 K l (at_ : Int) a2 l false ((0 : Nat) : Int) = some true
      have := bursts_l0 l hl hL at_ hlt a2 32 K 0 0 l (by omega) (by omega) rfl hl (by rw [Nat.zero_shiftLeft, Nat.xor_zero]) (by decide)
      exact this
/-- The law. -/
theorem GrainBursts : sluicelaw01_GrainBursts.Pure := fun l a1 a2 h hw w1 _ => bursts_true l (fun c hc => wf_u8 (hw c hc)) (by omega) a1 a2 w1
end Go.Proofs.YtdnofpafojjjaaaDoor.Pure
