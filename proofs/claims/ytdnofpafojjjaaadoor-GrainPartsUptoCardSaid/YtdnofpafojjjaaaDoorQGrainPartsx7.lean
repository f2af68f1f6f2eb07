/- What the functions that the statement GrainParts reaches come to, and that the given program's calls come to it; written by this session's program printx.py (wip/tpl), which runs the kit's print over the translation with additions of its own. No printed file. Conditions: as each theorem says. -/
import Derived.Test.YtdnofpafojjjaaaDoorQGrainPartsx0
import Derived.Test.YtdnofpafojjjaaaDoorQGrainPartsx4
import Derived.Test.YtdnofpafojjjaaaDoorQGrainPartsx6
namespace Go.Proofs.YtdnofpafojjjaaaDoor.QGrainParts
open Go.RowKit Go.Proofs.YtdnofpafojjjaaaDoorW.PrintWords Go.Proofs.YtdnofpafojjjaaaDoorW.PrintLast Go.Proofs.YtdnofpafojjjaaaDoorW.PrintMore
attribute [local go_sem] max2_int min2_int max_two min_two max_three min_three max_four min_four   -- for this text's walks alone
set_option linter.unusedVariables false
set_option linter.unusedSimpArgs false

/-! ### grain_Join: function 15 -/
/-! The sum of two parts put together. -/
theorem grain_Join.mlt (e i : Nat) : (Sq.Mat e).getD i 0 < 4294967296 := by
  by_cases h : i < 32
  · exact Sq.Mat_lt e i h
  · have hl : (Sq.Mat e).length ≤ i := by rw [Sq.Mat_len]; omega
    rw [List.getD_eq_getElem?_getD, List.getElem?_eq_none hl]
    decide
/-- The map twice over, its first i numbers made. -/
def grain_Join.tw (e i : Nat) : List Nat := (Sq.Mat (2 * e)).take i ++ (Sq.Mat e).drop i
theorem grain_Join.tw_zero (e : Nat) : grain_Join.tw e 0 = Sq.Mat e := by simp [grain_Join.tw]
theorem grain_Join.tw_all (e : Nat) : grain_Join.tw e 32 = Sq.Mat (2 * e) := by
  unfold grain_Join.tw
  rw [List.take_of_length_le (by rw [Sq.Mat_len]; exact Nat.le_refl _), List.drop_of_length_le (by rw [Sq.Mat_len]; exact Nat.le_refl _), List.append_nil]
theorem grain_Join.tw_set (e i : Nat) (hi : i < 32) : (grain_Join.tw e i).set i (Sq.lin (Sq.Mat e) ((Sq.Mat e).getD i 0)) = grain_Join.tw e (i + 1) := by
  have hl : i < (Sq.Mat (2 * e)).length := by rw [Sq.Mat_len]; exact hi
  have hl2 : i < (Sq.Mat e).length := by rw [Sq.Mat_len]; exact hi
  have ht : ((Sq.Mat (2 * e)).take i).length = i := by rw [List.length_take]; omega
  rw [Sq.Mat_twice e i hi]
  unfold grain_Join.tw
  rw [List.set_append_right _ _ (by omega), ht, Nat.sub_self, List.drop_eq_getElem_cons hl2, List.set_cons_zero, List.take_succ_eq_append_getElem hl, List.append_assoc]
  congr 2
  simp [List.getD, hl]
theorem grain_Join.odd (n : Nat) (h : n < 4611686018427387904) : Go.bits .and .i64 (n : Int) 1 = ((n % 2 : Nat) : Int) := by
  show IntKind.i64.wrap (((BitVec.ofInt 64 (n : Int) &&& BitVec.ofInt 64 ((1 : Nat) : Int)).toNat : Nat) : Int) = _
  rw [BitVec.toNat_and, Num.ofInt_toNat 64 n (by omega), Num.ofInt_toNat 64 1 (by decide), Nat.and_one_is_mod, i64_w, Num.w64_id (by omega) (by omega)]
theorem grain_Join.half (e n x : Nat) (h : 0 < n) : Crc.D (2 * e * (n / 2)) (if n % 2 = 1 then Crc.D e x else x) = Crc.D (e * n) x := by
  split
  · rw [← Crc.D_add]
    congr 1
    rename_i h1
    have : n = 2 * (n / 2) + 1 := by omega
    conv => rhs; rw [this, Nat.mul_add, ← Nat.mul_assoc, Nat.mul_one, Nat.mul_comm e 2]
    omega
  · congr 1
    rename_i h1
    have : n = 2 * (n / 2) := by omega
    conv => rhs; rw [this, ← Nat.mul_assoc, Nat.mul_comm e 2]
def grain_Join.f (a0 a1 a2 : Int) : Option (Int × Int) :=
  if (0 ≤ a0 ∧ a0 < 4294967296) ∧ (0 ≤ a1 ∧ a1 < 4294967296) then (if 0 ≤ a2 ∧ a2 ≤ 1099511627776 then some (((Crc.D (8 * a2.toNat) a0.toNat ^^^ a1.toNat : Nat) : Int), 0) else some (0, 12)) else none
set_option maxHeartbeats 8000000 in
set_option maxRecDepth 100000 in
theorem grain_Join.calls (a0 a1 a2 : Int) (r1 r2 : Int) (w : World) (h : grain_Join.f a0 a1 a2 = some (r1, r2)) (hGD : Glob.GD w) (hGS : Glob.GS w) :
    Calls Tryd.prog 15 #[.int .u32 a0, .int .u32 a1, .int .i64 a2] w fun e w' => e = .returned (.tuple #[.int .u32 r1, .int .i64 r2]) ∧ Below w.heap.size w w' := by
  unfold grain_Join.f at h
  by_cases c0 : (0 ≤ a0 ∧ a0 < 4294967296) ∧ (0 ≤ a1 ∧ a1 < 4294967296)
  case neg => rw [if_neg c0] at h; cases h
  rw [if_pos c0] at h
  have HGS := Aside0.mk hGS
  have HGD := Aside0.mk hGD
  clear hGS hGD
  have HB := Aside0.mk (Below.refl w.heap.size w)
  by_cases c1 : 0 ≤ a2 ∧ a2 ≤ 1099511627776
  case neg =>
    rw [if_neg c1] at h
    obtain ⟨rfl, rfl⟩ := Prod.mk.inj (Option.some.inj h)
    clear h
    by_cases c2 : a2 < 0
    · have b2 : decide (a2 < 0) = true := decide_eq_true c2
      go_enter Tryd.func15, Tryd.ntmps15
      go_wp2
      go_ret2
      exact ⟨rfl, by repeat (first | (with_reducible first | exact HB.out | apply below_alloc | apply pw_below_drewN | apply below_drew1) | exact HB.out)⟩
    · have b2 : decide (a2 < 0) = false := decide_eq_false c2
      have b3 : decide (a2 > 1099511627776) = true := decide_eq_true (by omega)
      go_enter Tryd.func15, Tryd.ntmps15
      go_wp2
      go_ret2
      exact ⟨rfl, by repeat (first | (with_reducible first | exact HB.out | apply below_alloc | apply pw_below_drewN | apply below_drew1) | exact HB.out)⟩
  rw [if_pos c1] at h
  obtain ⟨a, rfl⟩ : ∃ a : Nat, a0 = a := ⟨a0.toNat, by omega⟩
  obtain ⟨b, rfl⟩ : ∃ b : Nat, a1 = b := ⟨a1.toNat, by omega⟩
  obtain ⟨n0, rfl⟩ : ∃ n : Nat, a2 = n := ⟨a2.toNat, by omega⟩
  rw [Int.toNat_natCast, Int.toNat_natCast, Int.toNat_natCast] at h
  obtain ⟨rfl, rfl⟩ := Prod.mk.inj (Option.some.inj h)
  clear h
  have ha : a < 4294967296 := by omega
  have hb : b < 4294967296 := by omega
  have hn0 : n0 ≤ 1099511627776 := by omega
  have b2 : decide ((n0 : Int) < 0) = false := decide_eq_false (by omega)
  have b3 : decide ((n0 : Int) > 1099511627776) = false := decide_eq_false (by omega)
  have hz := (zero_of_info grain_zeros.info).1
  have HBB := Aside0.mk hb
  clear c0 c1 hb
  go_enter Tryd.func15, Tryd.ntmps15
  go_wp2_with (first | ((with_reducible refine gate_callee (f := 34) rfl ?_); refine goesL_ (some 17) rfl rfl Tryd.func34 (by kernel_rfl) rfl #[] rfl (by (try simp only [List.map_toArray, List.map_cons, List.map_nil]); first | done | rfl) ?_; (with_reducible refine (grain_zeros.calls _ (by first | exact HGS.out | exact Glob.GS.drewN HGS.out _)).mono ?_); rintro e w3 ⟨rfl, hb⟩; refine ⟨_, rfl, ?_⟩; have n0_ := Aside0.mk (below_step (by repeat (first | (with_reducible first | exact HB.out | apply below_alloc | apply pw_below_drewN | apply below_drew1) | exact HB.out)) hb); clear HB hb; have HB := n0_; clear n0_) | ((with_reducible refine gate_dst (N := 8) rfl ?_); refine box_event ?hg (N := 8) ?hd (cs := Sq.U (List.replicate 32 0)) (t := 65) ?hr ?_; (case hd => rfl); (case hg => rfl); (case hr => first | (go_simp; done) | (go_simp; rfl)); intro g8 hg w10 hbox hb; have n0_ := Aside0.mk (below_step (by repeat (first | (with_reducible first | exact HB.out | apply below_alloc | apply pw_below_drewN | apply below_drew1) | exact HB.out)) hb); have HGE8 := Aside0.mk ((by rw [hg]; exact (below_size (by repeat (first | (with_reducible first | exact HB.out | apply below_alloc | apply pw_below_drewN | apply below_drew1) | exact HB.out))) : w.heap.size ≤ g8)); have HA8 : Aside0 (Sq.At 65 w10 g8 (List.replicate 32 0)) := ⟨rfl, hbox⟩; clear HB hb hbox hg; have HB := n0_; clear n0_) | ((with_reducible refine gate_store (t := 65) (p := 8) rfl ?_); refine Sq.store_event ?hg (T := 65) (p := 8) (v := .tmp 17) ?ho ?hn ?hx (s' := (Sq.Mat 8)) ?hy (by (with_reducible repeat (first | apply Sq.At.alloc | apply Sq.At.drewN | apply Sq.At.drew)); exact HA8.out) (Sq.Mat_len _) grain_zeros.size ?_; (case hg => rfl); (case ho => rfl); (case hn => rfl); (case hx => rfl); (case hy => rfl); intro w11 hw; have n0_ : Aside0 (Sq.At 65 w11 g8 (Sq.Mat 8)) := ⟨by rw [hw]; exact Sq.At.store (by (with_reducible repeat (first | apply Sq.At.alloc | apply Sq.At.drewN | apply Sq.At.drew)); exact HA8.out) (Sq.Mat_len _)⟩; have n1_ : Aside0 (Below w.heap.size w w11) := ⟨by rw [hw]; exact Sq.below_row (by repeat (first | (with_reducible first | exact HB.out | apply below_alloc | apply pw_below_drewN | apply below_drew1) | exact HB.out)) HGE8.out _⟩; clear HA8 HB hw; have HA8 := n0_; have HB := n1_; clear n0_ n1_))
  (try simp only [Act.put, List.setIfInBounds_toArray, List.set_cons_zero, List.set_cons_succ])
  go_loopg [0, 2] n0 (fun kq v0 v2 w' => ∃ x n e : Nat, v0 = .int .u32 (x : Int) ∧ v2 = .int .i64 (n : Int) ∧ Aside0 (n ≤ kq ∧ n ≤ 1099511627776 ∧ x < 4294967296 ∧ Crc.D (e * n) x = Crc.D (8 * n0) a) ∧ Aside0 (Sq.At 65 w' g8 (Sq.Mat e)) ∧ Aside0 (Below w.heap.size w w'))
  case atStart => exact ⟨a, n0, 8, rfl, rfl, ⟨Nat.le_refl _, hn0, ha, rfl⟩, ⟨(by (with_reducible repeat (first | apply Sq.At.alloc | apply Sq.At.drewN | apply Sq.At.drew)); exact HA8.out)⟩, ⟨by repeat (first | (with_reducible first | exact HB.out | apply below_alloc | apply pw_below_drewN | apply below_drew1) | exact HB.out)⟩⟩
  case round =>
    clear HB HA8 b2 b3
    obtain ⟨x, n, e, rfl, rfl, HN, HA8, HB⟩ := hrel
    obtain ⟨hk, hn, hx, hD⟩ := HN.out
    clear HN
    by_cases hz0 : n = 0
    · subst hz0
      rw [Nat.mul_zero] at hD
      have hD' : x = Crc.D (8 * n0) a := hD
      have b4 : decide (((0 : Nat) : Int) > 0) = false := rfl
      have hxor := Num.n32_xor x b hx HBB.out
      rw [hD'] at hxor hx
      subst hD'
      clear hk hn hD hx
      go_wp2_with (first | simp only [hxor])
      go_ret2
      exact ⟨rfl, by repeat (first | (with_reducible first | exact HB.out | apply below_alloc | apply pw_below_drewN | apply below_drew1) | exact HB.out)⟩
    · have b4 : decide ((n : Int) > 0) = true := decide_eq_true (by omega)
      have ho := grain_Join.odd n (by omega)
      have hh := grain_Join.half e n x (by omega)
      have hgq : 0 < gk := by omega
      obtain ⟨gq, hgq1⟩ : ∃ gq, gq = gk := ⟨_, rfl⟩
      by_cases hodd : n % 2 = 1
      · have b5 : (Go.bits .and .i64 (n : Int) 1 == 1) = true := by rw [ho, hodd]; rfl
        rw [if_pos hodd] at hh
        have hlx : Sq.lin (Sq.Mat e) x = Crc.D e x := Sq.lin_Mat e x hx
        have HN2 : Aside0 (n / 2 ≤ gq - 1 ∧ n / 2 ≤ 1099511627776 ∧ Crc.D e x < 4294967296 ∧ Crc.D (2 * e * (n / 2)) (Crc.D e x) = Crc.D (8 * n0) a) := ⟨by omega, by omega, (Crc.D_ok e x hx).1, by rw [hh, hD]⟩
        clear ho hh hodd hk hD
        go_wp2_with (first | ((with_reducible refine gate_callee (f := 35) rfl ?_); refine goesL_ (some 26) rfl rfl Tryd.func35 (by kernel_rfl) rfl #[.pointer (some ⟨g8, 0, none⟩), .int .u32 (x : Int)] rfl (by (try simp only [List.map_toArray, List.map_cons, List.map_nil]); first | done | rfl) ?_; (with_reducible refine (grain_square_of.calls g8 (Sq.Mat e) x _ (by (with_reducible repeat (first | apply Sq.At.alloc | apply Sq.At.drewN | apply Sq.At.drew)); exact HA8.out) (grain_Join.mlt e) hx (by first | exact Glob.GD.below HGD.out (by repeat (first | (with_reducible first | exact HB.out | apply below_alloc | apply pw_below_drewN | apply below_drew1) | exact HB.out)))).mono ?_); rintro e_ w' ⟨rfl, ⟨nd, rfl⟩⟩; refine ⟨_, rfl, ?_⟩) | ((with_reducible refine gate_dst (N := 27) rfl ?_); refine Sq.load_event ?hg (T := 65) (p := 8) ?ho ?hx (by (with_reducible repeat (first | apply Sq.At.alloc | apply Sq.At.drewN | apply Sq.At.drew)); exact HA8.out) Tryd.underlying65 grain_zeros.size ?_; (case hg => rfl); (case ho => rfl); (case hx => rfl)) | ((with_reducible refine gate_dst (N := 9) rfl ?_); refine box_event ?hg (N := 9) ?hd (cs := Sq.U (List.replicate 32 0)) (t := 65) ?hr ?_; (case hd => rfl); (case hg => rfl); (case hr => first | (go_simp; done) | (go_simp; rfl)); intro g9 hg w20 hbox hb; have n0_ := Aside0.mk (below_step (by repeat (first | (with_reducible first | exact HB.out | apply below_alloc | apply pw_below_drewN | apply below_drew1) | exact HB.out)) hb); have HGE9 := Aside0.mk ((by rw [hg]; exact (below_size (by repeat (first | (with_reducible first | exact HB.out | apply below_alloc | apply pw_below_drewN | apply below_drew1) | exact HB.out))) : w.heap.size ≤ g9)); have HA9 : Aside0 (Sq.At 65 w20 g9 (List.replicate 32 0)) := ⟨rfl, hbox⟩; have k0_ := Aside0.mk (Sq.At.below (by (with_reducible repeat (first | apply Sq.At.alloc | apply Sq.At.drewN | apply Sq.At.drew)); exact HA8.out) hb); have NE : Aside0 (g8 ≠ g9) := ⟨by rw [hg]; exact Nat.ne_of_lt (Sq.At.lt (by (with_reducible repeat (first | apply Sq.At.alloc | apply Sq.At.drewN | apply Sq.At.drew)); exact HA8.out))⟩; clear HB hb hbox hg; have HB := n0_; clear n0_; clear HA8; have HA8 := k0_; clear k0_) | ((with_reducible refine gate_store (t := 65) (p := 9) rfl ?_); refine Sq.store_event ?hg (T := 65) (p := 9) (v := .tmp 27) ?ho ?hn ?hx (s' := (Sq.Mat e)) ?hy (by (with_reducible repeat (first | apply Sq.At.alloc | apply Sq.At.drewN | apply Sq.At.drew)); exact HA9.out) (Sq.Mat_len _) grain_zeros.size ?_; (case hg => rfl); (case ho => rfl); (case hn => rfl); (case hx => rfl); (case hy => rfl); intro w21 hw; have n0_ : Aside0 (Sq.At 65 w21 g9 (Sq.Mat e)) := ⟨by rw [hw]; exact Sq.At.store (by (with_reducible repeat (first | apply Sq.At.alloc | apply Sq.At.drewN | apply Sq.At.drew)); exact HA9.out) (Sq.Mat_len _)⟩; have n1_ : Aside0 (Below w.heap.size w w21) := ⟨by rw [hw]; exact Sq.below_row (by repeat (first | (with_reducible first | exact HB.out | apply below_alloc | apply pw_below_drewN | apply below_drew1) | exact HB.out)) HGE9.out _⟩; have o0_ : Aside0 (Sq.At 65 w21 g8 (Sq.Mat e)) := ⟨by rw [hw]; exact Sq.At.row_far (by (with_reducible repeat (first | apply Sq.At.alloc | apply Sq.At.drewN | apply Sq.At.drew)); exact HA8.out) NE.out _⟩; clear HA9 HB hw; have HA9 := n0_; have HB := n1_; clear n0_ n1_; clear HA8; have HA8 := o0_; clear o0_))
        (try simp only [Act.put, List.setIfInBounds_toArray, List.set_cons_zero, List.set_cons_succ])
        go_loopg [28] 32 (fun kq v28 w' => ∃ i : Nat, v28 = .int .i64 (i : Int) ∧ Aside0 (kq + i = 32) ∧ Aside0 (Sq.At 65 w' g8 (Sq.Mat e)) ∧ Aside0 (Sq.At 65 w' g9 (grain_Join.tw e i)) ∧ Aside0 (Below w.heap.size w w'))
        case atStart => exact ⟨0, rfl, ⟨rfl⟩, ⟨(by (with_reducible repeat (first | apply Sq.At.alloc | apply Sq.At.drewN | apply Sq.At.drew)); exact HA8.out)⟩, ⟨by rw [grain_Join.tw_zero]; exact (by (with_reducible repeat (first | apply Sq.At.alloc | apply Sq.At.drewN | apply Sq.At.drew)); exact HA9.out)⟩, ⟨(by repeat (first | (with_reducible first | exact HB.out | apply below_alloc | apply pw_below_drewN | apply below_drew1) | exact HB.out))⟩⟩
        case round =>
          clear HB HA8 HA9
          obtain ⟨i, rfl, HKi, HA8, HA9, HB⟩ := hrel
          by_cases hi : i < 32
          · have b0 : decide ((i : Int) < 32) = true := decide_eq_true (by omega)
            have p0 : (0 ≤ (i : Int)) = True := eq_true (by omega)
            have p1 : ((i : Int) < 32) = True := eq_true (by omega)
            have hcell8 := HA8.out.cell i hi
            have hcell9 := HA9.out.cell i hi
            have hfro9 := HA9.out.frozen i
            have hX := grain_Join.mlt e i
            have HSet := Aside0.mk (HA9.out.set i (Sq.lin (Sq.Mat e) ((Sq.Mat e).getD i 0)))
            rw [grain_Join.tw_set e i hi] at HSet
            have hgk : 0 < gk := by have := HKi.out; omega
            have HK' : Aside0 (gk - 1 + (i + 1) = 32) := ⟨by have := HKi.out; omega⟩
            generalize (grain_Join.tw e i).getD i 0 = old at hcell9
            generalize (Sq.Mat e).getD i 0 = X at *
            clear HKi
            go_wp2_with (first | ((with_reducible refine gate_callee (f := 35) rfl ?_); refine goesL_ (some 35) rfl rfl Tryd.func35 (by kernel_rfl) rfl #[.pointer (some ⟨g8, 0, none⟩), .int .u32 (X : Int)] rfl (by (try simp only [List.map_toArray, List.map_cons, List.map_nil]); first | done | rfl) ?_; (with_reducible refine (grain_square_of.calls g8 (Sq.Mat e) X _ (by (with_reducible repeat (first | apply Sq.At.alloc | apply Sq.At.drewN | apply Sq.At.drew)); exact HA8.out) (grain_Join.mlt e) hX (by first | exact Glob.GD.below HGD.out (by repeat (first | (with_reducible first | exact HB.out | apply below_alloc | apply pw_below_drewN | apply below_drew1) | exact HB.out)))).mono ?_); rintro e_ w' ⟨rfl, ⟨nd, rfl⟩⟩; refine ⟨_, rfl, ?_⟩) | ((with_reducible refine gate_store (t := 23) (p := 36) rfl ?_); refine store_event (t := 23) (p := 36) (v := ?vo_w9) (w1 := ((wr.drewN nd).setCell ⟨g9, i, none⟩ (.int .u32 ((Sq.lin (Sq.Mat e) X : Nat) : Int)))) ?hg ?ho ?hn ?hr ?_; (case ho => rfl); (case hg => rfl); (case hn => rfl); (case hr => first | (go_simp; done) | (go_simp; rfl)); intro w9 hw; have n0_ : Aside0 (Sq.At 65 w9 g9 (grain_Join.tw e (i + 1))) := ⟨by rw [hw]; exact HSet.out⟩; have n1_ : Aside0 (Below w.heap.size w w9) := ⟨by rw [hw]; exact below_set (pw_below_drewN HB.out _) HGE9.out⟩; have n2_ : Aside0 (Sq.At 65 w9 g8 (Sq.Mat e)) := ⟨by rw [hw]; exact Sq.At.far (Sq.At.drewN HA8.out _) NE.out _ _⟩; clear HA9 HA8 HB HSet hw; have HA9 := n0_; have HB := n1_; have HA8 := n2_; clear n0_ n1_ n2_))
            go_roundg (gk - 1)
            case measure => omega
            case rel => exact ⟨i + 1, (by first | rfl | (simp; done)), HK', ⟨(by (with_reducible repeat (first | apply Sq.At.alloc | apply Sq.At.drewN | apply Sq.At.drew)); exact HA8.out)⟩, ⟨(by (with_reducible repeat (first | apply Sq.At.alloc | apply Sq.At.drewN | apply Sq.At.drew)); exact HA9.out)⟩, ⟨(by repeat (first | (with_reducible first | exact HB.out | apply below_alloc | apply pw_below_drewN | apply below_drew1) | exact HB.out))⟩⟩
          · have hi' : i = 32 := by have := HKi.out; omega
            subst hi'
            have b0 : decide (((32 : Nat) : Int) < 32) = false := decide_eq_false (by omega)
            replace HA9 : Aside0 (Sq.At 65 wr g9 (Sq.Mat (2 * e))) := ⟨by have := HA9.out; rw [grain_Join.tw_all] at this; exact this⟩
            clear HKi hi
            go_wp2_with (first | ((with_reducible refine gate_dst (N := 38) rfl ?_); refine Sq.load_event ?hg (T := 65) (p := 9) ?ho ?hx (by (with_reducible repeat (first | apply Sq.At.alloc | apply Sq.At.drewN | apply Sq.At.drew)); exact HA9.out) Tryd.underlying65 grain_zeros.size ?_; (case hg => rfl); (case ho => rfl); (case hx => rfl)) | ((with_reducible refine gate_store (t := 65) (p := 8) rfl ?_); refine Sq.store_event ?hg (T := 65) (p := 8) (v := .tmp 38) ?ho ?hn ?hx (s' := (Sq.Mat (2 * e))) ?hy (by (with_reducible repeat (first | apply Sq.At.alloc | apply Sq.At.drewN | apply Sq.At.drew)); exact HA8.out) (Sq.Mat_len _) grain_zeros.size ?_; (case hg => rfl); (case ho => rfl); (case hn => rfl); (case hx => rfl); (case hy => rfl); intro w30 hw; have n0_ : Aside0 (Sq.At 65 w30 g8 (Sq.Mat (2 * e))) := ⟨by rw [hw]; exact Sq.At.store (by (with_reducible repeat (first | apply Sq.At.alloc | apply Sq.At.drewN | apply Sq.At.drew)); exact HA8.out) (Sq.Mat_len _)⟩; have n1_ : Aside0 (Below w.heap.size w w30) := ⟨by rw [hw]; exact Sq.below_row (by repeat (first | (with_reducible first | exact HB.out | apply below_alloc | apply pw_below_drewN | apply below_drew1) | exact HB.out)) HGE8.out _⟩; clear HA8 HB hw; have HA8 := n0_; have HB := n1_; clear n0_ n1_))
            go_roundg (gq - 1)
            case measure => omega
            case rel => exact ⟨Crc.D e x, n / 2, 2 * e, (by first | rfl | (rw [hlx])), (by first | rfl | (simp; done)), HN2, ⟨(by (with_reducible repeat (first | apply Sq.At.alloc | apply Sq.At.drewN | apply Sq.At.drew)); exact HA8.out)⟩, ⟨(by repeat (first | (with_reducible first | exact HB.out | apply below_alloc | apply pw_below_drewN | apply below_drew1) | exact HB.out))⟩⟩
      · have b5 : (Go.bits .and .i64 (n : Int) 1 == 1) = false := by rw [ho, show n % 2 = 0 by omega]; rfl
        rw [if_neg hodd] at hh
        have HN2 : Aside0 (n / 2 ≤ gq - 1 ∧ n / 2 ≤ 1099511627776 ∧ x < 4294967296 ∧ Crc.D (2 * e * (n / 2)) x = Crc.D (8 * n0) a) := ⟨by omega, by omega, hx, by rw [hh, hD]⟩
        clear ho hh hodd hk hD
        go_wp2_with (first | ((with_reducible refine gate_dst (N := 27) rfl ?_); refine Sq.load_event ?hg (T := 65) (p := 8) ?ho ?hx (by (with_reducible repeat (first | apply Sq.At.alloc | apply Sq.At.drewN | apply Sq.At.drew)); exact HA8.out) Tryd.underlying65 grain_zeros.size ?_; (case hg => rfl); (case ho => rfl); (case hx => rfl)) | ((with_reducible refine gate_dst (N := 9) rfl ?_); refine box_event ?hg (N := 9) ?hd (cs := Sq.U (List.replicate 32 0)) (t := 65) ?hr ?_; (case hd => rfl); (case hg => rfl); (case hr => first | (go_simp; done) | (go_simp; rfl)); intro g9 hg w20 hbox hb; have n0_ := Aside0.mk (below_step (by repeat (first | (with_reducible first | exact HB.out | apply below_alloc | apply pw_below_drewN | apply below_drew1) | exact HB.out)) hb); have HGE9 := Aside0.mk ((by rw [hg]; exact (below_size (by repeat (first | (with_reducible first | exact HB.out | apply below_alloc | apply pw_below_drewN | apply below_drew1) | exact HB.out))) : w.heap.size ≤ g9)); have HA9 : Aside0 (Sq.At 65 w20 g9 (List.replicate 32 0)) := ⟨rfl, hbox⟩; have k0_ := Aside0.mk (Sq.At.below (by (with_reducible repeat (first | apply Sq.At.alloc | apply Sq.At.drewN | apply Sq.At.drew)); exact HA8.out) hb); have NE : Aside0 (g8 ≠ g9) := ⟨by rw [hg]; exact Nat.ne_of_lt (Sq.At.lt (by (with_reducible repeat (first | apply Sq.At.alloc | apply Sq.At.drewN | apply Sq.At.drew)); exact HA8.out))⟩; clear HB hb hbox hg; have HB := n0_; clear n0_; clear HA8; have HA8 := k0_; clear k0_) | ((with_reducible refine gate_store (t := 65) (p := 9) rfl ?_); refine Sq.store_event ?hg (T := 65) (p := 9) (v := .tmp 27) ?ho ?hn ?hx (s' := (Sq.Mat e)) ?hy (by (with_reducible repeat (first | apply Sq.At.alloc | apply Sq.At.drewN | apply Sq.At.drew)); exact HA9.out) (Sq.Mat_len _) grain_zeros.size ?_; (case hg => rfl); (case ho => rfl); (case hn => rfl); (case hx => rfl); (case hy => rfl); intro w21 hw; have n0_ : Aside0 (Sq.At 65 w21 g9 (Sq.Mat e)) := ⟨by rw [hw]; exact Sq.At.store (by (with_reducible repeat (first | apply Sq.At.alloc | apply Sq.At.drewN | apply Sq.At.drew)); exact HA9.out) (Sq.Mat_len _)⟩; have n1_ : Aside0 (Below w.heap.size w w21) := ⟨by rw [hw]; exact Sq.below_row (by repeat (first | (with_reducible first | exact HB.out | apply below_alloc | apply pw_below_drewN | apply below_drew1) | exact HB.out)) HGE9.out _⟩; have o0_ : Aside0 (Sq.At 65 w21 g8 (Sq.Mat e)) := ⟨by rw [hw]; exact Sq.At.row_far (by (with_reducible repeat (first | apply Sq.At.alloc | apply Sq.At.drewN | apply Sq.At.drew)); exact HA8.out) NE.out _⟩; clear HA9 HB hw; have HA9 := n0_; have HB := n1_; clear n0_ n1_; clear HA8; have HA8 := o0_; clear o0_))
        (try simp only [Act.put, List.setIfInBounds_toArray, List.set_cons_zero, List.set_cons_succ])
        go_loopg [28] 32 (fun kq v28 w' => ∃ i : Nat, v28 = .int .i64 (i : Int) ∧ Aside0 (kq + i = 32) ∧ Aside0 (Sq.At 65 w' g8 (Sq.Mat e)) ∧ Aside0 (Sq.At 65 w' g9 (grain_Join.tw e i)) ∧ Aside0 (Below w.heap.size w w'))
        case atStart => exact ⟨0, rfl, ⟨rfl⟩, ⟨(by (with_reducible repeat (first | apply Sq.At.alloc | apply Sq.At.drewN | apply Sq.At.drew)); exact HA8.out)⟩, ⟨by rw [grain_Join.tw_zero]; exact (by (with_reducible repeat (first | apply Sq.At.alloc | apply Sq.At.drewN | apply Sq.At.drew)); exact HA9.out)⟩, ⟨(by repeat (first | (with_reducible first | exact HB.out | apply below_alloc | apply pw_below_drewN | apply below_drew1) | exact HB.out))⟩⟩
        case round =>
          clear HB HA8 HA9
          obtain ⟨i, rfl, HKi, HA8, HA9, HB⟩ := hrel
          by_cases hi : i < 32
          · have b0 : decide ((i : Int) < 32) = true := decide_eq_true (by omega)
            have p0 : (0 ≤ (i : Int)) = True := eq_true (by omega)
            have p1 : ((i : Int) < 32) = True := eq_true (by omega)
            have hcell8 := HA8.out.cell i hi
            have hcell9 := HA9.out.cell i hi
            have hfro9 := HA9.out.frozen i
            have hX := grain_Join.mlt e i
            have HSet := Aside0.mk (HA9.out.set i (Sq.lin (Sq.Mat e) ((Sq.Mat e).getD i 0)))
            rw [grain_Join.tw_set e i hi] at HSet
            have hgk : 0 < gk := by have := HKi.out; omega
            have HK' : Aside0 (gk - 1 + (i + 1) = 32) := ⟨by have := HKi.out; omega⟩
            generalize (grain_Join.tw e i).getD i 0 = old at hcell9
            generalize (Sq.Mat e).getD i 0 = X at *
            clear HKi
            go_wp2_with (first | ((with_reducible refine gate_callee (f := 35) rfl ?_); refine goesL_ (some 35) rfl rfl Tryd.func35 (by kernel_rfl) rfl #[.pointer (some ⟨g8, 0, none⟩), .int .u32 (X : Int)] rfl (by (try simp only [List.map_toArray, List.map_cons, List.map_nil]); first | done | rfl) ?_; (with_reducible refine (grain_square_of.calls g8 (Sq.Mat e) X _ (by (with_reducible repeat (first | apply Sq.At.alloc | apply Sq.At.drewN | apply Sq.At.drew)); exact HA8.out) (grain_Join.mlt e) hX (by first | exact Glob.GD.below HGD.out (by repeat (first | (with_reducible first | exact HB.out | apply below_alloc | apply pw_below_drewN | apply below_drew1) | exact HB.out)))).mono ?_); rintro e_ w' ⟨rfl, ⟨nd, rfl⟩⟩; refine ⟨_, rfl, ?_⟩) | ((with_reducible refine gate_store (t := 23) (p := 36) rfl ?_); refine store_event (t := 23) (p := 36) (v := ?vo_w9) (w1 := ((wr.drewN nd).setCell ⟨g9, i, none⟩ (.int .u32 ((Sq.lin (Sq.Mat e) X : Nat) : Int)))) ?hg ?ho ?hn ?hr ?_; (case ho => rfl); (case hg => rfl); (case hn => rfl); (case hr => first | (go_simp; done) | (go_simp; rfl)); intro w9 hw; have n0_ : Aside0 (Sq.At 65 w9 g9 (grain_Join.tw e (i + 1))) := ⟨by rw [hw]; exact HSet.out⟩; have n1_ : Aside0 (Below w.heap.size w w9) := ⟨by rw [hw]; exact below_set (pw_below_drewN HB.out _) HGE9.out⟩; have n2_ : Aside0 (Sq.At 65 w9 g8 (Sq.Mat e)) := ⟨by rw [hw]; exact Sq.At.far (Sq.At.drewN HA8.out _) NE.out _ _⟩; clear HA9 HA8 HB HSet hw; have HA9 := n0_; have HB := n1_; have HA8 := n2_; clear n0_ n1_ n2_))
            go_roundg (gk - 1)
            case measure => omega
            case rel => exact ⟨i + 1, (by first | rfl | (simp; done)), HK', ⟨(by (with_reducible repeat (first | apply Sq.At.alloc | apply Sq.At.drewN | apply Sq.At.drew)); exact HA8.out)⟩, ⟨(by (with_reducible repeat (first | apply Sq.At.alloc | apply Sq.At.drewN | apply Sq.At.drew)); exact HA9.out)⟩, ⟨(by repeat (first | (with_reducible first | exact HB.out | apply below_alloc | apply pw_below_drewN | apply below_drew1) | exact HB.out))⟩⟩
          · have hi' : i = 32 := by have := HKi.out; omega
            subst hi'
            have b0 : decide (((32 : Nat) : Int) < 32) = false := decide_eq_false (by omega)
            replace HA9 : Aside0 (Sq.At 65 wr g9 (Sq.Mat (2 * e))) := ⟨by have := HA9.out; rw [grain_Join.tw_all] at this; exact this⟩
            clear HKi hi
            go_wp2_with (first | ((with_reducible refine gate_dst (N := 38) rfl ?_); refine Sq.load_event ?hg (T := 65) (p := 9) ?ho ?hx (by (with_reducible repeat (first | apply Sq.At.alloc | apply Sq.At.drewN | apply Sq.At.drew)); exact HA9.out) Tryd.underlying65 grain_zeros.size ?_; (case hg => rfl); (case ho => rfl); (case hx => rfl)) | ((with_reducible refine gate_store (t := 65) (p := 8) rfl ?_); refine Sq.store_event ?hg (T := 65) (p := 8) (v := .tmp 38) ?ho ?hn ?hx (s' := (Sq.Mat (2 * e))) ?hy (by (with_reducible repeat (first | apply Sq.At.alloc | apply Sq.At.drewN | apply Sq.At.drew)); exact HA8.out) (Sq.Mat_len _) grain_zeros.size ?_; (case hg => rfl); (case ho => rfl); (case hn => rfl); (case hx => rfl); (case hy => rfl); intro w30 hw; have n0_ : Aside0 (Sq.At 65 w30 g8 (Sq.Mat (2 * e))) := ⟨by rw [hw]; exact Sq.At.store (by (with_reducible repeat (first | apply Sq.At.alloc | apply Sq.At.drewN | apply Sq.At.drew)); exact HA8.out) (Sq.Mat_len _)⟩; have n1_ : Aside0 (Below w.heap.size w w30) := ⟨by rw [hw]; exact Sq.below_row (by repeat (first | (with_reducible first | exact HB.out | apply below_alloc | apply pw_below_drewN | apply below_drew1) | exact HB.out)) HGE8.out _⟩; clear HA8 HB hw; have HA8 := n0_; have HB := n1_; clear n0_ n1_))
            go_roundg (gq - 1)
            case measure => omega
            case rel => exact ⟨x, n / 2, 2 * e, rfl, (by first | rfl | (simp; done)), HN2, ⟨(by (with_reducible repeat (first | apply Sq.At.alloc | apply Sq.At.drewN | apply Sq.At.drew)); exact HA8.out)⟩, ⟨(by repeat (first | (with_reducible first | exact HB.out | apply below_alloc | apply pw_below_drewN | apply below_drew1) | exact HB.out))⟩⟩

end Go.Proofs.YtdnofpafojjjaaaDoor.QGrainParts
