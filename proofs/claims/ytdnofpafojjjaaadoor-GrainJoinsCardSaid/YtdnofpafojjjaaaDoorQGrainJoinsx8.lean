/- What the functions that the statement GrainJoins reaches come to, and that the given program's calls come to it; written by this session's program printx.py (wip/tpl), which runs the kit's print over the translation with additions of its own. No printed file. Conditions: as each theorem says. -/
import Derived.Test.YtdnofpafojjjaaaDoorQGrainJoinsx0
import Derived.Test.YtdnofpafojjjaaaDoorQGrainJoinsx6
import Derived.Test.YtdnofpafojjjaaaDoorQGrainJoinsx7
namespace Go.Proofs.YtdnofpafojjjaaaDoor.QGrainJoins
open Go.RowKit Go.Proofs.YtdnofpafojjjaaaDoorW.PrintWords Go.Proofs.YtdnofpafojjjaaaDoorW.PrintLast Go.Proofs.YtdnofpafojjjaaaDoorW.PrintMore
attribute [local go_sem] max2_int min2_int max_two min_two max_three min_three max_four min_four   -- for this text's walks alone
set_option linter.unusedVariables false
set_option linter.unusedSimpArgs false

/-! ### sluiceref01_Join: function 16 -/
/-! The document's sum of two parts put together. -/
theorem sluiceref01_Join.info : (Tryd.prog.info? 64).map (fun i => (i.zero, i.size)) = some (some (.agg (Sq.U (List.replicate 32 0))), 32) := by kernel_rfl
theorem sluiceref01_Join.size : (Tryd.prog.info? 64).map (·.size) = some 32 := by kernel_rfl
theorem sluiceref01_Join.dn (x : Nat) (h : x < 4294967296) : sluiceref01_down.f (x : Int) = some ((Crc.D 1 x : Nat) : Int) := by
  unfold sluiceref01_down.f
  rw [Num.tmod_nonneg _ _ (by omega), Num.tdiv_nonneg _ _ (by omega), show (x : Int) / 2 % 4294967296 = ((x / 2 : Nat) : Int) from by omega]
  have := Num.n32_xor (x / 2) 3988292384 (by omega) (by decide)
  show _ = some ((Crc.d x : Nat) : Int)
  unfold Crc.d
  split
  · rw [if_pos (by omega)]
    exact congrArg some this
  · rw [if_neg (by omega), Nat.xor_zero]
def sluiceref01_Join.f (a0 a1 a2 : Int) : Option (Int × Int) :=
  if (0 ≤ a0 ∧ a0 < 4294967296) ∧ (0 ≤ a1 ∧ a1 < 4294967296) then (if 0 ≤ a2 ∧ a2 ≤ 1099511627776 then some (((Crc.D (8 * a2.toNat) a0.toNat ^^^ a1.toNat : Nat) : Int), 0) else some (0, 12)) else none
set_option maxHeartbeats 8000000 in
set_option maxRecDepth 100000 in
theorem sluiceref01_Join.calls (a0 a1 a2 : Int) (r1 r2 : Int) (w : World) (h : sluiceref01_Join.f a0 a1 a2 = some (r1, r2)) :
    Calls Tryd.prog 16 #[.int .u32 a0, .int .u32 a1, .int .i64 a2] w fun e w' => e = .returned (.tuple #[.int .u32 r1, .int .i64 r2]) ∧ Below w.heap.size w w' := by
  unfold sluiceref01_Join.f at h
  by_cases c0 : (0 ≤ a0 ∧ a0 < 4294967296) ∧ (0 ≤ a1 ∧ a1 < 4294967296)
  case neg => rw [if_neg c0] at h; cases h
  rw [if_pos c0] at h
  have HB := Aside0.mk (Below.refl w.heap.size w)
  by_cases c1 : 0 ≤ a2 ∧ a2 ≤ 1099511627776
  case neg =>
    rw [if_neg c1] at h
    obtain ⟨rfl, rfl⟩ := Prod.mk.inj (Option.some.inj h)
    clear h
    by_cases c2 : a2 < 0
    · have b2 : decide (a2 < 0) = true := decide_eq_true c2
      go_enter Tryd.func16, Tryd.ntmps16
      go_wp2
      go_ret2
      exact ⟨rfl, by repeat (first | (with_reducible first | exact HB.out | apply below_alloc | apply pw_below_drewN | apply below_drew1) | exact HB.out)⟩
    · have b2 : decide (a2 < 0) = false := decide_eq_false c2
      have b3 : decide (a2 > 1099511627776) = true := decide_eq_true (by omega)
      go_enter Tryd.func16, Tryd.ntmps16
      go_wp2
      go_ret2
      exact ⟨rfl, by repeat (first | (with_reducible first | exact HB.out | apply below_alloc | apply pw_below_drewN | apply below_drew1) | exact HB.out)⟩
  rw [if_pos c1] at h
  obtain ⟨a, rfl⟩ : ∃ a : Nat, a0 = a := ⟨a0.toNat, by omega⟩
  obtain ⟨b, rfl⟩ : ∃ b : Nat, a1 = b := ⟨a1.toNat, by omega⟩
  obtain ⟨n0, rfl⟩ : ∃ n : Nat, a2 = n := ⟨a2.toNat, by omega⟩
  rw [Int.toNat_natCast, Int.toNat_natCast, Int.toNat_natCast] at h
  obtain ⟨rfl, rfl⟩ := Prod.mk.inj (Option.some.inj h)
  clear h
  have ha : a < 4294967296 := by omega
  have hb : b < 4294967296 := by omega
  have hn0 : n0 ≤ 1099511627776 := by omega
  have b2 : decide ((n0 : Int) < 0) = false := decide_eq_false (by omega)
  have b3 : decide ((n0 : Int) > 1099511627776) = false := decide_eq_false (by omega)
  have hz := (zero_of_info sluiceref01_Join.info).1
  have HBB := Aside0.mk hb
  clear c0 c1 hb
  go_enter Tryd.func16, Tryd.ntmps16
  go_wp2_with (first | ((with_reducible refine gate_dst (N := 8) rfl ?_); refine box_event ?hg (N := 8) ?hd (cs := Sq.U (List.replicate 32 0)) (t := 64) ?hr ?_; (case hd => rfl); (case hg => rfl); (case hr => first | (go_simp; done) | (go_simp; rfl)); intro g8 hg w10 hbox hb; have n0_ := Aside0.mk (below_step (by repeat (first | (with_reducible first | exact HB.out | apply below_alloc | apply pw_below_drewN | apply below_drew1) | exact HB.out)) hb); have HGE8 := Aside0.mk ((by rw [hg]; exact (below_size (by repeat (first | (with_reducible first | exact HB.out | apply below_alloc | apply pw_below_drewN | apply below_drew1) | exact HB.out))) : w.heap.size ≤ g8)); have HA8 : Aside0 (Sq.At 64 w10 g8 (List.replicate 32 0)) := ⟨rfl, hbox⟩; clear HB hb hbox hg; have HB := n0_; clear n0_))
  (try simp only [Act.put, List.setIfInBounds_toArray, List.set_cons_zero, List.set_cons_succ])
  go_loopg [9] 32 (fun kq v9 w' => ∃ i : Nat, v9 = .int .i64 (i : Int) ∧ Aside0 (kq + i = 32) ∧ Aside0 (Sq.At 64 w' g8 (Sq.zs 1 i)) ∧ Aside0 (Below w.heap.size w w'))
  case atStart => exact ⟨0, rfl, ⟨rfl⟩, ⟨(by (with_reducible repeat (first | apply Sq.At.alloc | apply Sq.At.drewN | apply Sq.At.drew)); exact HA8.out)⟩, ⟨by repeat (first | (with_reducible first | exact HB.out | apply below_alloc | apply pw_below_drewN | apply below_drew1) | exact HB.out)⟩⟩
  case round =>
    clear HB HA8
    obtain ⟨i, rfl, HK, HA8, HB⟩ := hrel
    by_cases hi : i < 32
    · have b0 : decide ((i : Int) < 32) = true := decide_eq_true (by omega)
      have p0 : (0 ≤ (i : Int)) = True := eq_true (by omega)
      have p1 : ((i : Int) < 32) = True := eq_true (by omega)
      have hx : 2 ^ i < 4294967296 := Nat.pow_lt_pow_right (by decide) hi
      have h8 := Aside0.mk (sluiceref01_Join.dn (2 ^ i) hx)
      have hmin : min i 32 = i := Nat.min_eq_left (by omega)
      have hsh : IntKind.u32.wrap (2 ^ i) = ((2 ^ i : Nat) : Int) := by
        rw [show ((2 : Int) ^ i) = ((2 ^ i : Nat) : Int) from by rw [Int.natCast_pow]; rfl]
        exact Num.u32_nat _ hx
      have hsh1 : IntKind.u32.wrap (1 * 2 ^ i) = ((2 ^ i : Nat) : Int) := by rw [Int.one_mul]; exact hsh
      have hcell := HA8.out.cell i hi
      have hfro := HA8.out.frozen i
      have HSet := Aside0.mk (HA8.out.set i ((Sq.Mat 1).getD i 0))
      rw [Sq.zs_set 1 i hi, Sq.Mat_get 1 i hi] at HSet
      have hgk : 0 < gk := by have := HK.out; omega
      have HK' : Aside0 (gk - 1 + (i + 1) = 32) := ⟨by have := HK.out; omega⟩
      generalize (Sq.zs 1 i).getD i 0 = old at hcell
      generalize 2 ^ i = X at *
      clear HK
      go_wp2_with (first | (go_at_call 33; (with_reducible refine (sluiceref01_down.calls (X : Int) ((Crc.D 1 X : Nat) : Int) _ h8.out).mono ?_); rintro e w' ⟨rfl, ⟨nd, rfl⟩⟩) | ((with_reducible refine gate_store (t := 23) (p := 27) rfl ?_); refine store_event (t := 23) (p := 27) (v := ?vo_w9) (w1 := ((wr.drewN nd).setCell ⟨g8, i, none⟩ (.int .u32 ((Crc.D 1 X : Nat) : Int)))) ?hg ?ho ?hn ?hr ?_; (case ho => rfl); (case hg => rfl); (case hn => rfl); (case hr => first | (go_simp; done) | (go_simp; rfl)); intro w9 hw; have n0_ : Aside0 (Sq.At 64 w9 g8 (Sq.zs 1 (i + 1))) := ⟨by rw [hw]; exact HSet.out⟩; have n1_ : Aside0 (Below w.heap.size w w9) := ⟨by rw [hw]; exact below_set (pw_below_drewN HB.out _) HGE8.out⟩; clear HA8 HB HSet hw; have HA8 := n0_; have HB := n1_; clear n0_ n1_))
      go_roundg (gk - 1)
      case measure => omega
      case rel => exact ⟨i + 1, (by first | rfl | (simp; done)), HK', ⟨(by (with_reducible repeat (first | apply Sq.At.alloc | apply Sq.At.drewN | apply Sq.At.drew)); exact HA8.out)⟩, ⟨by repeat (first | (with_reducible first | exact HB.out | apply below_alloc | apply pw_below_drewN | apply below_drew1) | exact HB.out)⟩⟩
    · have hi' : i = 32 := by have := HK.out; omega
      subst hi'
      have b0 : decide (((32 : Nat) : Int) < 32) = false := decide_eq_false (by omega)
      replace HA8 : Aside0 (Sq.At 64 wr g8 (Sq.Mat 1)) := ⟨by have := HA8.out; rw [Sq.zs_all] at this; exact this⟩
      have hw8 : wrap64 (8 * (n0 : Int)) = 8 * (n0 : Int) := by unfold wrap64; omega
      clear HK hi
      go_wp2
      (try simp only [Act.put, List.setIfInBounds_toArray, List.set_cons_zero, List.set_cons_succ])
      go_loopg [0, 10] (8 * n0) (fun kq v0 v10 w' => ∃ x n e : Nat, v0 = .int .u32 (x : Int) ∧ v10 = .int .i64 (n : Int) ∧ Aside0 (n ≤ kq ∧ n ≤ 8796093022208 ∧ x < 4294967296 ∧ Crc.D (e * n) x = Crc.D (8 * n0) a) ∧ Aside0 (Sq.At 64 w' g8 (Sq.Mat e)) ∧ Aside0 (Below w.heap.size w w'))
      case atStart => exact ⟨a, 8 * n0, 1, rfl, (by first | rfl | (simp; done)), ⟨Nat.le_refl _, by omega, ha, by rw [Nat.one_mul]⟩, ⟨(by (with_reducible repeat (first | apply Sq.At.alloc | apply Sq.At.drewN | apply Sq.At.drew)); exact HA8.out)⟩, ⟨by repeat (first | (with_reducible first | exact HB.out | apply below_alloc | apply pw_below_drewN | apply below_drew1) | exact HB.out)⟩⟩
      case round =>
        clear HB HA8
        obtain ⟨x, n, e, rfl, rfl, HN, HA8, HB⟩ := hrel
        obtain ⟨hk, hn, hx, hD⟩ := HN.out
        clear HN b2 b3 hw8 b0
        by_cases hz0 : n = 0
        · subst hz0
          rw [Nat.mul_zero] at hD
          have hD' : x = Crc.D (8 * n0) a := hD
          have b4 : decide (((0 : Nat) : Int) > 0) = false := rfl
          have hxor := Num.n32_xor x b hx HBB.out
          rw [hD'] at hxor hx
          subst hD'
          clear hk hn hD hx
          go_wp2_with (first | simp only [hxor])
          go_ret2
          exact ⟨rfl, by repeat (first | (with_reducible first | exact HB.out | apply below_alloc | apply pw_below_drewN | apply below_drew1) | exact HB.out)⟩
        · have b4 : decide ((n : Int) > 0) = true := decide_eq_true (by omega)
          have hh := Sq.half e n x (by omega)
          have hgq : 0 < gk := by omega
          obtain ⟨gq, hgq1⟩ : ∃ gq, gq = gk := ⟨_, rfl⟩
          have htm : Int.tmod (n : Int) 2 = ((n % 2 : Nat) : Int) := by rw [Int.tmod_eq_emod_of_nonneg (by omega)]; omega
          have htd : Int.tdiv (n : Int) 2 = ((n / 2 : Nat) : Int) := by rw [Int.tdiv_eq_ediv_of_nonneg (by omega)]; omega
          have HT2 := Aside0.mk htd
          have hnn : (0 ≤ (n : Int)) = True := eq_true (by omega)
          by_cases hodd : n % 2 = 1
          · have b5 : (((n % 2 : Nat) : Int) == 1) = true := by rw [hodd]; rfl
            have b6 : ((n : Int) % 2 == 1) = true := beq_iff_eq.mpr (by omega)
            rw [if_pos hodd] at hh
            have hlx : Sq.lin (Sq.Mat e) x = Crc.D e x := Sq.lin_Mat e x hx
            have HN2 : Aside0 (n / 2 ≤ gq - 1 ∧ n / 2 ≤ 8796093022208 ∧ Crc.D e x < 4294967296 ∧ Crc.D (2 * e * (n / 2)) (Crc.D e x) = Crc.D (8 * n0) a) := ⟨by omega, by omega, (Crc.D_ok e x hx).1, by rw [hh, hD]⟩
            clear hh hodd hk hD
            go_wp2_with (first | ((with_reducible refine gate_dst (N := 37) rfl ?_); refine Sq.load_event ?hg (T := 64) (p := 8) ?ho ?hx (by (with_reducible repeat (first | apply Sq.At.alloc | apply Sq.At.drewN | apply Sq.At.drew)); exact HA8.out) Tryd.underlying64 sluiceref01_Join.size ?_; (case hg => rfl); (case ho => rfl); (case hx => rfl)) | ((with_reducible refine gate_callee (f := 36) rfl ?_); refine goesL_ (some 39) rfl rfl Tryd.func36 (by kernel_rfl) rfl #[.agg (Sq.U (Sq.Mat e)), .int .u32 (x : Int)] rfl (by (try simp only [List.map_toArray, List.map_cons, List.map_nil]); first | done | rfl) ?_; (with_reducible refine (sluiceref01_through.calls (Sq.Mat e) x _ (Sq.Mat_len e) (Sq.Mat_lt_all e) hx).mono ?_); rintro e_ w39 ⟨rfl, hb⟩; refine ⟨_, rfl, ?_⟩; have k0_ := Aside0.mk (Sq.At.below (by (with_reducible repeat (first | apply Sq.At.alloc | apply Sq.At.drewN | apply Sq.At.drew)); exact HA8.out) hb); have n0_ := Aside0.mk (below_step (by repeat (first | (with_reducible first | exact HB.out | apply below_alloc | apply pw_below_drewN | apply below_drew1) | exact HB.out)) hb); clear HB hb; have HB := n0_; clear n0_; clear HA8; have HA8 := k0_; clear k0_) | ((with_reducible refine gate_dst (N := 11) rfl ?_); refine box_event ?hg (N := 11) ?hd (cs := Sq.U (List.replicate 32 0)) (t := 64) ?hr ?_; (case hd => rfl); (case hg => rfl); (case hr => first | (go_simp; done) | (go_simp; rfl)); intro g9 hg w20 hbox hb; have n0_ := Aside0.mk (below_step (by repeat (first | (with_reducible first | exact HB.out | apply below_alloc | apply pw_below_drewN | apply below_drew1) | exact HB.out)) hb); have HGE9 := Aside0.mk ((by rw [hg]; exact (below_size (by repeat (first | (with_reducible first | exact HB.out | apply below_alloc | apply pw_below_drewN | apply below_drew1) | exact HB.out))) : w.heap.size ≤ g9)); have HA9 : Aside0 (Sq.At 64 w20 g9 (List.replicate 32 0)) := ⟨rfl, hbox⟩; have k0_ := Aside0.mk (Sq.At.below (by (with_reducible repeat (first | apply Sq.At.alloc | apply Sq.At.drewN | apply Sq.At.drew)); exact HA8.out) hb); have NE : Aside0 (g8 ≠ g9) := ⟨by rw [hg]; exact Nat.ne_of_lt (Sq.At.lt (by (with_reducible repeat (first | apply Sq.At.alloc | apply Sq.At.drewN | apply Sq.At.drew)); exact HA8.out))⟩; clear HB hb hbox hg; have HB := n0_; clear n0_; clear HA8; have HA8 := k0_; clear k0_))
            (try simp only [Act.put, List.setIfInBounds_toArray, List.set_cons_zero, List.set_cons_succ])
            go_loopg [12] 32 (fun kq v12 w' => ∃ i : Nat, v12 = .int .i64 (i : Int) ∧ Aside0 (kq + i = 32) ∧ Aside0 (Sq.At 64 w' g8 (Sq.Mat e)) ∧ Aside0 (Sq.At 64 w' g9 (Sq.zs (2 * e) i)) ∧ Aside0 (Below w.heap.size w w'))
            case atStart => exact ⟨0, rfl, ⟨rfl⟩, ⟨(by (with_reducible repeat (first | apply Sq.At.alloc | apply Sq.At.drewN | apply Sq.At.drew)); exact HA8.out)⟩, ⟨(by (with_reducible repeat (first | apply Sq.At.alloc | apply Sq.At.drewN | apply Sq.At.drew)); exact HA9.out)⟩, ⟨(by repeat (first | (with_reducible first | exact HB.out | apply below_alloc | apply pw_below_drewN | apply below_drew1) | exact HB.out))⟩⟩
            case round =>
              clear HB HA8 HA9
              obtain ⟨i, rfl, HKi, HA8, HA9, HB⟩ := hrel
              by_cases hi : i < 32
              · have b0 : decide ((i : Int) < 32) = true := decide_eq_true (by omega)
                have p0 : (0 ≤ (i : Int)) = True := eq_true (by omega)
                have p1 : ((i : Int) < 32) = True := eq_true (by omega)
                have hcell8 := HA8.out.cell i hi
                have hX := Sq.Mat_lt_all e i
                have hgk : 0 < gk := by have := HKi.out; omega
                have HK' : Aside0 (gk - 1 + (i + 1) = 32) := ⟨by have := HKi.out; omega⟩
                obtain ⟨X, hXX⟩ : ∃ X, (Sq.Mat e).getD i 0 = X := ⟨_, rfl⟩
                have HXX := Aside0.mk hXX
                rw [hXX] at hcell8 hX
                clear HKi hXX
                go_upto_region 17 with (fail)
                refine start_ (n := 8) (S := fun w' => Sq.At 64 w' g8 (Sq.Mat e) ∧ Sq.At 64 w' g9 (Sq.zs (2 * e) i) ∧ Below w.heap.size w w' ∧ w'.cell? ⟨g8, i, none⟩ = some (.int .u32 (X : Int))) (ds := [7]) #[false, false, false, false, false, false, false, false] (by kernel_rfl) rfl rfl ⟨Sq.At.drew (by (with_reducible repeat (first | apply Sq.At.alloc | apply Sq.At.drewN | apply Sq.At.drew)); exact HA8.out), Sq.At.drew (by (with_reducible repeat (first | apply Sq.At.alloc | apply Sq.At.drewN | apply Sq.At.drew)); exact HA9.out), below_drew1 (by repeat (first | (with_reducible first | exact HB.out | apply below_alloc | apply pw_below_drewN | apply below_drew1) | exact HB.out)), hcell8⟩ (fun hHeld => ?_)
                refine pure_ (i := 0) (N := some 44) (v := ?_) (a' := ?_) #[true, false, false, false, false, false, false, false] rfl rfl (by kernel_rfl) (fun _ _ _ h => h) (Or.inl ⟨by rfl, ?_⟩) ?_ ?_
                rotate_left
                · intro w'
                  go_simp
                  with_reducible rfl
                rotate_left
                · simp only [Act.put, List.setIfInBounds_toArray, List.set_cons_zero, List.set_cons_succ, i64_w, i32_w]
                  rfl
                refine take_ (i := 1) (N := some 45) (v := .agg (Sq.U (Sq.Mat e))) (a' := ?_) #[true, true, false, false, false, false, false, false] rfl rfl (by kernel_rfl) (fun _ _ _ h => h) (Or.inl ⟨by rfl, ?_⟩) hHeld ?_ ?_
                · rintro w' ⟨s0, s1, s2, s3⟩
                  exact Sq.load_run (T := 64) (p := 8) rfl rfl s0 Tryd.underlying64 sluiceref01_Join.size
                rotate_left
                · simp only [Act.put, List.setIfInBounds_toArray, List.set_cons_zero, List.set_cons_succ, i64_w, i32_w]
                  rfl
                refine pure_ (i := 2) (N := some 46) (v := ?_) (a' := ?_) #[true, true, true, false, false, false, false, false] rfl rfl (by kernel_rfl) (fun _ _ _ h => h) (Or.inl ⟨by rfl, ?_⟩) ?_ ?_
                rotate_left
                · intro w'
                  go_simp
                  with_reducible rfl
                rotate_left
                · simp only [Act.put, List.setIfInBounds_toArray, List.set_cons_zero, List.set_cons_succ, i64_w, i32_w]
                  rfl
                refine pure_ (i := 3) (N := some 47) (v := ?_) (a' := ?_) #[true, true, true, true, false, false, false, false] rfl rfl (by kernel_rfl) (fun _ _ _ h => h) (Or.inl ⟨by rfl, ?_⟩) ?_ ?_
                rotate_left
                · intro w'
                  go_simp
                  with_reducible rfl
                rotate_left
                · simp only [Act.put, List.setIfInBounds_toArray, List.set_cons_zero, List.set_cons_succ, i64_w, i32_w]
                  rfl
                refine take_ (i := 4) (N := some 48) (v := ?_) (a' := ?_) #[true, true, true, true, true, false, false, false] rfl rfl (by kernel_rfl) (fun _ _ _ h => h) (Or.inl ⟨by rfl, ?_⟩) hHeld ?_ ?_
                rotate_left
                · rintro w' ⟨s0, s1, s2, s3⟩
                  go_simp
                  with_reducible rfl
                rotate_left
                · simp only [Act.put, List.setIfInBounds_toArray, List.set_cons_zero, List.set_cons_succ, i64_w, i32_w]
                  rfl
                refine one_ (i := 5) (N := some 49) #[true, true, true, true, true, true, false, false] rfl rfl (by kernel_rfl) (by decide) (fun K hK => ?_)
                refine goes_ Tryd.func36 (by kernel_rfl) rfl #[.agg (Sq.U (Sq.Mat e)), .int .u32 (X : Int)] (by rfl) rfl rfl (by simp only [List.map_toArray, List.map_cons, List.map_nil]; rfl) ?_
                with_reducible refine (sluiceref01_through.calls (Sq.Mat e) X _ (Sq.Mat_len e) (Sq.Mat_lt_all e) hX).mono ?_
                rintro e_ w49 ⟨rfl, hb⟩
                refine ⟨_, rfl, ?_⟩
                have k8 := Sq.At.below hHeld.1 hb
                have k9 := Sq.At.below hHeld.2.1 hb
                have kb := below_step hHeld.2.2.1 hb
                have kc : w49.cell? ⟨g8, i, none⟩ = some (.int .u32 (X : Int)) := (hb.cell (World.block_lt_of_cell? _ _ hHeld.2.2.2)).trans hHeld.2.2.2
                clear hHeld hb
                refine hK.out _ _ ⟨k8, k9, kb, kc⟩ (fun hHeld => ?_)
                clear hK K
                refine norm_ (a' := ?_) ?_ ?_
                rotate_left
                · show Act.put _ (some 49) _ = _
                  simp only [Act.put, List.setIfInBounds_toArray, List.set_cons_zero, List.set_cons_succ, i64_w, i32_w]
                  rfl
                refine pure_ (i := 6) (N := some 50) (v := ?_) (a' := ?_) #[true, true, true, true, true, true, true, false] rfl rfl (by kernel_rfl) (fun _ _ _ h => h) (Or.inl ⟨by rfl, ?_⟩) ?_ ?_
                rotate_left
                · intro w'
                  go_simp
                  with_reducible rfl
                rotate_left
                · simp only [Act.put, List.setIfInBounds_toArray, List.set_cons_zero, List.set_cons_succ, i64_w, i32_w]
                  rfl
                have hcell9 := k9.cell i hi
                have hfro9 := k9.frozen i
                have HSet := Aside0.mk (k9.set i (Sq.lin (Sq.Mat e) ((Sq.Mat e).getD i 0)))
                rw [Sq.Mat_twice e i hi, Sq.zs_set (2 * e) i hi, ← Sq.Mat_twice e i hi, HXX.out] at HSet
                clear hHeld
                refine last_ (i := 7) (N := none) #[true, true, true, true, true, true, true, true] rfl rfl (by kernel_rfl) (by decide) (fun K hK => ?_)
                refine skip_ (w1 := (w49.setCell ⟨g9, i, none⟩ (.int .u32 ((Sq.lin (Sq.Mat e) X : Nat) : Int)))) (by rfl) rfl ?_ ?_
                · go_simp
                  (try rfl)
                refine hK.out _ _ ?_
                clear hK K HA8 HA9 HB
                have HA9 : Aside0 (Sq.At 64 (w49.setCell ⟨g9, i, none⟩ (.int .u32 ((Sq.lin (Sq.Mat e) X : Nat) : Int))) g9 (Sq.zs (2 * e) (i + 1))) := HSet
                have HA8 : Aside0 (Sq.At 64 (w49.setCell ⟨g9, i, none⟩ (.int .u32 ((Sq.lin (Sq.Mat e) X : Nat) : Int))) g8 (Sq.Mat e)) := ⟨Sq.At.far k8 NE.out _ _⟩
                have HB : Aside0 (Below w.heap.size w (w49.setCell ⟨g9, i, none⟩ (.int .u32 ((Sq.lin (Sq.Mat e) X : Nat) : Int)))) := ⟨below_set kb HGE9.out⟩
                clear HSet k8 k9 kb kc hcell9 hfro9 hcell8
                generalize (w49.setCell ⟨g9, i, none⟩ (.int .u32 ((Sq.lin (Sq.Mat e) X : Nat) : Int))) = w9 at *
                refine done_ (by kernel_rfl) ?_
                go_wp2
                go_roundg (gk - 1)
                case measure => omega
                case rel => exact ⟨i + 1, (by first | rfl | (simp; done)), HK', ⟨(by (with_reducible repeat (first | apply Sq.At.alloc | apply Sq.At.drewN | apply Sq.At.drew)); exact HA8.out)⟩, ⟨(by (with_reducible repeat (first | apply Sq.At.alloc | apply Sq.At.drewN | apply Sq.At.drew)); exact HA9.out)⟩, ⟨(by repeat (first | (with_reducible first | exact HB.out | apply below_alloc | apply pw_below_drewN | apply below_drew1) | exact HB.out))⟩⟩
              · have hi' : i = 32 := by have := HKi.out; omega
                subst hi'
                have b0 : decide (((32 : Nat) : Int) < 32) = false := decide_eq_false (by omega)
                replace HA9 : Aside0 (Sq.At 64 wr g9 (Sq.Mat (2 * e))) := ⟨by have := HA9.out; rw [Sq.zs_all] at this; exact this⟩
                clear HKi hi
                go_wp2_with (first | ((with_reducible refine gate_dst (N := 51) rfl ?_); refine Sq.load_event ?hg (T := 64) (p := 11) ?ho ?hx (by (with_reducible repeat (first | apply Sq.At.alloc | apply Sq.At.drewN | apply Sq.At.drew)); exact HA9.out) Tryd.underlying64 sluiceref01_Join.size ?_; (case hg => rfl); (case ho => rfl); (case hx => rfl)) | ((with_reducible refine gate_store (t := 64) (p := 8) rfl ?_); refine Sq.store_event ?hg (T := 64) (p := 8) (v := .tmp 51) ?ho ?hn ?hx (s' := (Sq.Mat (2 * e))) ?hy (by (with_reducible repeat (first | apply Sq.At.alloc | apply Sq.At.drewN | apply Sq.At.drew)); exact HA8.out) (Sq.Mat_len _) sluiceref01_Join.size ?_; (case hg => rfl); (case ho => rfl); (case hn => rfl); (case hx => rfl); (case hy => rfl); intro w30 hw; have n0_ : Aside0 (Sq.At 64 w30 g8 (Sq.Mat (2 * e))) := ⟨by rw [hw]; exact Sq.At.store (by (with_reducible repeat (first | apply Sq.At.alloc | apply Sq.At.drewN | apply Sq.At.drew)); exact HA8.out) (Sq.Mat_len _)⟩; have n1_ : Aside0 (Below w.heap.size w w30) := ⟨by rw [hw]; exact Sq.below_row (by repeat (first | (with_reducible first | exact HB.out | apply below_alloc | apply pw_below_drewN | apply below_drew1) | exact HB.out)) HGE8.out _⟩; clear HA8 HB hw; have HA8 := n0_; have HB := n1_; clear n0_ n1_))
                go_roundg (gq - 1)
                case measure => omega
                case rel => exact ⟨Crc.D e x, n / 2, 2 * e, (by first | rfl | (rw [hlx])), (by first | rfl | (simp; done) | (rw [HT2.out])), HN2, ⟨(by (with_reducible repeat (first | apply Sq.At.alloc | apply Sq.At.drewN | apply Sq.At.drew)); exact HA8.out)⟩, ⟨(by repeat (first | (with_reducible first | exact HB.out | apply below_alloc | apply pw_below_drewN | apply below_drew1) | exact HB.out))⟩⟩
          · have b5 : (((n % 2 : Nat) : Int) == 1) = false := by rw [show n % 2 = 0 by omega]; rfl
            have b6 : ((n : Int) % 2 == 1) = false := beq_eq_false_iff_ne.mpr (by omega)
            rw [if_neg hodd] at hh
            have HN2 : Aside0 (n / 2 ≤ gq - 1 ∧ n / 2 ≤ 8796093022208 ∧ x < 4294967296 ∧ Crc.D (2 * e * (n / 2)) x = Crc.D (8 * n0) a) := ⟨by omega, by omega, hx, by rw [hh, hD]⟩
            clear hh hodd hk hD
            go_wp2_with (first | ((with_reducible refine gate_dst (N := 11) rfl ?_); refine box_event ?hg (N := 11) ?hd (cs := Sq.U (List.replicate 32 0)) (t := 64) ?hr ?_; (case hd => rfl); (case hg => rfl); (case hr => first | (go_simp; done) | (go_simp; rfl)); intro g9 hg w20 hbox hb; have n0_ := Aside0.mk (below_step (by repeat (first | (with_reducible first | exact HB.out | apply below_alloc | apply pw_below_drewN | apply below_drew1) | exact HB.out)) hb); have HGE9 := Aside0.mk ((by rw [hg]; exact (below_size (by repeat (first | (with_reducible first | exact HB.out | apply below_alloc | apply pw_below_drewN | apply below_drew1) | exact HB.out))) : w.heap.size ≤ g9)); have HA9 : Aside0 (Sq.At 64 w20 g9 (List.replicate 32 0)) := ⟨rfl, hbox⟩; have k0_ := Aside0.mk (Sq.At.below (by (with_reducible repeat (first | apply Sq.At.alloc | apply Sq.At.drewN | apply Sq.At.drew)); exact HA8.out) hb); have NE : Aside0 (g8 ≠ g9) := ⟨by rw [hg]; exact Nat.ne_of_lt (Sq.At.lt (by (with_reducible repeat (first | apply Sq.At.alloc | apply Sq.At.drewN | apply Sq.At.drew)); exact HA8.out))⟩; clear HB hb hbox hg; have HB := n0_; clear n0_; clear HA8; have HA8 := k0_; clear k0_))
            (try simp only [Act.put, List.setIfInBounds_toArray, List.set_cons_zero, List.set_cons_succ])
            go_loopg [12] 32 (fun kq v12 w' => ∃ i : Nat, v12 = .int .i64 (i : Int) ∧ Aside0 (kq + i = 32) ∧ Aside0 (Sq.At 64 w' g8 (Sq.Mat e)) ∧ Aside0 (Sq.At 64 w' g9 (Sq.zs (2 * e) i)) ∧ Aside0 (Below w.heap.size w w'))
            case atStart => exact ⟨0, rfl, ⟨rfl⟩, ⟨(by (with_reducible repeat (first | apply Sq.At.alloc | apply Sq.At.drewN | apply Sq.At.drew)); exact HA8.out)⟩, ⟨(by (with_reducible repeat (first | apply Sq.At.alloc | apply Sq.At.drewN | apply Sq.At.drew)); exact HA9.out)⟩, ⟨(by repeat (first | (with_reducible first | exact HB.out | apply below_alloc | apply pw_below_drewN | apply below_drew1) | exact HB.out))⟩⟩
            case round =>
              clear HB HA8 HA9
              obtain ⟨i, rfl, HKi, HA8, HA9, HB⟩ := hrel
              by_cases hi : i < 32
              · have b0 : decide ((i : Int) < 32) = true := decide_eq_true (by omega)
                have p0 : (0 ≤ (i : Int)) = True := eq_true (by omega)
                have p1 : ((i : Int) < 32) = True := eq_true (by omega)
                have hcell8 := HA8.out.cell i hi
                have hX := Sq.Mat_lt_all e i
                have hgk : 0 < gk := by have := HKi.out; omega
                have HK' : Aside0 (gk - 1 + (i + 1) = 32) := ⟨by have := HKi.out; omega⟩
                obtain ⟨X, hXX⟩ : ∃ X, (Sq.Mat e).getD i 0 = X := ⟨_, rfl⟩
                have HXX := Aside0.mk hXX
                rw [hXX] at hcell8 hX
                clear HKi hXX
                go_upto_region 17 with (fail)
                refine start_ (n := 8) (S := fun w' => Sq.At 64 w' g8 (Sq.Mat e) ∧ Sq.At 64 w' g9 (Sq.zs (2 * e) i) ∧ Below w.heap.size w w' ∧ w'.cell? ⟨g8, i, none⟩ = some (.int .u32 (X : Int))) (ds := [7]) #[false, false, false, false, false, false, false, false] (by kernel_rfl) rfl rfl ⟨Sq.At.drew (by (with_reducible repeat (first | apply Sq.At.alloc | apply Sq.At.drewN | apply Sq.At.drew)); exact HA8.out), Sq.At.drew (by (with_reducible repeat (first | apply Sq.At.alloc | apply Sq.At.drewN | apply Sq.At.drew)); exact HA9.out), below_drew1 (by repeat (first | (with_reducible first | exact HB.out | apply below_alloc | apply pw_below_drewN | apply below_drew1) | exact HB.out)), hcell8⟩ (fun hHeld => ?_)
                refine pure_ (i := 0) (N := some 44) (v := ?_) (a' := ?_) #[true, false, false, false, false, false, false, false] rfl rfl (by kernel_rfl) (fun _ _ _ h => h) (Or.inl ⟨by rfl, ?_⟩) ?_ ?_
                rotate_left
                · intro w'
                  go_simp
                  with_reducible rfl
                rotate_left
                · simp only [Act.put, List.setIfInBounds_toArray, List.set_cons_zero, List.set_cons_succ, i64_w, i32_w]
                  rfl
                refine take_ (i := 1) (N := some 45) (v := .agg (Sq.U (Sq.Mat e))) (a' := ?_) #[true, true, false, false, false, false, false, false] rfl rfl (by kernel_rfl) (fun _ _ _ h => h) (Or.inl ⟨by rfl, ?_⟩) hHeld ?_ ?_
                · rintro w' ⟨s0, s1, s2, s3⟩
                  exact Sq.load_run (T := 64) (p := 8) rfl rfl s0 Tryd.underlying64 sluiceref01_Join.size
                rotate_left
                · simp only [Act.put, List.setIfInBounds_toArray, List.set_cons_zero, List.set_cons_succ, i64_w, i32_w]
                  rfl
                refine pure_ (i := 2) (N := some 46) (v := ?_) (a' := ?_) #[true, true, true, false, false, false, false, false] rfl rfl (by kernel_rfl) (fun _ _ _ h => h) (Or.inl ⟨by rfl, ?_⟩) ?_ ?_
                rotate_left
                · intro w'
                  go_simp
                  with_reducible rfl
                rotate_left
                · simp only [Act.put, List.setIfInBounds_toArray, List.set_cons_zero, List.set_cons_succ, i64_w, i32_w]
                  rfl
                refine pure_ (i := 3) (N := some 47) (v := ?_) (a' := ?_) #[true, true, true, true, false, false, false, false] rfl rfl (by kernel_rfl) (fun _ _ _ h => h) (Or.inl ⟨by rfl, ?_⟩) ?_ ?_
                rotate_left
                · intro w'
                  go_simp
                  with_reducible rfl
                rotate_left
                · simp only [Act.put, List.setIfInBounds_toArray, List.set_cons_zero, List.set_cons_succ, i64_w, i32_w]
                  rfl
                refine take_ (i := 4) (N := some 48) (v := ?_) (a' := ?_) #[true, true, true, true, true, false, false, false] rfl rfl (by kernel_rfl) (fun _ _ _ h => h) (Or.inl ⟨by rfl, ?_⟩) hHeld ?_ ?_
                rotate_left
                · rintro w' ⟨s0, s1, s2, s3⟩
                  go_simp
                  with_reducible rfl
                rotate_left
                · simp only [Act.put, List.setIfInBounds_toArray, List.set_cons_zero, List.set_cons_succ, i64_w, i32_w]
                  rfl
                refine one_ (i := 5) (N := some 49) #[true, true, true, true, true, true, false, false] rfl rfl (by kernel_rfl) (by decide) (fun K hK => ?_)
                refine goes_ Tryd.func36 (by kernel_rfl) rfl #[.agg (Sq.U (Sq.Mat e)), .int .u32 (X : Int)] (by rfl) rfl rfl (by simp only [List.map_toArray, List.map_cons, List.map_nil]; rfl) ?_
                with_reducible refine (sluiceref01_through.calls (Sq.Mat e) X _ (Sq.Mat_len e) (Sq.Mat_lt_all e) hX).mono ?_
                rintro e_ w49 ⟨rfl, hb⟩
                refine ⟨_, rfl, ?_⟩
                have k8 := Sq.At.below hHeld.1 hb
                have k9 := Sq.At.below hHeld.2.1 hb
                have kb := below_step hHeld.2.2.1 hb
                have kc : w49.cell? ⟨g8, i, none⟩ = some (.int .u32 (X : Int)) := (hb.cell (World.block_lt_of_cell? _ _ hHeld.2.2.2)).trans hHeld.2.2.2
                clear hHeld hb
                refine hK.out _ _ ⟨k8, k9, kb, kc⟩ (fun hHeld => ?_)
                clear hK K
                refine norm_ (a' := ?_) ?_ ?_
                rotate_left
                · show Act.put _ (some 49) _ = _
                  simp only [Act.put, List.setIfInBounds_toArray, List.set_cons_zero, List.set_cons_succ, i64_w, i32_w]
                  rfl
                refine pure_ (i := 6) (N := some 50) (v := ?_) (a' := ?_) #[true, true, true, true, true, true, true, false] rfl rfl (by kernel_rfl) (fun _ _ _ h => h) (Or.inl ⟨by rfl, ?_⟩) ?_ ?_
                rotate_left
                · intro w'
                  go_simp
                  with_reducible rfl
                rotate_left
                · simp only [Act.put, List.setIfInBounds_toArray, List.set_cons_zero, List.set_cons_succ, i64_w, i32_w]
                  rfl
                have hcell9 := k9.cell i hi
                have hfro9 := k9.frozen i
                have HSet := Aside0.mk (k9.set i (Sq.lin (Sq.Mat e) ((Sq.Mat e).getD i 0)))
                rw [Sq.Mat_twice e i hi, Sq.zs_set (2 * e) i hi, ← Sq.Mat_twice e i hi, HXX.out] at HSet
                clear hHeld
                refine last_ (i := 7) (N := none) #[true, true, true, true, true, true, true, true] rfl rfl (by kernel_rfl) (by decide) (fun K hK => ?_)
                refine skip_ (w1 := (w49.setCell ⟨g9, i, none⟩ (.int .u32 ((Sq.lin (Sq.Mat e) X : Nat) : Int)))) (by rfl) rfl ?_ ?_
                · go_simp
                  (try rfl)
                refine hK.out _ _ ?_
                clear hK K HA8 HA9 HB
                have HA9 : Aside0 (Sq.At 64 (w49.setCell ⟨g9, i, none⟩ (.int .u32 ((Sq.lin (Sq.Mat e) X : Nat) : Int))) g9 (Sq.zs (2 * e) (i + 1))) := HSet
                have HA8 : Aside0 (Sq.At 64 (w49.setCell ⟨g9, i, none⟩ (.int .u32 ((Sq.lin (Sq.Mat e) X : Nat) : Int))) g8 (Sq.Mat e)) := ⟨Sq.At.far k8 NE.out _ _⟩
                have HB : Aside0 (Below w.heap.size w (w49.setCell ⟨g9, i, none⟩ (.int .u32 ((Sq.lin (Sq.Mat e) X : Nat) : Int)))) := ⟨below_set kb HGE9.out⟩
                clear HSet k8 k9 kb kc hcell9 hfro9 hcell8
                generalize (w49.setCell ⟨g9, i, none⟩ (.int .u32 ((Sq.lin (Sq.Mat e) X : Nat) : Int))) = w9 at *
                refine done_ (by kernel_rfl) ?_
                go_wp2
                go_roundg (gk - 1)
                case measure => omega
                case rel => exact ⟨i + 1, (by first | rfl | (simp; done)), HK', ⟨(by (with_reducible repeat (first | apply Sq.At.alloc | apply Sq.At.drewN | apply Sq.At.drew)); exact HA8.out)⟩, ⟨(by (with_reducible repeat (first | apply Sq.At.alloc | apply Sq.At.drewN | apply Sq.At.drew)); exact HA9.out)⟩, ⟨(by repeat (first | (with_reducible first | exact HB.out | apply below_alloc | apply pw_below_drewN | apply below_drew1) | exact HB.out))⟩⟩
              · have hi' : i = 32 := by have := HKi.out; omega
                subst hi'
                have b0 : decide (((32 : Nat) : Int) < 32) = false := decide_eq_false (by omega)
                replace HA9 : Aside0 (Sq.At 64 wr g9 (Sq.Mat (2 * e))) := ⟨by have := HA9.out; rw [Sq.zs_all] at this; exact this⟩
                clear HKi hi
                go_wp2_with (first | ((with_reducible refine gate_dst (N := 51) rfl ?_); refine Sq.load_event ?hg (T := 64) (p := 11) ?ho ?hx (by (with_reducible repeat (first | apply Sq.At.alloc | apply Sq.At.drewN | apply Sq.At.drew)); exact HA9.out) Tryd.underlying64 sluiceref01_Join.size ?_; (case hg => rfl); (case ho => rfl); (case hx => rfl)) | ((with_reducible refine gate_store (t := 64) (p := 8) rfl ?_); refine Sq.store_event ?hg (T := 64) (p := 8) (v := .tmp 51) ?ho ?hn ?hx (s' := (Sq.Mat (2 * e))) ?hy (by (with_reducible repeat (first | apply Sq.At.alloc | apply Sq.At.drewN | apply Sq.At.drew)); exact HA8.out) (Sq.Mat_len _) sluiceref01_Join.size ?_; (case hg => rfl); (case ho => rfl); (case hn => rfl); (case hx => rfl); (case hy => rfl); intro w30 hw; have n0_ : Aside0 (Sq.At 64 w30 g8 (Sq.Mat (2 * e))) := ⟨by rw [hw]; exact Sq.At.store (by (with_reducible repeat (first | apply Sq.At.alloc | apply Sq.At.drewN | apply Sq.At.drew)); exact HA8.out) (Sq.Mat_len _)⟩; have n1_ : Aside0 (Below w.heap.size w w30) := ⟨by rw [hw]; exact Sq.below_row (by repeat (first | (with_reducible first | exact HB.out | apply below_alloc | apply pw_below_drewN | apply below_drew1) | exact HB.out)) HGE8.out _⟩; clear HA8 HB hw; have HA8 := n0_; have HB := n1_; clear n0_ n1_))
                go_roundg (gq - 1)
                case measure => omega
                case rel => exact ⟨x, n / 2, 2 * e, rfl, (by first | rfl | (simp; done) | (rw [HT2.out])), HN2, ⟨(by (with_reducible repeat (first | apply Sq.At.alloc | apply Sq.At.drewN | apply Sq.At.drew)); exact HA8.out)⟩, ⟨(by repeat (first | (with_reducible first | exact HB.out | apply below_alloc | apply pw_below_drewN | apply below_drew1) | exact HB.out))⟩⟩

end Go.Proofs.YtdnofpafojjjaaaDoor.QGrainJoins
