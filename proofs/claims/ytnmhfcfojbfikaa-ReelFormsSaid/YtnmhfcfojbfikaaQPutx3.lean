/- What the functions that the statement Put reaches come to, and that the given program's calls come to it; written by this session's program printx.py (wip/tpl), which runs the kit's print over the translation with additions of its own. No printed file. Conditions: as each theorem says. -/
import Derived.Test.YtnmhfcfojbfikaaQPutx0
namespace Go.Proofs.Ytnmhfcfojbfikaa.QPut
open Go.RowKit Go.Proofs.YtnmhfcfojbfikaaW.PrintWords Go.Proofs.YtnmhfcfojbfikaaW.PrintLast Go.Proofs.YtnmhfcfojbfikaaW.PrintMore
attribute [local go_sem] max2_int min2_int max_two min_two max_three min_three max_four min_four   -- for this text's walks alone
set_option linter.unusedVariables false
set_option linter.unusedSimpArgs false

/-! ### grain_lay: function 108 -/
/-- The row with i bytes of v laid from at_ on. -/
def grain_lay.go (at_ : Nat) (v : Int) (ys : List Int) : Nat → List Int
  | 0 => ys
  | i + 1 => (grain_lay.go at_ v ys i).set (at_ + i) (v / 2 ^ (8 * i) % 256)
theorem grain_lay.len (at_ : Nat) (v : Int) (ys : List Int) : ∀ i, (grain_lay.go at_ v ys i).length = ys.length
  | 0 => rfl
  | i + 1 => by
    show ((grain_lay.go at_ v ys i).set _ _).length = _
    rw [List.length_set, grain_lay.len at_ v ys i]
theorem grain_lay.app (at_ : Nat) (v : Int) (ys zs : List Int) : ∀ i, at_ + i ≤ ys.length → grain_lay.go at_ v (ys ++ zs) i = grain_lay.go at_ v ys i ++ zs
  | 0, _ => rfl
  | i + 1, h => by
    show (grain_lay.go at_ v (ys ++ zs) i).set _ _ = (grain_lay.go at_ v ys i).set _ _ ++ zs
    rw [grain_lay.app at_ v ys zs i (by omega), List.set_append_left _ _ (by rw [grain_lay.len]; omega)]
theorem grain_lay.step (v : Int) (i : Nat) : v / 2 ^ (8 * i) / 256 = v / 2 ^ (8 * (i + 1)) := by
  rw [Int.ediv_ediv_of_nonneg (by exact Int.le_of_lt (Int.pow_pos (by decide))), show 8 * (i + 1) = 8 * i + 8 from by omega, Int.pow_add]
  rfl
set_option maxHeartbeats 2000000 in
set_option maxRecDepth 100000 in
theorem grain_lay.calls (P0_ : Nat → Prop) (g n c at_ m c' : Nat) (v : Int) (ys : List Int) (w0 w : World) (hB : Below w0.heap.size w0 w) (ho0 : Kd.R (Kd.int .u8) 5 w w0.heap.size P0_ (.slice (some ⟨g, 0, none⟩) n c) ys) (hm : at_ + m ≤ ys.length) (hm1 : 1 ≤ m) (hm8 : m ≤ 8) (hv : 0 ≤ v) (hv1 : v < 18446744073709551616) :
    Calls Try.prog 108 #[.slice (some ⟨g, at_, none⟩) m c', .int .u64 v] w fun e w' => e = .returned (.tuple #[]) ∧ Kd.R (Kd.int .u8) 5 w' w0.heap.size P0_ (.slice (some ⟨g, 0, none⟩) n c) (grain_lay.go at_ v ys m) ∧ Below w0.heap.size w0 w' := by
  have HO0 := Aside0.mk ho0
  have HB := Aside0.mk hB
  have hnl := (Kd.R_reads' ho0).1
  obtain ⟨g', cap', eo, gb, _⟩ := Kd.R_form ho0 (by omega)
  obtain rfl : g = g' := by
    injection eo with ea_ en_ ec_
    injection ea_ with ea_
    injection ea_
  have GB := Aside0.mk gb
  clear hB ho0 eo gb
  go_enter Try.func108, Try.ntmps108
  go_wp2
  go_loopg [1, 7] m (fun kq v1 v7 w' => ∃ (i : Nat), v1 = .int .u64 (v / 2 ^ (8 * i)) ∧ v7 = .int .i64 (i : Int) ∧ Aside0 (kq + i = m) ∧ Aside0 (Kd.R (Kd.int .u8) 5 w' w0.heap.size P0_ (.slice (some ⟨g, 0, none⟩) n c) (grain_lay.go at_ v ys i)) ∧ Aside0 (Below w0.heap.size w0 w'))
  case atStart => exact ⟨0, (by rw [Nat.mul_zero, Int.pow_zero, Int.ediv_one]), rfl, ⟨by omega⟩, ⟨by (with_reducible repeat (first | apply Kd.R_alloc | apply Kd.R_drewN | apply Kd.R_drew)); exact HO0.out⟩, ⟨by repeat (first | (with_reducible first | exact HB.out | apply below_alloc | apply pw_below_drewN | apply below_drew1) | exact HB.out)⟩⟩
  case round =>
    clear HB HO0
    obtain ⟨i, rfl, rfl, HK, HO_0, HB⟩ := hrel
    by_cases hi : i < m
    · have c4b0 : decide ((i : Int) < (m : Int)) = true := decide_eq_true (by omega)
      have p7 : (0 ≤ (i : Int)) = True := eq_true (by omega)
      have q7 : ((i : Int) < (m : Int)) = True := eq_true (by omega)
      have h8 : (i : Int) < 8 := by omega
      obtain ⟨hx7_0, hf7_0⟩ := Kd.R_celln 0 HO_0.out ((at_ + i : Nat) : Int) (by omega) (by omega)
      have HP8 := Kd.R_putg HO_0.out ((at_ + i : Nat) : Int) (v / 2 ^ (8 * i) % 256)
      rw [Int.toNat_natCast] at hx7_0 hf7_0 HP8
      have hV0 : 0 ≤ v / 2 ^ (8 * i) := Int.ediv_nonneg hv (Int.le_of_lt (Int.pow_pos (by decide)))
      have hV1 : v / 2 ^ (8 * i) < 18446744073709551616 := Int.lt_of_le_of_lt (Int.ediv_le_self _ hv) hv1
      have HS : Aside0 (v / 2 ^ (8 * i) / 256 = v / 2 ^ (8 * (i + 1))) := ⟨grain_lay.step v i⟩
      have HG : Aside0 (grain_lay.go at_ v ys (i + 1) = (grain_lay.go at_ v ys i).set (at_ + i) (v / 2 ^ (8 * i) % 256)) := ⟨rfl⟩
      generalize hVV : v / 2 ^ (8 * i) = V at *
      clear hVV
      go_wp2_with (first | ((with_reducible refine gate_store (t := 5) (p := 14) rfl ?_); refine store_event (t := 5) (p := 14) (v := ?vo_w9) (w1 := (wr.setCell ⟨g, at_ + i, none⟩ (.int .u8 (V % 256)))) ?hg ?ho ?hn ?hr ?_; (case ho => rfl); (case hg => rfl); (case hn => rfl); (case hr => first | (go_simp; done) | (go_simp; rfl)); intro w9 hw; have hp_ : Kd.R (Kd.int .u8) 5 w9 w0.heap.size P0_ (.slice (some ⟨g, 0, none⟩) n c) (grain_lay.go at_ v ys (i + 1)) := (by rw [hw, HG.out]; exact HP8.1); clear HP8; have n0_ := Aside0.mk (hp_); have n1_ := Aside0.mk ((by rw [hw]; exact below_set (HB.out) GB.out : Below w0.heap.size w0 w9)); clear HO_0; clear HB; have HO_0 := n0_; have HB := n1_; clear n0_ n1_; clear hw hp_))
      have HK' := Aside0.mk (show gk - 1 + (i + 1) = m by have := HK.out; omega)
      have hgk : 0 < gk := by have := HK.out; omega
      clear HK
      go_roundg (gk - 1)
      case measure => omega
      case rel => exact ⟨i + 1, (by rw [HS.out]), (by first | rfl | (simp; done) | (simp [*]; done)), HK', ⟨by (with_reducible repeat (first | apply Kd.R_alloc | apply Kd.R_drewN | apply Kd.R_drew)); exact HO_0.out⟩, ⟨by repeat (first | (with_reducible first | exact HB.out | apply below_alloc | apply pw_below_drewN | apply below_drew1) | exact HB.out)⟩⟩
    · have hi' : i = m := by have := HK.out; omega
      subst hi'
      have c4b0 : decide ((i : Int) < (i : Int)) = false := decide_eq_false (by omega)
      go_wp2
      first | go_end0 | ((try simp only [Exit.inBlock, Exit.then]); refine bodyPost_ret (results_none rfl _ _ _) rfl ?_)
      exact ⟨rfl, by (with_reducible repeat (first | apply Kd.R_alloc | apply Kd.R_drewN | apply Kd.R_drew)); exact HO_0.out, by repeat (first | (with_reducible first | exact HB.out | apply below_alloc | apply pw_below_drewN | apply below_drew1) | exact HB.out)⟩

end Go.Proofs.Ytnmhfcfojbfikaa.QPut
