/- What the functions that the statement GrainParts reaches come to, and that the given program's calls come to it; written by this session's program printx.py (wip/tpl), which runs the kit's print over the translation with additions of its own. No printed file. Conditions: as each theorem says. -/
import Derived.Test.YtdnofpafojjjaaaDoorQGrainPartsx0
import Derived.Test.YtdnofpafojjjaaaDoorQGrainPartsx5
namespace Go.Proofs.YtdnofpafojjjaaaDoor.QGrainParts
open Go.RowKit Go.Proofs.YtdnofpafojjjaaaDoorW.PrintWords Go.Proofs.YtdnofpafojjjaaaDoorW.PrintLast Go.Proofs.YtdnofpafojjjaaaDoorW.PrintMore
attribute [local go_sem] max2_int min2_int max_two min_two max_three min_three max_four min_four   -- for this text's walks alone
set_option linter.unusedVariables false
set_option linter.unusedSimpArgs false

/-! ### grain_square_of: function 35 -/
/-! A map's image of a register. -/
theorem grain_square_of.less (x : Nat) (h : 0 < x) (hx : x < 4294967296) : Go.bits .and .u32 (x : Int) (((x : Int) - 1) % 4294967296) = ((x &&& (x - 1) : Nat) : Int) := by
  rw [show ((x : Int) - 1) % 4294967296 = ((x - 1 : Nat) : Int) from by omega]
  exact Num.n32_and _ _ hx (by omega)
set_option maxHeartbeats 2000000 in
set_option maxRecDepth 100000 in
theorem grain_square_of.calls (g : Nat) (s : List Nat) (a : Nat) (w : World) (hS : Sq.At 65 w g s) (hs : ∀ i, s.getD i 0 < 4294967296) (ha : a < 4294967296) (hGD : Glob.GD w) :
    Calls Tryd.prog 35 #[.pointer (some ⟨g, 0, none⟩), .int .u32 (a : Int)] w fun e w' => e = .returned (.int .u32 ((Sq.lin s a : Nat) : Int)) ∧ Drawn0 w w' := by
  have HSq := Aside0.mk hS
  have HGD := Aside0.mk hGD
  clear hS hGD
  go_enter Tryd.func35, Tryd.ntmps35
  go_wp2
  go_loopg [1, 4] a (fun kq v1 v4 w' => ∃ x r : Nat, v1 = .int .u32 (x : Int) ∧ v4 = .int .u32 (r : Int) ∧ Aside0 (x ≤ kq ∧ x < 4294967296 ∧ r < 4294967296 ∧ r ^^^ Sq.lin s x = Sq.lin s a) ∧ Drawn0 w w')
  case atStart => exact ⟨a, 0, rfl, rfl, ⟨Nat.le_refl _, ha, by decide, Nat.zero_xor _⟩, by repeat (first | exact Drawn0.refl _ | apply Drawn0.step)⟩
  case round =>
    obtain ⟨x, r, rfl, rfl, HX, ⟨m1, rfl⟩⟩ := hrel
    obtain ⟨hk, hx, hr, hl⟩ := HX.out
    clear HX
    by_cases h0 : x = 0
    · subst h0
      rw [Sq.lin_zero, Nat.xor_zero] at hl
      subst hl
      have b0 : (((0 : Nat) : Int) != 0) = false := rfl
      clear hk hx
      go_wp2
      go_ret
      exact ⟨by first | rfl | (simp; done), by repeat (first | exact Drawn0.refl _ | apply Drawn0.step)⟩
    · have b0 : ((x : Int) != 0) = true := bne_iff_ne.mpr (by omega)
      obtain ⟨j, q, hm⟩ := Sq.low_parts x x (Nat.le_refl _) (by omega)
      have htz := bits_TrailingZeros32.tz_eq x j q hm hx
      have hj : j < 32 := by
        have h5 : 2 ^ j ≤ x := by rw [hm]; exact Nat.le_mul_of_pos_right _ (by omega)
        exact (Nat.pow_lt_pow_iff_right (by decide : 1 < 2)).mp (Nat.lt_of_le_of_lt h5 hx)
      have hstep := Sq.lin_step s j q x hj hm
      have hcell := HSq.out.cell j hj
      have hsj := hs j
      have hle : x &&& (x - 1) ≤ x - 1 := Nat.and_le_right
      have hrel' : Aside0 ((x &&& (x - 1)) ≤ gk - 1 ∧ (x &&& (x - 1)) < 4294967296 ∧ (r ^^^ s.getD j 0) < 4294967296 ∧ (r ^^^ s.getD j 0) ^^^ Sq.lin s (x &&& (x - 1)) = Sq.lin s a) := ⟨by omega, by omega, Nat.xor_lt_two_pow (n := 32) hr hsj, by rw [← hl, hstep, Nat.xor_assoc]⟩
      have e1 : Aside0 (Go.bits .and .u32 (x : Int) (((x : Int) - 1) % 4294967296) = ((x &&& (x - 1) : Nat) : Int)) := ⟨grain_square_of.less x (by omega) hx⟩
      have e2 : Aside0 (Go.bits .xor .u32 (r : Int) ((s.getD j 0 : Nat) : Int) = ((r ^^^ s.getD j 0 : Nat) : Int)) := ⟨Num.n32_xor _ _ hr hsj⟩
      have hgk : 0 < gk := by omega
      have p0 : (0 ≤ (j : Int)) = True := eq_true (by omega)
      have p1 : ((j : Int) < 32) = True := eq_true (by omega)
      have p2 : (j < 32) = True := eq_true hj
      have HTZ := Aside0.mk htz
      generalize s.getD j 0 = sj at *
      clear hstep hl hm htz hsj hle hk h0
      go_wp2_with (first | (go_at_call 39; (with_reducible refine (bits_TrailingZeros32.calls (x : Int) (j : Int) _ HTZ.out (by first | exact HGD.out | exact Glob.GD.drewN HGD.out _)).mono ?_); rintro e w' ⟨rfl, ⟨nd, rfl⟩⟩; (try first | exact ⟨rfl, _, World.drewN_drewN _ _ _⟩ | exact ⟨rfl, _, Eq.trans (World.drewN_drewN _ _ _) (congrArg (World.drewN _) (Nat.add_assoc _ _ _))⟩)))
      repeat (go_quiet (first | (go_at_call 39; (with_reducible refine (bits_TrailingZeros32.calls (x : Int) (j : Int) _ HTZ.out (by first | exact HGD.out | exact Glob.GD.drewN HGD.out _)).mono ?_); rintro e w' ⟨rfl, ⟨nd, rfl⟩⟩; (try first | exact ⟨rfl, _, World.drewN_drewN _ _ _⟩ | exact ⟨rfl, _, Eq.trans (World.drewN_drewN _ _ _) (congrArg (World.drewN _) (Nat.add_assoc _ _ _))⟩))); try go_wp2_with (first | (go_at_call 39; (with_reducible refine (bits_TrailingZeros32.calls (x : Int) (j : Int) _ HTZ.out (by first | exact HGD.out | exact Glob.GD.drewN HGD.out _)).mono ?_); rintro e w' ⟨rfl, ⟨nd, rfl⟩⟩; (try first | exact ⟨rfl, _, World.drewN_drewN _ _ _⟩ | exact ⟨rfl, _, Eq.trans (World.drewN_drewN _ _ _) (congrArg (World.drewN _) (Nat.add_assoc _ _ _))⟩))))
      go_roundg (gk - 1)
      case measure => omega
      case rel => exact ⟨_, _, (by rw [← e1.out]), (by rw [← e2.out]), hrel', by repeat (first | exact Drawn0.refl _ | apply Drawn0.step)⟩

end Go.Proofs.YtdnofpafojjjaaaDoor.QGrainParts
