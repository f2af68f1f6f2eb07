/- What the functions that the statement GrainJoins reaches come to, and that the given program's calls come to it; written by this session's program printx.py (wip/tpl), which runs the kit's print over the translation with additions of its own. No printed file. Conditions: as each theorem says. -/
import Derived.Test.YtdnofpafojjjaaaDoorQGrainJoinsx0
namespace Go.Proofs.YtdnofpafojjjaaaDoor.QGrainJoins
open Go.RowKit Go.Proofs.YtdnofpafojjjaaaDoorW.PrintWords Go.Proofs.YtdnofpafojjjaaaDoorW.PrintLast Go.Proofs.YtdnofpafojjjaaaDoorW.PrintMore
attribute [local go_sem] max2_int min2_int max_two min_two max_three min_three max_four min_four   -- for this text's walks alone
set_option linter.unusedVariables false
set_option linter.unusedSimpArgs false

/-! ### sluiceref01_through: function 36 -/
/-! A map's image of a register, the map by value. -/
theorem sluiceref01_through.lt (s : List Nat) (hs : ∀ i, s.getD i 0 < 4294967296) (a i : Nat) : Sq.linN s a i < 4294967296 := Sq.linN_lt s hs a i
set_option maxHeartbeats 2000000 in
set_option maxRecDepth 100000 in
theorem sluiceref01_through.calls (s : List Nat) (a : Nat) (w : World) (hl : s.length = 32) (hs : ∀ i, s.getD i 0 < 4294967296) (ha : a < 4294967296) :
    Calls Tryd.prog 36 #[.agg (Sq.U s), .int .u32 (a : Int)] w fun e w' => e = .returned (.int .u32 ((Sq.lin s a : Nat) : Int)) ∧ Below w.heap.size w w' := by
  have HB := Aside0.mk (Below.refl w.heap.size w)
  have hsz : (Sq.U s).size = 32 := by rw [Sq.U_size, hl]
  have hinf : (Tryd.prog.info? 64).map (·.size) = some 32 := by kernel_rfl
  go_enter Tryd.func36, Tryd.ntmps36
  go_wp2_with (first | ((with_reducible refine gate_dst (N := 2) rfl ?_); refine box_event ?hg (N := 2) ?hd (cs := Sq.U s) (t := 64) ?hr ?_; (case hd => rfl); (case hg => rfl); (case hr => first | (go_simp; done) | (go_simp; rfl)); intro g0 hg w10 hbox hb; have n0_ := Aside0.mk (below_step (by repeat (first | (with_reducible first | exact HB.out | apply below_alloc | apply pw_below_drewN | apply below_drew1) | exact HB.out)) hb); have HAt : Aside0 (Sq.At 64 w10 g0 s) := ⟨hl, hbox⟩; clear HB hb hbox hg; have HB := n0_; clear n0_))
  (try simp only [Act.put, List.setIfInBounds_toArray, List.set_cons_zero, List.set_cons_succ])
  go_loopg [5, 6] 32 (fun kq v5 v6 w' => ∃ i : Nat, v5 = .int .u32 ((Sq.linN s a i : Nat) : Int) ∧ v6 = .int .i64 (i : Int) ∧ Aside0 (kq + i = 32) ∧ Aside0 (Sq.At 64 w' g0 s) ∧ Aside0 (Below w.heap.size w w'))
  case atStart => exact ⟨0, rfl, rfl, ⟨rfl⟩, ⟨by (with_reducible repeat (first | apply Sq.At.alloc | apply Sq.At.drewN | apply Sq.At.drew)); exact HAt.out⟩, ⟨by repeat (first | (with_reducible first | exact HB.out | apply below_alloc | apply pw_below_drewN | apply below_drew1) | exact HB.out)⟩⟩
  case round =>
    clear HB HAt
    obtain ⟨i, rfl, rfl, HK, HAt, HB⟩ := hrel
    by_cases hi : i < 32
    · have b0 : decide ((i : Int) < 32) = true := decide_eq_true (by omega)
      have p0 : (0 ≤ (i : Int)) = True := eq_true (by omega)
      have p1 : ((i : Int) < 32) = True := eq_true (by omega)
      have hmin : min i 32 = i := Nat.min_eq_left (by omega)
      have hcell := HAt.out.cell i hi
      have hlt := sluiceref01_through.lt s hs a i
      have hsi := hs i
      have hY : (a : Int) / 2 ^ i = ((a / 2 ^ i : Nat) : Int) := by
        rw [Int.natCast_ediv, Int.natCast_pow]; rfl
      have htm : Int.tmod ((a / 2 ^ i : Nat) : Int) 2 = ((a / 2 ^ i % 2 : Nat) : Int) := by
        generalize a / 2 ^ i = Y
        rw [Int.tmod_eq_emod_of_nonneg (by omega)]; omega
      have hbit : a.testBit i = decide (a / 2 ^ i % 2 = 1) := Nat.testBit_eq_decide_div_mod_eq
      have hstep : Sq.linN s a (i + 1) = Sq.linN s a i ^^^ (if a.testBit i then s.getD i 0 else 0) := rfl
      have hgk : 0 < gk := by have := HK.out; omega
      have HK' : Aside0 (gk - 1 + (i + 1) = 32) := ⟨by have := HK.out; omega⟩
      rw [hbit] at hstep
      generalize hYY : a / 2 ^ i = Y at *
      generalize s.getD i 0 = si at *
      generalize hR : Sq.linN s a i = R at *
      clear HK hbit hR hYY
      by_cases hb : Y % 2 = 1
      · have b1 : (((Y % 2 : Nat) : Int) == 1) = true := by rw [hb]; rfl
        have b2 : ((Y : Int) % 2 == 1) = true := beq_iff_eq.mpr (by omega)
        have e2 : Aside0 (Go.bits .xor .u32 (R : Int) (si : Int) = ((Sq.linN s a (i + 1) : Nat) : Int)) := ⟨by rw [Num.n32_xor _ _ hlt hsi, hstep, decide_eq_true hb, if_pos rfl]⟩
        clear hstep hb hsi hlt
        go_wp2
        go_roundg (gk - 1)
        case measure => omega
        case rel => exact ⟨i + 1, (by rw [← e2.out]), (by first | rfl | (simp; done)), HK', ⟨by (with_reducible repeat (first | apply Sq.At.alloc | apply Sq.At.drewN | apply Sq.At.drew)); exact HAt.out⟩, ⟨by repeat (first | (with_reducible first | exact HB.out | apply below_alloc | apply pw_below_drewN | apply below_drew1) | exact HB.out)⟩⟩
      · have b1 : (((Y % 2 : Nat) : Int) == 1) = false := by rw [show Y % 2 = 0 by omega]; rfl
        have b2 : ((Y : Int) % 2 == 1) = false := beq_eq_false_iff_ne.mpr (by omega)
        have e2 : Aside0 (R = Sq.linN s a (i + 1)) := ⟨by rw [hstep, decide_eq_false hb, if_neg (by decide), Nat.xor_zero]⟩
        clear hstep hb hsi hlt
        go_wp2
        go_roundg (gk - 1)
        case measure => omega
        case rel => exact ⟨i + 1, (by rw [← e2.out]), (by first | rfl | (simp; done)), HK', ⟨by (with_reducible repeat (first | apply Sq.At.alloc | apply Sq.At.drewN | apply Sq.At.drew)); exact HAt.out⟩, ⟨by repeat (first | (with_reducible first | exact HB.out | apply below_alloc | apply pw_below_drewN | apply below_drew1) | exact HB.out)⟩⟩
    · have hi' : i = 32 := by have := HK.out; omega
      subst hi'
      have b0 : decide (((32 : Nat) : Int) < 32) = false := decide_eq_false (by omega)
      have hR : Sq.linN s a 32 = Sq.lin s a := rfl
      clear HK hi
      go_wp2
      go_ret
      exact ⟨by first | rfl | (rw [hR]), by repeat (first | (with_reducible first | exact HB.out | apply below_alloc | apply pw_below_drewN | apply below_drew1) | exact HB.out)⟩

end Go.Proofs.YtdnofpafojjjaaaDoor.QGrainJoins
