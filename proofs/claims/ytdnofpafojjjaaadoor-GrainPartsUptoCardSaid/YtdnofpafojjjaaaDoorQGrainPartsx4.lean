/- What the functions that the statement GrainParts reaches come to, and that the given program's calls come to it; written by this session's program printx.py (wip/tpl), which runs the kit's print over the translation with additions of its own. No printed file. Conditions: as each theorem says. -/
import Derived.Test.YtdnofpafojjjaaaDoorQGrainPartsx0
import Derived.Test.YtdnofpafojjjaaaDoorQGrainPartsx1
namespace Go.Proofs.YtdnofpafojjjaaaDoor.QGrainParts
open Go.RowKit Go.Proofs.YtdnofpafojjjaaaDoorW.PrintWords Go.Proofs.YtdnofpafojjjaaaDoorW.PrintLast Go.Proofs.YtdnofpafojjjaaaDoorW.PrintMore
attribute [local go_sem] max2_int min2_int max_two min_two max_three min_three max_four min_four   -- for this text's walks alone
set_option linter.unusedVariables false
set_option linter.unusedSimpArgs false

/-! ### grain_zeros: function 34 -/
/-! The map of eight steps. -/
theorem grain_zeros.s8 (x : Nat) (h : x < 4294967296) : grain_steps8.f (x : Int) = some ((Crc.D 8 x : Nat) : Int) := by
  have e1 : grain_steps8.s4 (x : Int) = ((Crc.D 4 x : Nat) : Int) := Crc.four x h
  have h2 : Crc.D 4 x < 4294967296 := (Crc.D_ok 4 x h).1
  have e2 : grain_steps8.s4 ((Crc.D 4 x : Nat) : Int) = ((Crc.D 4 (Crc.D 4 x) : Nat) : Int) := Crc.four _ h2
  show some (grain_steps8.s4 (grain_steps8.s4 (x : Int))) = _
  rw [e1, e2, ← Crc.D_add]
/-- Its first i numbers. -/
def grain_zeros.zs (e i : Nat) : List Nat := (Sq.Mat e).take i ++ List.replicate (32 - i) 0
theorem grain_zeros.zs_set (e i : Nat) (hi : i < 32) : (grain_zeros.zs e i).set i ((Sq.Mat e).getD i 0) = grain_zeros.zs e (i + 1) := by
  have hl : i < (Sq.Mat e).length := by rw [Sq.Mat_len]; exact hi
  have ht : ((Sq.Mat e).take i).length = i := by rw [List.length_take]; omega
  unfold grain_zeros.zs
  rw [List.set_append_right _ _ (by omega), ht, Nat.sub_self, show 32 - i = (32 - (i + 1)) + 1 from by omega, List.replicate_succ, List.set_cons_zero, List.take_succ_eq_append_getElem hl, List.append_assoc]
  congr 2
  simp [List.getD, hl]
theorem grain_zeros.zs_all (e : Nat) : grain_zeros.zs e 32 = Sq.Mat e := by
  unfold grain_zeros.zs
  rw [List.take_of_length_le (by rw [Sq.Mat_len]; exact Nat.le_refl _), Nat.sub_self]
  simp
theorem grain_zeros.info : (Tryd.prog.info? 65).map (fun i => (i.zero, i.size)) = some (some (.agg (Sq.U (List.replicate 32 0))), 32) := by kernel_rfl
theorem grain_zeros.size : (Tryd.prog.info? 65).map (·.size) = some 32 := by kernel_rfl
set_option maxHeartbeats 2000000 in
set_option maxRecDepth 100000 in
theorem grain_zeros.calls (w : World) (hGS : Glob.GS w) :
    Calls Tryd.prog 34 #[] w fun e w' => e = .returned (.agg (Sq.U (Sq.Mat 8))) ∧ Below w.heap.size w w' := by
  have HGS := Aside0.mk hGS
  clear hGS
  have HB := Aside0.mk (Below.refl w.heap.size w)
  have hz := (zero_of_info grain_zeros.info).1
  go_enter Tryd.func34, Tryd.ntmps34
  go_wp2_with (first | ((with_reducible refine gate_dst (N := 0) rfl ?_); refine box_event ?hg (N := 0) ?hd (cs := Sq.U (List.replicate 32 0)) (t := 65) ?hr ?_; (case hd => rfl); (case hg => rfl); (case hr => first | (go_simp; done) | (go_simp; rfl)); intro g0 hg w10 hbox hb; have n0_ := Aside0.mk (below_step (by repeat (first | (with_reducible first | exact HB.out | apply below_alloc | apply pw_below_drewN | apply below_drew1) | exact HB.out)) hb); have HGE := Aside0.mk ((by rw [hg]; exact (below_size (by repeat (first | (with_reducible first | exact HB.out | apply below_alloc | apply pw_below_drewN | apply below_drew1) | exact HB.out))) : w.heap.size ≤ g0)); have HAt : Aside0 (Sq.At 65 w10 g0 (grain_zeros.zs 8 0)) := ⟨rfl, hbox⟩; clear HB hb hbox hg; have HB := n0_; clear n0_))
  go_loopg [2] 32 (fun kq v2 w' => ∃ i : Nat, v2 = .int .i64 (i : Int) ∧ Aside0 (kq + i = 32) ∧ Aside0 (Sq.At 65 w' g0 (grain_zeros.zs 8 i)) ∧ Aside0 (Below w.heap.size w w'))
  case atStart => exact ⟨0, rfl, ⟨rfl⟩, ⟨by (with_reducible repeat (first | apply Sq.At.alloc | apply Sq.At.drewN | apply Sq.At.drew)); exact HAt.out⟩, ⟨by repeat (first | (with_reducible first | exact HB.out | apply below_alloc | apply pw_below_drewN | apply below_drew1) | exact HB.out)⟩⟩
  case round =>
    clear HB HAt
    obtain ⟨i, rfl, HK, HAt, HB⟩ := hrel
    by_cases hi : i < 32
    · have b0 : decide ((i : Int) < 32) = true := decide_eq_true (by omega)
      have p0 : (0 ≤ (i : Int)) = True := eq_true (by omega)
      have p1 : ((i : Int) < 32) = True := eq_true (by omega)
      have hx : 2 ^ i < 4294967296 := Nat.pow_lt_pow_right (by decide) hi
      have h8 := Aside0.mk (grain_zeros.s8 (2 ^ i) hx)
      have hmin : min i 32 = i := Nat.min_eq_left (by omega)
      have hsh : IntKind.u32.wrap (2 ^ i) = ((2 ^ i : Nat) : Int) := by
        rw [show ((2 : Int) ^ i) = ((2 ^ i : Nat) : Int) from by rw [Int.natCast_pow]; rfl]
        exact Num.u32_nat _ hx
      have hsh1 : IntKind.u32.wrap (1 * 2 ^ i) = ((2 ^ i : Nat) : Int) := by rw [Int.one_mul]; exact hsh
      have hcell := HAt.out.cell i hi
      have hfro := HAt.out.frozen i
      have HSet := Aside0.mk (HAt.out.set i ((Sq.Mat 8).getD i 0))
      rw [grain_zeros.zs_set 8 i hi, Sq.Mat_get 8 i hi] at HSet
      have hgk : 0 < gk := by have := HK.out; omega
      have HK' : Aside0 (gk - 1 + (i + 1) = 32) := ⟨by have := HK.out; omega⟩
      generalize (grain_zeros.zs 8 i).getD i 0 = old at hcell
      generalize 2 ^ i = X at *
      clear HK
      go_wp2_with (first | (go_at_call 32; (with_reducible refine (grain_steps8.calls (X : Int) ((Crc.D 8 X : Nat) : Int) _ h8.out (by first | exact Glob.GS.drewN (Glob.GS.below HGS.out HB.out) _ | exact Glob.GS.below HGS.out HB.out)).mono ?_); rintro e w' ⟨rfl, ⟨nd, rfl⟩⟩) | ((with_reducible refine gate_store (t := 23) (p := 9) rfl ?_); refine store_event (t := 23) (p := 9) (v := ?vo_w9) (w1 := ((wr.drewN nd).setCell ⟨g0, i, none⟩ (.int .u32 ((Crc.D 8 X : Nat) : Int)))) ?hg ?ho ?hn ?hr ?_; (case ho => rfl); (case hg => rfl); (case hn => rfl); (case hr => first | (go_simp; done) | (go_simp; rfl)); intro w9 hw; have n0_ : Aside0 (Sq.At 65 w9 g0 (grain_zeros.zs 8 (i + 1))) := ⟨by rw [hw]; exact HSet.out⟩; have n1_ : Aside0 (Below w.heap.size w w9) := ⟨by rw [hw]; exact below_set (pw_below_drewN HB.out _) HGE.out⟩; clear HAt HB HSet hw; have HAt := n0_; have HB := n1_; clear n0_ n1_))
      go_roundg (gk - 1)
      case measure => omega
      case rel => exact ⟨i + 1, (by first | rfl | (simp; done)), HK', ⟨by (with_reducible repeat (first | apply Sq.At.alloc | apply Sq.At.drewN | apply Sq.At.drew)); exact HAt.out⟩, ⟨by repeat (first | (with_reducible first | exact HB.out | apply below_alloc | apply pw_below_drewN | apply below_drew1) | exact HB.out)⟩⟩
    · have hi' : i = 32 := by have := HK.out; omega
      subst hi'
      have b0 : decide (((32 : Nat) : Int) < 32) = false := decide_eq_false (by omega)
      replace HAt : Aside0 (Sq.At 65 wr g0 (Sq.Mat 8)) := ⟨by have := HAt.out; rw [grain_zeros.zs_all] at this; exact this⟩
      clear HK hi
      go_wp2_with (first | ((with_reducible refine gate_dst (N := 11) rfl ?_); refine Sq.load_event ?hg (T := 65) (p := 0) ?ho ?hx (by (with_reducible repeat (first | apply Sq.At.alloc | apply Sq.At.drewN | apply Sq.At.drew)); exact HAt.out) Tryd.underlying65 grain_zeros.size ?_; (case hg => rfl); (case ho => rfl); (case hx => rfl)) | ((with_reducible refine gate_store (t := 65) (p := 0) rfl ?_); refine Sq.store_event ?hg (T := 65) (p := 0) (v := .tmp 11) ?ho ?hn ?hx (s' := Sq.Mat 8) ?hy (by (with_reducible repeat (first | apply Sq.At.alloc | apply Sq.At.drewN | apply Sq.At.drew)); exact HAt.out) (Sq.Mat_len 8) grain_zeros.size ?_; (case hg => rfl); (case ho => rfl); (case hn => rfl); (case hx => rfl); (case hy => rfl); intro w12 hw; have n0_ : Aside0 (Sq.At 65 w12 g0 (Sq.Mat 8)) := ⟨by rw [hw]; exact Sq.At.store (by (with_reducible repeat (first | apply Sq.At.alloc | apply Sq.At.drewN | apply Sq.At.drew)); exact HAt.out) (Sq.Mat_len 8)⟩; have n1_ : Aside0 (Below w.heap.size w w12) := ⟨by rw [hw]; exact Sq.below_row (by repeat (first | (with_reducible first | exact HB.out | apply below_alloc | apply pw_below_drewN | apply below_drew1) | exact HB.out)) HGE.out _⟩; clear HAt HB hw; have HAt := n0_; have HB := n1_; clear n0_ n1_))
      refine bodyPost_ret (results_cell_row (p := 0) (ty := 65) rfl _ _ g0 65 (Sq.U (Sq.Mat 8)) (0, 0) _ rfl HAt.out.2 Tryd.underlying65 rfl (by rw [grain_zeros.size, Sq.U_size, Sq.Mat_len])) rfl ?_
      exact ⟨rfl, by repeat (first | (with_reducible first | exact HB.out | apply below_alloc | apply pw_below_drewN | apply below_drew1) | exact HB.out)⟩

end Go.Proofs.YtdnofpafojjjaaaDoor.QGrainParts
