/- What the functions that the statement GrainPacks reaches come to, and that the given program's calls come to it; written by this session's program printx.py (wip/tpl), which runs the kit's print over the translation with additions of its own. No printed file. Conditions: as each theorem says. -/
import Derived.Test.YtdnofpafojjjaaaQGrainPacksx0
namespace Go.Proofs.Ytdnofpafojjjaaa.QGrainPacks
open Go.RowKit Go.Proofs.YtdnofpafojjjaaaW.PrintWords Go.Proofs.YtdnofpafojjjaaaW.PrintLast Go.Proofs.YtdnofpafojjjaaaW.PrintMore
attribute [local go_sem] max2_int min2_int max_two min_two max_three min_three max_four min_four   -- for this text's walks alone
set_option linter.unusedVariables false
set_option linter.unusedSimpArgs false

/-! ### sluicelaw01_twin: function 31 -/
/-! twin: the row, with the marks told. -/
def sluicelaw01_twin.f (l0 : List Int) : Option (List Int) := if l0.length + 2 < 140737488355328 then some l0 else none
theorem sluicelaw01_twin.calls (A0 : Option Addr) (c0 : Nat) (l0 : List Int) (r : List Int) (w : World) (hr0 : Kd.C (Kd.int .u8) w A0 l0.length l0) (hc0 : l0.length ≤ c0) (h : sluicelaw01_twin.f l0 = some r) :
    Calls Try.prog 31 #[.slice A0 l0.length c0] w fun e w' => ∃ v0_ : Value, e = .returned (v0_) ∧ Mark.MR .u8 5 w' w.heap.size (fun _ => True) v0_ r ∧ Below w.heap.size w w' := by
  unfold sluicelaw01_twin.f at h
  have Mark8 : (Try.prog.info? 5).map (fun i => (i.zero, i.size, i.bytes)) = some (some (.int .u8 0), 1, 1) := by kernel_rfl
  by_cases hL : l0.length + 2 < 140737488355328
  case neg => rw [if_neg hL] at h; cases h
  rw [if_pos hL] at h
  obtain rfl := Option.some.inj h
  clear h
  have HR0 := Aside0.mk hr0
  have HC0 := Aside0.mk hc0
  clear hr0 hc0
  have HB := Aside0.mk (Below.refl w.heap.size w)
  go_enter Try.func31, Try.ntmps31
  go_wp2
  go_loopg [3, 4] l0.length (fun kq v3 v4 w' => ∃ (i : Nat), v4 = .int .i64 (i : Int) ∧ Aside0 (kq + i = l0.length) ∧ Aside0 (Kd.R (Kd.int .u8) 5 w' w.heap.size (fun _ => True) v3 (l0.take i)) ∧ Aside0 (Below w.heap.size w w'))
  case atStart => exact ⟨0, rfl, ⟨by omega⟩, ⟨by rw [List.take_zero]; exact Kd.R_nil _ _ _ _ _⟩, ⟨by repeat (first | (with_reducible first | exact HB.out | apply below_alloc | apply pw_below_drewN | apply below_drew1) | exact HB.out)⟩⟩
  case round =>
    obtain ⟨i, rfl, HK, HO_3, HB⟩ := hrel
    have hk := HK.out
    by_cases hi : i < l0.length
    · have c2b0 : decide ((i : Int) < (l0.length : Int)) = true := decide_eq_true (by omega)
      have c3b0 : decide (0 ≤ (i : Int)) = true := decide_eq_true (by omega)
      have hw : wrap64 ((i : Int) + 1) = ((i + 1 : Nat) : Int) := by unfold wrap64; omega
      have p101 : 0 ≤ (i : Int) := by omega
      have q101 : (i : Int) < (l0.length : Int) := by omega
      obtain ⟨ad101, e101, hx101_0⟩ := Kd.at_int HR0.out (i : Int) p101 q101
      cases e101
      rw [Int.toNat_natCast] at hx101_0
      replace hx101_0 := (HB.out.cell (World.block_lt_of_cell? w _ hx101_0)).trans hx101_0
      replace p101 := eq_true p101
      replace q101 := eq_true q101
      have NY : Aside0 (l0.take (i + 1) = l0.take i ++ [rd l0 (i : Int)]) := ⟨by rw [List.take_succ_eq_append_getElem hi]; simp [rd, List.getD, hi]⟩
      have LMc4 : Aside0 ((l0.take i).length < 140737488355328) := ⟨by rw [List.length_take]; omega⟩
      go_wp2_with (first | ((with_reducible refine gate_builtin (b := .append) (xs := #[.tmp 11, .tmp 16]) rfl ?_); at_builtin; refine Kd.R_append (Kd.int .u8) (w0 := w) w.heap.size rfl (.tmp 11) (.tmp 16) 46 5 (.int .u8 0) 1 rfl Try.underlying46 (Mark8 : (Try.prog.info? 5).map (fun i => (i.zero, i.size, i.bytes)) = some (some (.int .u8 0), 1, 1)) rfl (by decide) (by omega) u3 (l0.take i) (rd l0 (i : Int)) [.int .u8 (rd l0 (i : Int))] (fun _ => True) (fun _ => False) rfl rfl ?aP (fun _ hk => hk.elim) ?aF ?aO ?aB ?aS ?aL ?_; (case aP => exact rfl); (case aB => exact (by repeat (first | (with_reducible first | exact HB.out | apply below_alloc | apply pw_below_drewN | apply below_drew1) | exact HB.out))); (case aF => exact (fun _ _ => trivial)); (case aO => exact (by (with_reducible repeat (first | apply Kd.R_alloc | apply Kd.R_drewN | apply Kd.R_drew)); exact HO_3.out)); (case aS => exact (below_size (by repeat (first | (with_reducible first | exact HB.out | apply below_alloc | apply pw_below_drewN | apply below_drew1) | exact HB.out)))); (case aL => have := LMc4.out; omega); intro v103 w5 ho hb hg hat; rw [← NY.out] at ho; have n0_ := Aside0.mk (hb); have n1_ := Aside0.mk (ho); clear HB; clear HO_3; have HB := n0_; have HO104 := n1_; clear n0_ n1_; clear ho hb hg hat))
      have hgk : Aside0 (gk - 1 + (i + 1) = l0.length) := ⟨by omega⟩
      have hgk0 : 0 < gk := by omega
      clear hk
      go_roundg (gk - 1)
      case measure => omega
      case rel => exact ⟨i + 1, (by first | rfl | (simp; done) | (simp [*]; done)), hgk, ⟨by (with_reducible repeat (first | apply Kd.R_alloc | apply Kd.R_drewN | apply Kd.R_drew)); exact HO104.out⟩, ⟨by repeat (first | (with_reducible first | exact HB.out | apply below_alloc | apply pw_below_drewN | apply below_drew1) | exact HB.out)⟩⟩
    · have hi' : i = l0.length := by omega
      have c2b0 : decide ((i : Int) < (l0.length : Int)) = false := decide_eq_false (by omega)
      replace HO_3 : Aside0 (Kd.R (Kd.int .u8) 5 _ w.heap.size (fun _ => True) u3 l0) := ⟨by have := HO_3.out; rw [hi', List.take_length] at this; exact this⟩
      clear hi' hk HK
      obtain ⟨y105, hy105⟩ : ∃ y_ : List Int, y_ = ([171, 205] : List Int) := ⟨_, rfl⟩
      have LM : Aside0 (l0.length + y105.length < 140737488355328) := ⟨by rw [hy105]; exact hL⟩
      have Ny105 := Aside0.mk hy105
      clear hy105
      obtain ⟨y108, hy108⟩ : ∃ y_ : List Int, y_ = l0 ++ y105 := ⟨_, rfl⟩
      have Ny108 := Aside0.mk hy108
      clear hy108
      have c7b0 := eq_true (show 0 ≤ (l0.length : Int) by omega)
      have c7b1 : decide (0 ≤ (l0.length : Int)) = true := decide_eq_true (by omega)
      go_wp2_with (first | ((with_reducible refine gate_dst (N := 19) rfl ?_); refine Kd.R_lit (Kd.int .u8) _ 5 ?hg (N := 19) ?hd (xs := ([171, 205] : List Int)) (inner := [.int .u8 171, .int .u8 205]) (ok := fun _ => True) (okp := fun _ => True) ?hr ?hp (fun _ hk => hk) trivial (Below.refl _ _) (Nat.le_refl _) (by simp) ?_; (case hd => rfl); (case hg => rfl); (case hr => first | (go_simp; done) | (go_simp; rfl)); (case hp => exact (Reps.one (show Kd.M (Kd.int .u8) _ _ _ 171 [.int .u8 171] from rfl) (Reps.one (show Kd.M (Kd.int .u8) _ _ _ 205 [.int .u8 205] from rfl) (Reps.none _ _)))); intro v106 w9 ho10 hb hg_ hnew_; clear hg_ hnew_; (first | rw [← Ny105.out] at ho10 | (simp only [Int.reduceToNat] at ho10; rw [← Ny105.out] at ho10)); have n0_ := Aside0.mk (Kd.R_elder' (by (with_reducible repeat (first | apply Kd.R_alloc | apply Kd.R_drewN | apply Kd.R_drew)); exact HO_3.out) (Kd.R_base ho10) hb); have n1_ := Aside0.mk (Kd.R_lower (Kd.R_new' ho10 (Kd.R_lt (by (with_reducible repeat (first | apply Kd.R_alloc | apply Kd.R_drewN | apply Kd.R_drew)); exact HO_3.out))) (below_size (by repeat (first | (with_reducible first | exact HB.out | apply below_alloc | apply pw_below_drewN | apply below_drew1) | exact HB.out)))); have n2_ := Aside0.mk (below_step (by repeat (first | (with_reducible first | exact HB.out | apply below_alloc | apply pw_below_drewN | apply below_drew1) | exact HB.out)) hb); clear HO_3; clear HB; have HO_3 := n0_; have HO107 := n1_; have HB := n2_; clear n0_ n1_ n2_; clear hb ho10; obtain ⟨Ao12, co12, eo12⟩ := Kd.R_slice HO107.out; subst eo12) | ((with_reducible refine gate_builtin (b := .append) (xs := #[.tmp 18, .tmp 19]) rfl ?_); at_builtin; refine Kd.R_append_rows (Kd.int .u8) (w0 := w) w.heap.size rfl (.tmp 18) (.tmp 19) 46 5 (.int .u8 0) 1 rfl Try.underlying46 (Mark8 : (Try.prog.info? 5).map (fun i => (i.zero, i.size, i.bytes)) = some (some (.int .u8 0), 1, 1)) rfl (by decide) (by omega) u3 l0 y105 _ _ _ (fun k_ => some k_ ≠ (.slice Ao12 y105.length co12 : Value).ownBlock) (fun _ => False) rfl rfl ?aO ?aR (fun _ _ h => h) (fun _ h => h.elim) ?aF ?aB ?aS ?aL ?_; (case aR => repeat (first | exact (Kd.R_reads' HO107.out).2.2 | (with_reducible refine Kd.C_alloc ?_ _) | (with_reducible refine Kd.C_drewN ?_ _) | (with_reducible refine Kd.C_drew ?_))); (case aB => exact (by repeat (first | (with_reducible first | exact HB.out | apply below_alloc | apply pw_below_drewN | apply below_drew1) | exact HB.out))); (case aF => exact (fun k_ hk => Kd.fresh' (Kd.R_lt (by (with_reducible repeat (first | apply Kd.R_alloc | apply Kd.R_drewN | apply Kd.R_drew)); exact HO107.out)) k_ hk)); (case aO => exact (by (with_reducible repeat (first | apply Kd.R_alloc | apply Kd.R_drewN | apply Kd.R_drew)); exact Kd.R_mono HO_3.out (fun _ hk => hk.2))); (case aS => exact (below_size (by repeat (first | (with_reducible first | exact HB.out | apply below_alloc | apply pw_below_drewN | apply below_drew1) | exact HB.out)))); (case aL => have := LM.out; omega); intro v109 w11 ho hb hg hat; rw [← Ny108.out] at ho; have n0_ := Aside0.mk (Kd.R_after (ok := (fun _ => True)) (by (with_reducible repeat (first | apply Kd.R_alloc | apply Kd.R_drewN | apply Kd.R_drew)); exact HO107.out) hg hat); have n1_ := Aside0.mk (hb); have n2_ := Aside0.mk (ho); clear HO107; clear HB; clear HO_3; have HO107 := n0_; have HB := n1_; have HO110 := n2_; clear n0_ n1_ n2_; clear ho hb hg hat; obtain ⟨Ao13, co13, eo13⟩ := Kd.R_slice HO110.out; subst eo13; obtain ⟨i014, hi014, _, hsz14, _⟩ := info_parts (Mark8 : (Try.prog.info? 5).map (fun i => (i.zero, i.size, i.bytes)) = some (some (.int .u8 0), 1, 1)); have hcut14 := Mark.cut_up (P := Try.prog) 46 5 .i64 .i64 Try.underlying46 hi014 Ao13 y108.length co13 (l0.length : Int) (by omega) (by have h1_ := (Kd.R_reads' HO110.out).2.1; have h2_ := Ny108.out; rw [h2_, List.length_append] at h1_; omega); rw [show ((l0.length : Int)).toNat = l0.length from Int.toNat_natCast _] at hcut14))
      go_ret
      exact ⟨_, rfl, ⟨_, _, rfl, by (with_reducible repeat (first | apply Kd.R_alloc | apply Kd.R_drewN | apply Kd.R_drew)); have h_ := HO110.out; rw [Ny108.out, Ny105.out, List.length_append] at h_; exact Kd.R_mono (show Kd.R (Kd.int .u8) _ _ _ _ (.slice _ (l0.length + 2) _) (l0 ++ Mark.two) from h_) (fun _ _ => trivial)⟩, by repeat (first | (with_reducible first | exact HB.out | apply below_alloc | apply pw_below_drewN | apply below_drew1) | exact HB.out)⟩

end Go.Proofs.Ytdnofpafojjjaaa.QGrainPacks
