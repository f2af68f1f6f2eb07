/- What the functions that the statement GrainPacks reaches come to, and that the given program's calls come to it; written by this session's program printx.py (wip/tpl), which runs the kit's print over the translation with additions of its own. No printed file. Conditions: as each theorem says. -/
import Derived.Test.YtdnofpafojjjaaaQGrainPacksx0
namespace Go.Proofs.Ytdnofpafojjjaaa.QGrainPacks
open Go.RowKit Go.Proofs.YtdnofpafojjjaaaW.PrintWords Go.Proofs.YtdnofpafojjjaaaW.PrintLast Go.Proofs.YtdnofpafojjjaaaW.PrintMore
attribute [local go_sem] max2_int min2_int max_two min_two max_three min_three max_four min_four   -- for this text's walks alone
set_option linter.unusedVariables false
set_option linter.unusedSimpArgs false

/-! ### sluicelaw01_kept: function 34 -/
/-! kept: the row, with the marks behind it, against another. -/
def sluicelaw01_kept.f (l0 l1 : List Int) : Option Bool := if l0.length < 140737488355328 then some (decide (l0 = l1)) else none
theorem sluicelaw01_kept.next (l0 l1 : List Int) (i : Nat) (h0 : i < l0.length) (h1 : i < l1.length) (ht : l0.take i = l1.take i) : (l0.take (i + 1) = l1.take (i + 1)) ↔ rd l0 (i : Int) = rd l1 (i : Int) := by
  rw [List.take_succ_eq_append_getElem h0, List.take_succ_eq_append_getElem (l := l1) h1, ht]
  have e0 : rd l0 (i : Int) = l0[i] := by simp [rd, List.getD, h0]
  have e1 : rd l1 (i : Int) = l1[i] := by simp [rd, List.getD, h1]
  rw [e0, e1, List.append_right_inj, List.cons.injEq]
  simp
set_option maxHeartbeats 1000000 in
theorem sluicelaw01_kept.calls (A0 : Option Addr) (c0 : Nat) (l0 : List Int) (A1 : Option Addr) (c1 : Nat) (l1 : List Int) (r : Bool) (w : World) (hr0 : Mark.MC .u8 w A0 c0 l0) (hc0 : l0.length ≤ c0) (hr1 : Kd.C (Kd.int .u8) w A1 l1.length l1) (hc1 : l1.length ≤ c1) (h : sluicelaw01_kept.f l0 l1 = some r) :
    Calls Try.prog 34 #[.slice A0 l0.length c0, .slice A1 l1.length c1] w fun e w' => e = .returned (.bool r) ∧ Drawn0 w w' := by
  unfold sluicelaw01_kept.f at h
  have Mark8 : (Try.prog.info? 5).map (fun i => (i.zero, i.size, i.bytes)) = some (some (.int .u8 0), 1, 1) := by kernel_rfl
  by_cases hL : l0.length < 140737488355328
  case neg => rw [if_neg hL] at h; cases h
  rw [if_pos hL] at h
  replace h := Option.some.inj h
  by_cases hl : l0.length = l1.length
  case neg =>
    have c3b0 : ((l0.length : Int) == (l1.length : Int)) = false := beq_eq_false_iff_ne.mpr (by omega)
    have c3b1 : ((l0.length : Int) != (l1.length : Int)) = true := bne_iff_ne.mpr (by omega)
    have hr : r = false := by
      rw [← h]
      exact decide_eq_false (fun e => hl (by rw [e]))
    subst hr
    clear h
    go_enter Try.func34, Try.ntmps34
    go_wp2
    go_ret
    exact ⟨rfl, by repeat (first | exact Drawn0.refl _ | apply Drawn0.step)⟩
  have c3b0 : ((l0.length : Int) == (l1.length : Int)) = true := beq_iff_eq.mpr (by omega)
  have c3b1 : ((l0.length : Int) != (l1.length : Int)) = false := bne_eq_false_iff_eq.mpr (by omega)
  have HC := Mark.MC_C hr0
  obtain ⟨ad0, e0, hm0⟩ := Kd.at_int hr0.2 (l0.length : Int) (by omega) (by omega)
  obtain ⟨ad1, e1, hm1⟩ := Kd.at_int hr0.2 ((l0.length : Int) + 1) (by omega) (by omega)
  subst e0
  obtain rfl : ad0 = ad1 := (by injection e1)
  clear e1
  have r0 : rd (l0 ++ Mark.two) (l0.length : Int) = 171 := by simp [rd, Mark.two]
  have r1 : rd (l0 ++ Mark.two) ((l0.length : Int) + 1) = 205 := by
    have : ((l0.length : Int) + 1).toNat = l0.length + 1 := by omega
    simp [rd, this, Mark.two]
  rw [r0, Int.toNat_natCast] at hm0
  rw [r1, show ((l0.length : Int) + 1).toNat = l0.length + 1 by omega] at hm1
  clear r0 r1
  have hm2 : w.cell? { block := ad0.block, off := ad0.off + (l0.length + 1) } = some (.int .u8 205) := hm1
  have hcc := hr0.1
  have HL := Aside0.mk hl
  clear hr0 hc0
  have HH := Aside0.mk h
  clear hl
  clear h
  go_enter Try.func34, Try.ntmps34
  go_wp2
  repeat (go_quiet (fail); try go_wp2)
  go_loopg [5] l0.length (fun kq v5 w' => ∃ (i : Nat), v5 = .int .i64 (i : Int) ∧ Aside0 (kq + i = l0.length) ∧ Aside0 (l0.take i = l1.take i) ∧ Drawn0 w w')
  case atStart => exact ⟨0, rfl, ⟨by omega⟩, ⟨by rw [List.take_zero, List.take_zero]⟩, by repeat (first | exact Drawn0.refl _ | apply Drawn0.step)⟩
  case round =>
    obtain ⟨i, rfl, HK, HT, ⟨m1, rfl⟩⟩ := hrel
    by_cases hi : i < l0.length
    · have c4b0 : decide ((i : Int) < (l0.length : Int)) = true := decide_eq_true (by omega)
      have hl := HL.out
      have q1 : (i : Int) < (l1.length : Int) := by omega
      obtain ⟨ad2, e2, hx0⟩ := Kd.at_int HC (i : Int) (by omega) (by omega)
      obtain rfl : ad0 = ad2 := (by injection e2)
      clear e2
      obtain ⟨ad3, e3, hx1⟩ := Kd.at_int hr1 (i : Int) (by omega) q1
      subst e3
      rw [Int.toNat_natCast] at hx0 hx1
      have p101 : (0 ≤ (i : Int)) = True := eq_true (by omega)
      have q101 : ((i : Int) < (l0.length : Int)) = True := eq_true (by omega)
      have q102 : ((i : Int) < (l1.length : Int)) = True := eq_true (by omega)
      have hi1 : i < l1.length := by omega
      clear hl
      by_cases hx : rd l0 (i : Int) = rd l1 (i : Int)
      · have c7b0 : ((rd l0 (i : Int)) == (rd l1 (i : Int))) = true := beq_iff_eq.mpr hx
        have c7b1 : ((rd l0 (i : Int)) != (rd l1 (i : Int))) = false := bne_eq_false_iff_eq.mpr hx
        have hgk : Aside0 (gk - 1 + (i + 1) = l0.length) := ⟨by have := HK.out; omega⟩
        have hgk0 : 0 < gk := by have := HK.out; omega
        have hw : wrap64 ((i : Int) + 1) = ((i + 1 : Nat) : Int) := by unfold wrap64; omega
        have HT1 : Aside0 (l0.take (i + 1) = l1.take (i + 1)) := ⟨(sluicelaw01_kept.next l0 l1 i hi hi1 HT.out).mpr hx⟩
        clear hx
        go_wp2
        repeat (go_quiet (fail); try go_wp2)
        go_roundg (gk - 1)
        case measure => omega
        case rel => exact ⟨i + 1, (by first | rfl | (simp; done) | (simp [*]; done)), hgk, HT1, by repeat (first | exact Drawn0.refl _ | apply Drawn0.step)⟩
      · have c7b0 : ((rd l0 (i : Int)) == (rd l1 (i : Int))) = false := beq_eq_false_iff_ne.mpr hx
        have c7b1 : ((rd l0 (i : Int)) != (rd l1 (i : Int))) = true := bne_iff_ne.mpr hx
        have hr : r = false := by
          rw [← HH.out]
          exact decide_eq_false (fun e => hx (by rw [e]))
        subst hr
        clear hx
        go_wp2
        repeat (go_quiet (fail); try go_wp2)
        go_ret
        exact ⟨rfl, by repeat (first | exact Drawn0.refl _ | apply Drawn0.step)⟩
    · have hi' : i = l0.length := by have := HK.out; omega
      have hr : r = true := by
        rw [← HH.out]
        have hl := HL.out
        refine decide_eq_true ?_
        have := HT.out
        rw [hi', List.take_length, hl, List.take_length] at this
        exact this
      subst hr
      have c4b0 : decide ((i : Int) < (l0.length : Int)) = false := decide_eq_false (by omega)
      clear hi' HT HK HH
      obtain ⟨i014, hi014, _, hsz14, _⟩ := info_parts Mark8
      have e6 : wrap64 ((l0.length : Int) + 2) = (l0.length : Int) + 2 := by unfold wrap64; omega
      have hcut := Mark.cut_up (P := Try.prog) 46 5 .i64 .i64 Try.underlying46 hi014 (some ad0) l0.length c0 ((l0.length : Int) + 2) (by omega) (by omega)
      rw [show ((l0.length : Int) + 2).toNat = l0.length + 2 by omega] at hcut
      rw [← e6] at hcut
      clear e6
      have e7 : wrap64 ((l0.length : Int) + 1) = (l0.length : Int) + 1 := by unfold wrap64; omega
      have p101 : (0 ≤ (l0.length : Int)) = True := eq_true (by omega)
      have p102 : (0 ≤ (l0.length : Int) + 1) = True := eq_true (by omega)
      have q101 : ((l0.length : Int) < ((l0.length + 2 : Nat) : Int)) = True := eq_true (by omega)
      have q102 : ((l0.length : Int) + 1 < ((l0.length + 2 : Nat) : Int)) = True := eq_true (by omega)
      go_wp2
      repeat (go_quiet (fail); try go_wp2)
      go_ret
      exact ⟨rfl, by repeat (first | exact Drawn0.refl _ | apply Drawn0.step)⟩

end Go.Proofs.Ytdnofpafojjjaaa.QGrainPacks
