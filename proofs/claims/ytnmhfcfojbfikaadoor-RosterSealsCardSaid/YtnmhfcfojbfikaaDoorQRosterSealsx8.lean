/- What the functions that the statement RosterSeals reaches come to, and that the given program's calls come to it; written by this session's program printx.py (wip/tpl), which runs the kit's print over the translation with additions of its own. No printed file. Conditions: as each theorem says. -/
import Derived.Test.YtnmhfcfojbfikaaDoorQRosterSealsx0
import Derived.Test.YtnmhfcfojbfikaaDoorQRosterSealsx6
namespace Go.Proofs.YtnmhfcfojbfikaaDoor.QRosterSeals
open Go.RowKit Go.Proofs.YtnmhfcfojbfikaaDoorW.PrintWords Go.Proofs.YtnmhfcfojbfikaaDoorW.PrintLast Go.Proofs.YtnmhfcfojbfikaaDoorW.PrintMore
attribute [local go_sem] max2_int min2_int max_two min_two max_three min_three max_four min_four   -- for this text's walks alone
set_option linter.unusedVariables false
set_option linter.unusedSimpArgs false

/-! ### sluiceref07_Unseal: function 8 -/
mutual
def sluiceref07_Unseal.j0 : Nat → ByteArray → ByteArray → Bool → Option (ByteArray × Int)
  | 0, _, _, _ => none
  | k + 1, x0, x4, x27 => if x27 = true then (some ((⟨#[]⟩ : ByteArray), 78)) else ((sluiceref07_Seal.f k x4).bind fun bt145 => (if bt145.2 = 0 then (sluiceref07_Unseal.j1 k x4 (bt145.1.toList != x0.toList)) else (sluiceref07_Unseal.j1 k x4 true)))
def sluiceref07_Unseal.j1 : Nat → ByteArray → Bool → Option (ByteArray × Int)
  | 0, _, _ => none
  | k + 1, x4, x39 => if x39 = true then (some ((⟨#[]⟩ : ByteArray), 78)) else (some (x4, 0))
end
def sluiceref07_Unseal.f (k : Nat) (a0 : ByteArray) : Option (ByteArray × Int) := if (a0.size : Int) > 131072 then (some ((⟨#[]⟩ : ByteArray), 4)) else (if (a0.size : Int) < 16 then (some ((⟨#[]⟩ : ByteArray), 78)) else (if 0 ≤ (wrap64 ((a0.size : Int) - 16)) then (if (wrap64 ((a0.size : Int) - 16)) ≤ (a0.size : Int) then (if (a0.extract 0 ((wrap64 ((a0.size : Int) - 16)) : Int).toNat).toList = ([] : List UInt8) then (sluiceref07_Unseal.j0 k a0 (a0.extract 0 ((wrap64 ((a0.size : Int) - 16)) : Int).toNat) false) else (if 0 ≤ (wrap64 (((a0.extract 0 ((wrap64 ((a0.size : Int) - 16)) : Int).toNat).size : Int) - 1)) then (if (wrap64 (((a0.extract 0 ((wrap64 ((a0.size : Int) - 16)) : Int).toNat).size : Int) - 1)) < ((a0.extract 0 ((wrap64 ((a0.size : Int) - 16)) : Int).toNat).size : Int) then (sluiceref07_Unseal.j0 k a0 (a0.extract 0 ((wrap64 ((a0.size : Int) - 16)) : Int).toNat) ((bt (a0.extract 0 ((wrap64 ((a0.size : Int) - 16)) : Int).toNat) (wrap64 (((a0.extract 0 ((wrap64 ((a0.size : Int) - 16)) : Int).toNat).size : Int) - 1))) != 10)) else (none)) else (none))) else (none)) else (none)))
theorem sluiceref07_Unseal.mono_l : ∀ k, (∀ y0 y1 y2, LeO (sluiceref07_Unseal.j0 k y0 y1 y2) (sluiceref07_Unseal.j0 (k + 1) y0 y1 y2)) ∧ (∀ y0 y1, LeO (sluiceref07_Unseal.j1 k y0 y1) (sluiceref07_Unseal.j1 (k + 1) y0 y1))
  | 0 => ⟨fun _ _ _ r h => by simp [sluiceref07_Unseal.j0] at h, fun _ _ r h => by simp [sluiceref07_Unseal.j1] at h⟩
  | k + 1 => by
    obtain ⟨ih0, ih1⟩ := sluiceref07_Unseal.mono_l k
    refine ⟨?_, ?_⟩
    · intro y0 y1 y2
      unfold sluiceref07_Unseal.j0
      repeat' first
      | (with_reducible exact ih0 _ _ _)
      | (with_reducible exact ih1 _ _)
      | (with_reducible exact sluiceref07_Seal.mono _ _)
      | (with_reducible exact LeO.refl _)
      | (with_reducible exact LeO.none _)
      | (with_reducible refine LeO.ite ?_ ?_)
      | (with_reducible refine LeO.bind ?_ (fun _ => ?_))
      | exact ih0 _ _ _
      | exact ih1 _ _
      | exact sluiceref07_Seal.mono _ _
      | exact LeO.none _
      | refine LeO.ite ?_ ?_
      | refine LeO.bind ?_ (fun _ => ?_)
    · intro y0 y1
      unfold sluiceref07_Unseal.j1
      repeat' first
      | (with_reducible exact ih0 _ _ _)
      | (with_reducible exact ih1 _ _)
      | (with_reducible exact sluiceref07_Seal.mono _ _)
      | (with_reducible exact LeO.refl _)
      | (with_reducible exact LeO.none _)
      | (with_reducible refine LeO.ite ?_ ?_)
      | (with_reducible refine LeO.bind ?_ (fun _ => ?_))
      | exact ih0 _ _ _
      | exact ih1 _ _
      | exact sluiceref07_Seal.mono _ _
      | exact LeO.none _
      | refine LeO.ite ?_ ?_
      | refine LeO.bind ?_ (fun _ => ?_)
theorem sluiceref07_Unseal.mono : ∀ a0 k, LeO (sluiceref07_Unseal.f k a0) (sluiceref07_Unseal.f (k + 1) a0) := by
  intro a0 k
  obtain ⟨ih0, ih1⟩ := sluiceref07_Unseal.mono_l k
  unfold sluiceref07_Unseal.f
  repeat' first
      | (with_reducible exact ih0 _ _ _)
      | (with_reducible exact ih1 _ _)
      | (with_reducible exact sluiceref07_Seal.mono _ _)
      | (with_reducible exact LeO.refl _)
      | (with_reducible exact LeO.none _)
      | (with_reducible refine LeO.ite ?_ ?_)
      | (with_reducible refine LeO.bind ?_ (fun _ => ?_))
      | exact ih0 _ _ _
      | exact ih1 _ _
      | exact sluiceref07_Seal.mono _ _
      | exact LeO.none _
      | refine LeO.ite ?_ ?_
      | refine LeO.bind ?_ (fun _ => ?_)
set_option maxHeartbeats 8000000 in
set_option maxRecDepth 100000 in
theorem sluiceref07_Unseal.calls (k : Nat) (a0 : ByteArray) (r1 : ByteArray) (r2 : Int) (w : World) (h : sluiceref07_Unseal.f k a0 = some (r1, r2)) :
    Calls Tryd.prog 8 #[.string a0] w fun e w' => e = .returned (.tuple #[.string r1, .int .i64 r2]) ∧ Below w.heap.size w w' := by
  have HB := Aside0.mk (Below.refl w.heap.size w)
  have H : (if (a0.size : Int) > 131072 then (some ((⟨#[]⟩ : ByteArray), 4)) else (if (a0.size : Int) < 16 then (some ((⟨#[]⟩ : ByteArray), 78)) else (if 0 ≤ (wrap64 ((a0.size : Int) - 16)) then (if (wrap64 ((a0.size : Int) - 16)) ≤ (a0.size : Int) then (if (a0.extract 0 ((wrap64 ((a0.size : Int) - 16)) : Int).toNat).toList = ([] : List UInt8) then (sluiceref07_Unseal.j0 k a0 (a0.extract 0 ((wrap64 ((a0.size : Int) - 16)) : Int).toNat) false) else (if 0 ≤ (wrap64 (((a0.extract 0 ((wrap64 ((a0.size : Int) - 16)) : Int).toNat).size : Int) - 1)) then (if (wrap64 (((a0.extract 0 ((wrap64 ((a0.size : Int) - 16)) : Int).toNat).size : Int) - 1)) < ((a0.extract 0 ((wrap64 ((a0.size : Int) - 16)) : Int).toNat).size : Int) then (sluiceref07_Unseal.j0 k a0 (a0.extract 0 ((wrap64 ((a0.size : Int) - 16)) : Int).toNat) ((bt (a0.extract 0 ((wrap64 ((a0.size : Int) - 16)) : Int).toNat) (wrap64 (((a0.extract 0 ((wrap64 ((a0.size : Int) - 16)) : Int).toNat).size : Int) - 1))) != 10)) else (none)) else (none))) else (none)) else (none)))) = some (r1, r2) := h
  clear h
  by_cases c2 : (a0.size : Int) > 131072
  · rw [if_pos c2] at H
    have c2b0 : decide (131072 < (a0.size : Int)) = true := decide_eq_true c2
    have c2b1 : decide (131072 < a0.size) = true := decide_eq_true (by omega)
    clear c2
    simp only [Option.some.injEq, Prod.mk.injEq] at H
    obtain ⟨rfl, rfl⟩ := H
    go_enter Tryd.func8, Tryd.ntmps8
    go_wp2
    go_ret2
    exact ⟨by first | rfl | (simp [errW_none, errW_some] <;> rfl) | (simp [*, errW_none, errW_some] <;> rfl), by repeat (first | (with_reducible first | exact HB.out | apply below_alloc | apply pw_below_drewN | apply below_drew1) | exact HB.out)⟩
  · rw [if_neg c2] at H
    have c2b0 : decide (131072 < (a0.size : Int)) = false := decide_eq_false c2
    have c2b1 : decide (131072 < a0.size) = false := decide_eq_false (by omega)
    clear c2
    by_cases c3 : (a0.size : Int) < 16
    · rw [if_pos c3] at H
      have c3b0 : decide ((a0.size : Int) < 16) = true := decide_eq_true c3
      have c3b1 : decide (a0.size < 16) = true := decide_eq_true (by omega)
      clear c3
      simp only [Option.some.injEq, Prod.mk.injEq] at H
      obtain ⟨rfl, rfl⟩ := H
      go_enter Tryd.func8, Tryd.ntmps8
      go_wp2
      go_ret2
      exact ⟨by first | rfl | (simp [errW_none, errW_some] <;> rfl) | (simp [*, errW_none, errW_some] <;> rfl), by repeat (first | (with_reducible first | exact HB.out | apply below_alloc | apply pw_below_drewN | apply below_drew1) | exact HB.out)⟩
    · rw [if_neg c3] at H
      have c3b0 : decide ((a0.size : Int) < 16) = false := decide_eq_false c3
      have c3b1 : decide (a0.size < 16) = false := decide_eq_false (by omega)
      clear c3
      obtain ⟨ji4, hji4⟩ : ∃ j_ : Int, (wrap64 ((a0.size : Int) - 16)) = j_ := ⟨_, rfl⟩
      replace H : (if 0 ≤ (ji4) then (if (ji4) ≤ (a0.size : Int) then (if (a0.extract 0 ((ji4) : Int).toNat).toList = ([] : List UInt8) then (sluiceref07_Unseal.j0 k a0 (a0.extract 0 ((ji4) : Int).toNat) false) else (if 0 ≤ (wrap64 (((a0.extract 0 ((ji4) : Int).toNat).size : Int) - 1)) then (if (wrap64 (((a0.extract 0 ((ji4) : Int).toNat).size : Int) - 1)) < ((a0.extract 0 ((ji4) : Int).toNat).size : Int) then (sluiceref07_Unseal.j0 k a0 (a0.extract 0 ((ji4) : Int).toNat) ((bt (a0.extract 0 ((ji4) : Int).toNat) (wrap64 (((a0.extract 0 ((ji4) : Int).toNat).size : Int) - 1))) != 10)) else (none)) else (none))) else (none)) else (none)) = some (r1, r2) := by first | (rw [hji4] at H; exact H) | (simp only [hji4] at H ⊢; exact H)
      have hji4w : (IntKind.i64.wrap ((a0.size : Int) - 16)) = ji4 := (i64_w _).trans hji4
      by_cases c5 : 0 ≤ (ji4)
      · rw [if_pos c5] at H
        have c5b0 := eq_true c5
        have c5b1 : decide (0 ≤ (ji4)) = true := decide_eq_true c5
        clear c5
        by_cases c6 : (ji4) ≤ (a0.size : Int)
        · rw [if_pos c6] at H
          have c6b0 := eq_true c6
          have c6b1 : decide ((ji4) ≤ (a0.size : Int)) = true := decide_eq_true c6
          clear c6
          have HC7 := Aside0.mk H
          clear H
          go_enter Tryd.func8, Tryd.ntmps8
          go_upto_region 6 with (fail)
          obtain ⟨y4, hy4⟩ : ∃ y_ : ByteArray, y_ = a0.extract 0 ((ji4) : Int).toNat := ⟨_, rfl⟩
          rw [← hy4]
          have HX7 := HC7.out
          clear HC7
          rw [← hy4] at HX7
          have HC7 := Aside0.mk HX7
          clear HX7
          have Ny4 := Aside0.mk hy4
          clear hy4
          go_cut [27] (fun v27 wc => ∃ (kq : Nat) (x27_6 : Bool), v27 = .bool x27_6 ∧ Aside0 (sluiceref07_Unseal.j0 kq a0 y4 x27_6 = some (r1, r2)) ∧ Aside0 (kq ≤ k) ∧ Aside0 (Below w.heap.size w wc))
          case first =>
            have H := HC7.out
            clear HC7
            by_cases c8 : y4.toList = ([] : List UInt8)
            · rw [if_pos c8] at H
              have c8b0 : (y4.toList == ([] : List UInt8)) = true := beq_iff_eq.mpr c8
              have c8b1 : (y4.toList != ([] : List UInt8)) = false := bne_eq_false_iff_eq.mpr c8
              clear c8
              (first | rw [c8b0] | (simp only [i64_w, i32_w]; rw [c8b0]) | skip)
              have H' := Aside0.mk H
              clear H
              go_wp2
              go_meet
              case rel => exact ⟨_, (false), (by first | rfl | (simp; done) | (simp [*]; done)), H', ⟨by first | omega | exact Nat.le_refl _⟩, ⟨by repeat (first | (with_reducible first | exact HB.out | apply below_alloc | apply pw_below_drewN | apply below_drew1) | exact HB.out)⟩⟩
            · rw [if_neg c8] at H
              have c8b0 : (y4.toList == ([] : List UInt8)) = false := beq_eq_false_iff_ne.mpr c8
              have c8b1 : (y4.toList != ([] : List UInt8)) = true := bne_iff_ne.mpr c8
              (first | rw [c8b0] | (simp only [i64_w, i32_w]; rw [c8b0]) | skip)
              obtain ⟨ji9, hji9⟩ : ∃ j_ : Int, (wrap64 ((y4.size : Int) - 1)) = j_ := ⟨_, rfl⟩
              replace H : (if 0 ≤ (ji9) then (if (ji9) < (y4.size : Int) then (sluiceref07_Unseal.j0 k a0 y4 ((bt y4 (ji9)) != 10)) else (none)) else (none)) = some (r1, r2) := by first | (rw [hji9] at H; exact H) | (simp only [hji9] at H ⊢; exact H)
              have hji9w : (IntKind.i64.wrap ((y4.size : Int) - 1)) = ji9 := (i64_w _).trans hji9
              by_cases c10 : 0 ≤ (ji9)
              · rw [if_pos c10] at H
                have c10b0 : decide (0 ≤ (ji9)) = true := decide_eq_true c10
                clear c10
                by_cases c11 : (ji9) < (y4.size : Int)
                · rw [if_pos c11] at H
                  have c11b0 : decide ((ji9) < (y4.size : Int)) = true := decide_eq_true c11
                  clear c11
                  have H' := Aside0.mk H
                  clear H
                  have p12 : 0 ≤ ((ji9) : Int) := of_decide_eq_true (by first | (with_reducible assumption) | assumption)
                  have q12 : (ji9) < (y4.size : Int) := of_decide_eq_true (by first | (with_reducible assumption) | assumption)
                  have hx12 := bt_at y4 (ji9)
                  replace p12 := eq_true p12
                  replace q12 := eq_true q12
                  go_wp2
                  go_meet
                  case rel => exact ⟨_, (((bt y4 (ji9)) != 10)), (by first | rfl | (simp; done) | (simp only [← hji4, ← hji9] <;> (first | rfl | simp)) | (simp [*]; done)), H', ⟨by first | omega | exact Nat.le_refl _⟩, ⟨by repeat (first | (with_reducible first | exact HB.out | apply below_alloc | apply pw_below_drewN | apply below_drew1) | exact HB.out)⟩⟩
                · rw [if_neg c11] at H
                  exact absurd H (by simp)
              · rw [if_neg c10] at H
                exact absurd H (by simp)
          case rest =>
            clear HC7
            try clear c1
            try clear p1
            try clear q1
            try clear hx1
            try clear c2
            try clear c2b0
            try clear c2b1
            try clear p2
            try clear c3
            try clear c3b0
            try clear c3b1
            try clear c5
            try clear c5b0
            try clear c5b1
            try clear c6
            try clear c6b0
            try clear c6b1
            try clear p6
            try clear c8
            try clear c8b0
            try clear c8b1
            try clear c10
            try clear c10b0
            try clear c11
            try clear c11b0
            try clear p12
            try clear q12
            try clear hx12
            try clear p12
            try clear q12
            obtain ⟨kq, x27_6, rfl, HA, HJ6, HB⟩ := hcut
            cases kq with
            | zero => exact absurd HA.out (by simp [sluiceref07_Unseal.j0])
            | succ kj6 =>
              have H := HA.out
              clear HA
              simp only [sluiceref07_Unseal.j0] at H
              by_cases c13 : x27_6 = true
              · subst c13
                have H1 : (some ((⟨#[]⟩ : ByteArray), 78)) = some (r1, r2) := by rw [if_pos rfl] at H; exact H
                clear H
                have H := H1
                clear H1
                simp only [Option.some.injEq, Prod.mk.injEq] at H
                obtain ⟨rfl, rfl⟩ := H
                go_wp2
                go_ret2
                exact ⟨by first | rfl | (simp [errW_none, errW_some] <;> rfl) | (simp only [← hji4]; first | rfl | (simp [errW_none, errW_some] <;> rfl)) | (simp [*, errW_none, errW_some] <;> rfl), by repeat (first | (with_reducible first | exact HB.out | apply below_alloc | apply pw_below_drewN | apply below_drew1) | exact HB.out)⟩
              · replace c13 := Bool.eq_false_iff.mpr c13
                subst c13
                have H1 : ((sluiceref07_Seal.f kj6 y4).bind fun bt145 => (if bt145.2 = 0 then (sluiceref07_Unseal.j1 kj6 y4 (bt145.1.toList != a0.toList)) else (sluiceref07_Unseal.j1 kj6 y4 true))) = some (r1, r2) := by rw [if_neg (show ¬ (false = true) by decide)] at H; exact H
                clear H
                have H := H1
                clear H1
                replace H := Option.bind_eq_some_iff.mp H
                obtain ⟨⟨t145, t146⟩, A140, H⟩ := H
                replace H : (if t146 = 0 then (sluiceref07_Unseal.j1 kj6 y4 (t145.toList != a0.toList)) else (sluiceref07_Unseal.j1 kj6 y4 true)) = some (r1, r2) := H
                have A14 := Aside0.mk A140
                clear A140
                have HC15 := Aside0.mk H
                clear H
                go_upto_region 9 with (first | ((with_reducible refine gate_callee (f := 5) rfl ?_); refine goesL_ (some 30) rfl rfl Tryd.func5 (by kernel_rfl) rfl #[.string y4] rfl (by (try simp only [List.map_toArray, List.map_cons, List.map_nil]); first | done | (simp only [hji4]; rfl) | rfl | (simp only [List.length_drop, List.length_take]; rfl)) ?_; (with_reducible refine (sluiceref07_Seal.calls kj6 y4 t145 t146 _ A14.out).mono ?_); rintro e w16 ⟨rfl, hb⟩; refine ⟨_, rfl, ?_⟩; have n0_ := Aside0.mk (below_step (by repeat (first | (with_reducible first | exact HB.out | apply below_alloc | apply pw_below_drewN | apply below_drew1) | exact HB.out)) hb); clear HB; have HB := n0_; clear n0_; (try clear hb); (try clear hb2); (try clear hk); (try clear hi)))
                (try simp only [Act.put, List.setIfInBounds_toArray, List.set_cons_zero, List.set_cons_succ])
                go_cut [39] (fun v39 wc => ∃ (kq : Nat) (x39_14 : Bool), v39 = .bool x39_14 ∧ Aside0 (sluiceref07_Unseal.j1 kq y4 x39_14 = some (r1, r2)) ∧ Aside0 (kq ≤ kj6) ∧ Aside0 (Below w.heap.size w wc))
                case first =>
                  have H := HC15.out
                  clear HC15
                  by_cases c17 : t146 = 0
                  · rw [if_pos c17] at H
                    have c17b0 : (t146 == 0) = true := beq_iff_eq.mpr c17
                    have c17b1 : (t146 != 0) = false := bne_eq_false_iff_eq.mpr c17
                    clear c17
                    (first | rw [c17b0] | (simp only [i64_w, i32_w]; rw [c17b0]) | skip)
                    have H' := Aside0.mk H
                    clear H
                    go_wp2
                    go_meet
                    case rel => exact ⟨_, ((t145.toList != a0.toList)), (by first | rfl | (simp; done) | (simp [*]; done)), H', ⟨by have := HJ6.out; first | omega | exact Nat.le_refl _⟩, ⟨by repeat (first | (with_reducible first | exact HB.out | apply below_alloc | apply pw_below_drewN | apply below_drew1) | exact HB.out)⟩⟩
                  · rw [if_neg c17] at H
                    have c17b0 : (t146 == 0) = false := beq_eq_false_iff_ne.mpr c17
                    have c17b1 : (t146 != 0) = true := bne_iff_ne.mpr c17
                    (first | rw [c17b0] | (simp only [i64_w, i32_w]; rw [c17b0]) | skip)
                    have H' := Aside0.mk H
                    clear H
                    go_wp2
                    go_meet
                    case rel => exact ⟨_, (true), (by first | rfl | (simp; done) | (simp [*]; done)), H', ⟨by have := HJ6.out; first | omega | exact Nat.le_refl _⟩, ⟨by repeat (first | (with_reducible first | exact HB.out | apply below_alloc | apply pw_below_drewN | apply below_drew1) | exact HB.out)⟩⟩
                case rest =>
                  clear HC15
                  try clear c1
                  try clear p1
                  try clear q1
                  try clear hx1
                  try clear c2
                  try clear c2b0
                  try clear c2b1
                  try clear p2
                  try clear c3
                  try clear c3b0
                  try clear c3b1
                  try clear c5
                  try clear c5b0
                  try clear c5b1
                  try clear c6
                  try clear c6b0
                  try clear c6b1
                  try clear p6
                  try clear c8
                  try clear c8b0
                  try clear c8b1
                  try clear c10
                  try clear c10b0
                  try clear c11
                  try clear c11b0
                  try clear p12
                  try clear q12
                  try clear hx12
                  try clear c13
                  try clear c17
                  try clear c17b0
                  try clear c17b1
                  try clear p1
                  try clear p12
                  try clear p2
                  try clear p6
                  try clear q1
                  try clear q12
                  obtain ⟨kq, x39_14, rfl, HA, HJ14, HB⟩ := hcut
                  cases kq with
                  | zero => exact absurd HA.out (by simp [sluiceref07_Unseal.j1])
                  | succ kj14 =>
                    have H := HA.out
                    clear HA
                    simp only [sluiceref07_Unseal.j1] at H
                    by_cases c18 : x39_14 = true
                    · subst c18
                      have H1 : (some ((⟨#[]⟩ : ByteArray), 78)) = some (r1, r2) := by rw [if_pos rfl] at H; exact H
                      clear H
                      have H := H1
                      clear H1
                      simp only [Option.some.injEq, Prod.mk.injEq] at H
                      obtain ⟨rfl, rfl⟩ := H
                      go_wp2
                      go_ret2
                      exact ⟨by first | rfl | (simp [errW_none, errW_some] <;> rfl) | (simp only [← hji4]; first | rfl | (simp [errW_none, errW_some] <;> rfl)) | (simp [*, errW_none, errW_some] <;> rfl), by repeat (first | (with_reducible first | exact HB.out | apply below_alloc | apply pw_below_drewN | apply below_drew1) | exact HB.out)⟩
                    · replace c18 := Bool.eq_false_iff.mpr c18
                      subst c18
                      have H1 : (some (y4, 0)) = some (r1, r2) := by rw [if_neg (show ¬ (false = true) by decide)] at H; exact H
                      clear H
                      have H := H1
                      clear H1
                      simp only [Option.some.injEq, Prod.mk.injEq] at H
                      obtain ⟨rfl, rfl⟩ := H
                      go_wp2
                      go_ret2
                      exact ⟨by first | rfl | (simp [errW_none, errW_some] <;> rfl) | (simp only [← hji4]; first | rfl | (simp [errW_none, errW_some] <;> rfl)) | (simp [*, errW_none, errW_some] <;> rfl), by repeat (first | (with_reducible first | exact HB.out | apply below_alloc | apply pw_below_drewN | apply below_drew1) | exact HB.out)⟩
        · rw [if_neg c6] at H
          exact absurd H (by simp)
      · rw [if_neg c5] at H
        exact absurd H (by simp)

end Go.Proofs.YtnmhfcfojbfikaaDoor.QRosterSeals
