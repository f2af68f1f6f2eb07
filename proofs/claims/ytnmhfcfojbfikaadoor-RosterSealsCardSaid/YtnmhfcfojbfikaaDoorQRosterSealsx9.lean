/- What the functions that the statement RosterSeals reaches come to, and that the given program's calls come to it; written by this session's program printx.py (wip/tpl), which runs the kit's print over the translation with additions of its own. No printed file. Conditions: as each theorem says. -/
import Derived.Test.YtnmhfcfojbfikaaDoorQRosterSealsx0
import Derived.Test.YtnmhfcfojbfikaaDoorQRosterSealsx4
import Derived.Test.YtnmhfcfojbfikaaDoorQRosterSealsx6
import Derived.Test.YtnmhfcfojbfikaaDoorQRosterSealsx7
import Derived.Test.YtnmhfcfojbfikaaDoorQRosterSealsx8
namespace Go.Proofs.YtnmhfcfojbfikaaDoor.QRosterSeals
open Go.RowKit Go.Proofs.YtnmhfcfojbfikaaDoorW.PrintWords Go.Proofs.YtnmhfcfojbfikaaDoorW.PrintLast Go.Proofs.YtnmhfcfojbfikaaDoorW.PrintMore
attribute [local go_sem] max2_int min2_int max_two min_two max_three min_three max_four min_four   -- for this text's walks alone
set_option linter.unusedVariables false
set_option linter.unusedSimpArgs false

/-! ### sluicelaw07_RosterSeals: function 3 -/
mutual
def sluicelaw07_RosterSeals.j0 : Nat → ByteArray → ByteArray → Int → Bool → Option (Bool)
  | 0, _, _, _, _ => none
  | k + 1, x0, x3, x6, x27 => if x27 = true then (some false) else (if x6 = 0 then ((roster_Unseal.f k x3).bind fun bt152 => ((sluicelaw07_num.f bt152.2).bind fun t154 => (if t154 = 0 then (if 0 ≤ (wrap64 ((x3.size : Int) - 16)) then (if (wrap64 ((x3.size : Int) - 16)) ≤ (x3.size : Int) then (sluicelaw07_RosterSeals.j1 k x0 (bt152.1.toList != (x3.extract 0 ((wrap64 ((x3.size : Int) - 16)) : Int).toNat).toList)) else (none)) else (none)) else (sluicelaw07_RosterSeals.j1 k x0 true)))) else (sluicelaw07_RosterSeals.j2 k x0))
def sluicelaw07_RosterSeals.j2 : Nat → ByteArray → Option (Bool)
  | 0, _ => none
  | k + 1, x0 => (roster_Unseal.f k x0).bind fun bt155 => ((sluiceref07_Unseal.f k x0).bind fun bt157 => (if bt155.1.toList = bt157.1.toList then ((sluicelaw07_num.f bt155.2).bind fun t159 => (some (t159 == bt157.2))) else (some false)))
def sluicelaw07_RosterSeals.j1 : Nat → ByteArray → Bool → Option (Bool)
  | 0, _, _ => none
  | k + 1, x0, x46 => if x46 = true then (some false) else (sluicelaw07_RosterSeals.j2 k x0)
end
def sluicelaw07_RosterSeals.f (k : Nat) (a0 : ByteArray) : Option (Bool) := (roster_Seal.f k a0).bind fun bt147 => ((sluiceref07_Seal.f k a0).bind fun bt149 => (if bt147.1.toList = bt149.1.toList then ((sluicelaw07_num.f bt147.2).bind fun t151 => (sluicelaw07_RosterSeals.j0 k a0 bt147.1 bt149.2 (t151 != bt149.2))) else (sluicelaw07_RosterSeals.j0 k a0 bt147.1 bt149.2 true)))
theorem sluicelaw07_RosterSeals.mono_l : ∀ k, (∀ y0 y1 y2 y3, LeO (sluicelaw07_RosterSeals.j0 k y0 y1 y2 y3) (sluicelaw07_RosterSeals.j0 (k + 1) y0 y1 y2 y3)) ∧ (∀ y0, LeO (sluicelaw07_RosterSeals.j2 k y0) (sluicelaw07_RosterSeals.j2 (k + 1) y0)) ∧ (∀ y0 y1, LeO (sluicelaw07_RosterSeals.j1 k y0 y1) (sluicelaw07_RosterSeals.j1 (k + 1) y0 y1))
  | 0 => ⟨fun _ _ _ _ r h => by simp [sluicelaw07_RosterSeals.j0] at h, fun _ r h => by simp [sluicelaw07_RosterSeals.j2] at h, fun _ _ r h => by simp [sluicelaw07_RosterSeals.j1] at h⟩
  | k + 1 => by
    obtain ⟨ih0, ih1, ih2⟩ := sluicelaw07_RosterSeals.mono_l k
    refine ⟨?_, ?_, ?_⟩
    · intro y0 y1 y2 y3
      unfold sluicelaw07_RosterSeals.j0
      repeat' first
      | (with_reducible exact ih0 _ _ _ _)
      | (with_reducible exact ih1 _)
      | (with_reducible exact ih2 _ _)
      | (with_reducible exact roster_Seal.mono _ _)
      | (with_reducible exact roster_Unseal.mono _ _)
      | (with_reducible exact sluiceref07_Seal.mono _ _)
      | (with_reducible exact sluiceref07_Unseal.mono _ _)
      | (with_reducible exact LeO.refl _)
      | (with_reducible exact LeO.none _)
      | (with_reducible refine LeO.ite ?_ ?_)
      | (with_reducible refine LeO.bind ?_ (fun _ => ?_))
      | exact ih0 _ _ _ _
      | exact ih1 _
      | exact ih2 _ _
      | exact roster_Seal.mono _ _
      | exact roster_Unseal.mono _ _
      | exact sluiceref07_Seal.mono _ _
      | exact sluiceref07_Unseal.mono _ _
      | exact LeO.none _
      | refine LeO.ite ?_ ?_
      | refine LeO.bind ?_ (fun _ => ?_)
    · intro y0
      unfold sluicelaw07_RosterSeals.j2
      repeat' first
      | (with_reducible exact ih0 _ _ _ _)
      | (with_reducible exact ih1 _)
      | (with_reducible exact ih2 _ _)
      | (with_reducible exact roster_Seal.mono _ _)
      | (with_reducible exact roster_Unseal.mono _ _)
      | (with_reducible exact sluiceref07_Seal.mono _ _)
      | (with_reducible exact sluiceref07_Unseal.mono _ _)
      | (with_reducible exact LeO.refl _)
      | (with_reducible exact LeO.none _)
      | (with_reducible refine LeO.ite ?_ ?_)
      | (with_reducible refine LeO.bind ?_ (fun _ => ?_))
      | exact ih0 _ _ _ _
      | exact ih1 _
      | exact ih2 _ _
      | exact roster_Seal.mono _ _
      | exact roster_Unseal.mono _ _
      | exact sluiceref07_Seal.mono _ _
      | exact sluiceref07_Unseal.mono _ _
      | exact LeO.none _
      | refine LeO.ite ?_ ?_
      | refine LeO.bind ?_ (fun _ => ?_)
    · intro y0 y1
      unfold sluicelaw07_RosterSeals.j1
      repeat' first
      | (with_reducible exact ih0 _ _ _ _)
      | (with_reducible exact ih1 _)
      | (with_reducible exact ih2 _ _)
      | (with_reducible exact roster_Seal.mono _ _)
      | (with_reducible exact roster_Unseal.mono _ _)
      | (with_reducible exact sluiceref07_Seal.mono _ _)
      | (with_reducible exact sluiceref07_Unseal.mono _ _)
      | (with_reducible exact LeO.refl _)
      | (with_reducible exact LeO.none _)
      | (with_reducible refine LeO.ite ?_ ?_)
      | (with_reducible refine LeO.bind ?_ (fun _ => ?_))
      | exact ih0 _ _ _ _
      | exact ih1 _
      | exact ih2 _ _
      | exact roster_Seal.mono _ _
      | exact roster_Unseal.mono _ _
      | exact sluiceref07_Seal.mono _ _
      | exact sluiceref07_Unseal.mono _ _
      | exact LeO.none _
      | refine LeO.ite ?_ ?_
      | refine LeO.bind ?_ (fun _ => ?_)
theorem sluicelaw07_RosterSeals.mono : ∀ a0 k, LeO (sluicelaw07_RosterSeals.f k a0) (sluicelaw07_RosterSeals.f (k + 1) a0) := by
  intro a0 k
  obtain ⟨ih0, ih1, ih2⟩ := sluicelaw07_RosterSeals.mono_l k
  unfold sluicelaw07_RosterSeals.f
  repeat' first
      | (with_reducible exact ih0 _ _ _ _)
      | (with_reducible exact ih1 _)
      | (with_reducible exact ih2 _ _)
      | (with_reducible exact roster_Seal.mono _ _)
      | (with_reducible exact roster_Unseal.mono _ _)
      | (with_reducible exact sluiceref07_Seal.mono _ _)
      | (with_reducible exact sluiceref07_Unseal.mono _ _)
      | (with_reducible exact LeO.refl _)
      | (with_reducible exact LeO.none _)
      | (with_reducible refine LeO.ite ?_ ?_)
      | (with_reducible refine LeO.bind ?_ (fun _ => ?_))
      | exact ih0 _ _ _ _
      | exact ih1 _
      | exact ih2 _ _
      | exact roster_Seal.mono _ _
      | exact roster_Unseal.mono _ _
      | exact sluiceref07_Seal.mono _ _
      | exact sluiceref07_Unseal.mono _ _
      | exact LeO.none _
      | refine LeO.ite ?_ ?_
      | refine LeO.bind ?_ (fun _ => ?_)
set_option maxHeartbeats 8000000 in
set_option maxRecDepth 100000 in
theorem sluicelaw07_RosterSeals.calls (k : Nat) (a0 : ByteArray) (r : Bool) (w : World) (h : sluicelaw07_RosterSeals.f k a0 = some r) (hGQ : Glob.GQ w) (hGS : Glob.GS w) :
    Calls Tryd.prog 3 #[.string a0] w fun e w' => e = .returned (.bool r) ∧ Below w.heap.size w w' := by
  have HB := Aside0.mk (Below.refl w.heap.size w)
  have H : ((roster_Seal.f k a0).bind fun bt147 => ((sluiceref07_Seal.f k a0).bind fun bt149 => (if bt147.1.toList = bt149.1.toList then ((sluicelaw07_num.f bt147.2).bind fun t151 => (sluicelaw07_RosterSeals.j0 k a0 bt147.1 bt149.2 (t151 != bt149.2))) else (sluicelaw07_RosterSeals.j0 k a0 bt147.1 bt149.2 true)))) = some r := h
  clear h
  replace H := Option.bind_eq_some_iff.mp H
  obtain ⟨⟨t147, t148⟩, A20, H⟩ := H
  replace H : ((sluiceref07_Seal.f k a0).bind fun bt149 => (if t147.toList = bt149.1.toList then ((sluicelaw07_num.f t148).bind fun t151 => (sluicelaw07_RosterSeals.j0 k a0 t147 bt149.2 (t151 != bt149.2))) else (sluicelaw07_RosterSeals.j0 k a0 t147 bt149.2 true))) = some r := H
  have A2 := Aside0.mk A20
  clear A20
  replace H := Option.bind_eq_some_iff.mp H
  obtain ⟨⟨t149, t150⟩, A30, H⟩ := H
  replace H : (if t147.toList = t149.toList then ((sluicelaw07_num.f t148).bind fun t151 => (sluicelaw07_RosterSeals.j0 k a0 t147 t150 (t151 != t150))) else (sluicelaw07_RosterSeals.j0 k a0 t147 t150 true)) = some r := H
  have A3 := Aside0.mk A30
  clear A30
  have HC4 := Aside0.mk H
  clear H
  go_enter Tryd.func3, Tryd.ntmps3
  go_upto_region 3 with (first | ((with_reducible refine gate_callee (f := 4) rfl ?_); refine goesL_ (some 11) rfl rfl Tryd.func4 (by kernel_rfl) rfl #[.string a0] rfl (by (try simp only [List.map_toArray, List.map_cons, List.map_nil]); first | done | rfl | (simp only [List.length_drop, List.length_take]; rfl)) ?_; (with_reducible refine (roster_Seal.calls k a0 t147 t148 _ A2.out (by first | exact hGQ | ((repeat (first | exact hGQ | apply Glob.GQ.drewN | apply Glob.GQ.drew | apply Glob.GQ.alloc)); done) | exact Glob.GQ.below hGQ (by repeat (first | (with_reducible first | exact HB.out | apply below_alloc | apply pw_below_drewN | apply below_drew1) | exact HB.out))) (by first | exact hGS | ((repeat (first | exact hGS | apply Glob.GS.drewN | apply Glob.GS.drew | apply Glob.GS.alloc)); done) | exact Glob.GS.below hGS (by repeat (first | (with_reducible first | exact HB.out | apply below_alloc | apply pw_below_drewN | apply below_drew1) | exact HB.out)))).mono ?_); rintro e w5 ⟨rfl, hb⟩; refine ⟨_, rfl, ?_⟩; have n0_ := Aside0.mk (below_step (by repeat (first | (with_reducible first | exact HB.out | apply below_alloc | apply pw_below_drewN | apply below_drew1) | exact HB.out)) hb); clear HB; have HB := n0_; clear n0_; (try clear hb); (try clear hb2); (try clear hk); (try clear hi)) | ((with_reducible refine gate_callee (f := 5) rfl ?_); refine goesL_ (some 16) rfl rfl Tryd.func5 (by kernel_rfl) rfl #[.string a0] rfl (by (try simp only [List.map_toArray, List.map_cons, List.map_nil]); first | done | rfl | (simp only [List.length_drop, List.length_take]; rfl)) ?_; (with_reducible refine (sluiceref07_Seal.calls k a0 t149 t150 _ A3.out).mono ?_); rintro e w6 ⟨rfl, hb⟩; refine ⟨_, rfl, ?_⟩; have n0_ := Aside0.mk (below_step (by repeat (first | (with_reducible first | exact HB.out | apply below_alloc | apply pw_below_drewN | apply below_drew1) | exact HB.out)) hb); clear HB; have HB := n0_; clear n0_; (try clear hb); (try clear hb2); (try clear hk); (try clear hi)))
  (try simp only [Act.put, List.setIfInBounds_toArray, List.set_cons_zero, List.set_cons_succ])
  go_cut [27] (fun v27 wc => ∃ (kq : Nat) (x27_3 : Bool), v27 = .bool x27_3 ∧ Aside0 (sluicelaw07_RosterSeals.j0 kq a0 t147 t150 x27_3 = some r) ∧ Aside0 (kq ≤ k) ∧ Aside0 (Below w.heap.size w wc))
  case first =>
    have H := HC4.out
    clear HC4
    by_cases c7 : t147.toList = t149.toList
    · rw [if_pos c7] at H
      have c7b0 : (t147.toList == t149.toList) = true := beq_iff_eq.mpr c7
      have c7b1 : (t147.toList != t149.toList) = false := bne_eq_false_iff_eq.mpr c7
      clear c7
      (first | rw [c7b0] | (simp only [i64_w, i32_w]; rw [c7b0]) | skip)
      replace H := Option.bind_eq_some_iff.mp H
      obtain ⟨t151, A80, H⟩ := H
      replace H : (sluicelaw07_RosterSeals.j0 k a0 t147 t150 (t151 != t150)) = some r := H
      have A8 := Aside0.mk A80
      clear A80
      have H' := Aside0.mk H
      clear H
      go_wp2_with (first | (go_at_call 6; (with_reducible refine (sluicelaw07_num.calls t148 t151 _ A8.out).mono ?_); rintro e w' ⟨rfl, ⟨nd, rfl⟩⟩))
      go_meet
      case rel => exact ⟨_, ((t151 != t150)), (by first | rfl | (simp; done) | (simp [*]; done)), H', ⟨by first | omega | exact Nat.le_refl _⟩, ⟨by repeat (first | (with_reducible first | exact HB.out | apply below_alloc | apply pw_below_drewN | apply below_drew1) | exact HB.out)⟩⟩
    · rw [if_neg c7] at H
      have c7b0 : (t147.toList == t149.toList) = false := beq_eq_false_iff_ne.mpr c7
      have c7b1 : (t147.toList != t149.toList) = true := bne_iff_ne.mpr c7
      (first | rw [c7b0] | (simp only [i64_w, i32_w]; rw [c7b0]) | skip)
      have H' := Aside0.mk H
      clear H
      go_wp2
      go_meet
      case rel => exact ⟨_, (true), (by first | rfl | (simp; done) | (simp [*]; done)), H', ⟨by first | omega | exact Nat.le_refl _⟩, ⟨by repeat (first | (with_reducible first | exact HB.out | apply below_alloc | apply pw_below_drewN | apply below_drew1) | exact HB.out)⟩⟩
  case rest =>
    clear HC4
    try clear p2
    try clear c3
    try clear c4
    try clear c5
    try clear c7
    try clear c7b0
    try clear c7b1
    obtain ⟨kq, x27_3, rfl, HA, HJ3, HB⟩ := hcut
    cases kq with
    | zero => exact absurd HA.out (by simp [sluicelaw07_RosterSeals.j0])
    | succ kj3 =>
      have H := HA.out
      clear HA
      simp only [sluicelaw07_RosterSeals.j0] at H
      by_cases c9 : x27_3 = true
      · subst c9
        have H1 : (some false) = some r := by rw [if_pos rfl] at H; exact H
        clear H
        have H := H1
        clear H1
        obtain rfl := Option.some.inj H
        go_wp2
        go_ret
        exact ⟨by first | rfl | (simp [errW_none, errW_some] <;> rfl) | (simp [*, errW_none, errW_some] <;> rfl), by repeat (first | (with_reducible first | exact HB.out | apply below_alloc | apply pw_below_drewN | apply below_drew1) | exact HB.out)⟩
      · replace c9 := Bool.eq_false_iff.mpr c9
        subst c9
        have H1 : (if t150 = 0 then ((roster_Unseal.f kj3 t147).bind fun bt152 => ((sluicelaw07_num.f bt152.2).bind fun t154 => (if t154 = 0 then (if 0 ≤ (wrap64 ((t147.size : Int) - 16)) then (if (wrap64 ((t147.size : Int) - 16)) ≤ (t147.size : Int) then (sluicelaw07_RosterSeals.j1 kj3 a0 (bt152.1.toList != (t147.extract 0 ((wrap64 ((t147.size : Int) - 16)) : Int).toNat).toList)) else (none)) else (none)) else (sluicelaw07_RosterSeals.j1 kj3 a0 true)))) else (sluicelaw07_RosterSeals.j2 kj3 a0)) = some r := by rw [if_neg (show ¬ (false = true) by decide)] at H; exact H
        clear H
        have H := H1
        clear H1
        have HC10 := Aside0.mk H
        clear H
        go_upto_if 29 with (fail)
        go_cut [] (fun wc => ∃ (kq : Nat), Aside0 (sluicelaw07_RosterSeals.j2 kq a0 = some r) ∧ Aside0 (kq ≤ kj3) ∧ Aside0 (Below w.heap.size w wc))
        case first =>
          have H := HC10.out
          clear HC10
          by_cases c11 : t150 = 0
          · rw [if_pos c11] at H
            have c11b0 : (t150 == 0) = true := beq_iff_eq.mpr c11
            have c11b1 : (t150 != 0) = false := bne_eq_false_iff_eq.mpr c11
            clear c11
            (first | rw [c11b0] | (simp only [i64_w, i32_w]; rw [c11b0]) | skip)
            replace H := Option.bind_eq_some_iff.mp H
            obtain ⟨⟨t152, t153⟩, A120, H⟩ := H
            replace H : ((sluicelaw07_num.f t153).bind fun t154 => (if t154 = 0 then (if 0 ≤ (wrap64 ((t147.size : Int) - 16)) then (if (wrap64 ((t147.size : Int) - 16)) ≤ (t147.size : Int) then (sluicelaw07_RosterSeals.j1 kj3 a0 (t152.toList != (t147.extract 0 ((wrap64 ((t147.size : Int) - 16)) : Int).toNat).toList)) else (none)) else (none)) else (sluicelaw07_RosterSeals.j1 kj3 a0 true))) = some r := H
            have A12 := Aside0.mk A120
            clear A120
            have HC13 := Aside0.mk H
            clear H
            go_upto_region 7 with (first | ((with_reducible refine gate_callee (f := 7) rfl ?_); refine goesL_ (some 32) rfl rfl Tryd.func7 (by kernel_rfl) rfl #[.string t147] rfl (by (try simp only [List.map_toArray, List.map_cons, List.map_nil]); first | done | rfl | (simp only [List.length_drop, List.length_take]; rfl)) ?_; (with_reducible refine (roster_Unseal.calls kj3 t147 t152 t153 _ A12.out (by first | exact hGQ | ((repeat (first | exact hGQ | apply Glob.GQ.drewN | apply Glob.GQ.drew | apply Glob.GQ.alloc)); done) | exact Glob.GQ.below hGQ (by repeat (first | (with_reducible first | exact HB.out | apply below_alloc | apply pw_below_drewN | apply below_drew1) | exact HB.out))) (by first | exact hGS | ((repeat (first | exact hGS | apply Glob.GS.drewN | apply Glob.GS.drew | apply Glob.GS.alloc)); done) | exact Glob.GS.below hGS (by repeat (first | (with_reducible first | exact HB.out | apply below_alloc | apply pw_below_drewN | apply below_drew1) | exact HB.out)))).mono ?_); rintro e w14 ⟨rfl, hb⟩; refine ⟨_, rfl, ?_⟩; have n0_ := Aside0.mk (below_step (by repeat (first | (with_reducible first | exact HB.out | apply below_alloc | apply pw_below_drewN | apply below_drew1) | exact HB.out)) hb); clear HB; have HB := n0_; clear n0_; (try clear hb); (try clear hb2); (try clear hk); (try clear hi)))
            (try simp only [Act.put, List.setIfInBounds_toArray, List.set_cons_zero, List.set_cons_succ])
            go_cut [46] (fun v46 wc => ∃ (kq : Nat) (x46_12 : Bool), v46 = .bool x46_12 ∧ Aside0 (sluicelaw07_RosterSeals.j1 kq a0 x46_12 = some r) ∧ Aside0 (kq ≤ kj3) ∧ Aside0 (Below w.heap.size w wc))
            case first =>
              have H := HC13.out
              clear HC13
              replace H := Option.bind_eq_some_iff.mp H
              obtain ⟨t154, A150, H⟩ := H
              replace H : (if t154 = 0 then (if 0 ≤ (wrap64 ((t147.size : Int) - 16)) then (if (wrap64 ((t147.size : Int) - 16)) ≤ (t147.size : Int) then (sluicelaw07_RosterSeals.j1 kj3 a0 (t152.toList != (t147.extract 0 ((wrap64 ((t147.size : Int) - 16)) : Int).toNat).toList)) else (none)) else (none)) else (sluicelaw07_RosterSeals.j1 kj3 a0 true)) = some r := H
              have A15 := Aside0.mk A150
              clear A150
              by_cases c16 : t154 = 0
              · rw [if_pos c16] at H
                have c16b0 : (t154 == 0) = true := beq_iff_eq.mpr c16
                have c16b1 : (t154 != 0) = false := bne_eq_false_iff_eq.mpr c16
                clear c16
                (first | rw [c16b0] | (simp only [i64_w, i32_w]; rw [c16b0]) | skip)
                obtain ⟨ji17, hji17⟩ : ∃ j_ : Int, (wrap64 ((t147.size : Int) - 16)) = j_ := ⟨_, rfl⟩
                replace H : (if 0 ≤ (ji17) then (if (ji17) ≤ (t147.size : Int) then (sluicelaw07_RosterSeals.j1 kj3 a0 (t152.toList != (t147.extract 0 ((ji17) : Int).toNat).toList)) else (none)) else (none)) = some r := by first | (rw [hji17] at H; exact H) | (simp only [hji17] at H ⊢; exact H)
                (try rw [hji17] at A15)
                have hji17w : (IntKind.i64.wrap ((t147.size : Int) - 16)) = ji17 := (i64_w _).trans hji17
                by_cases c18 : 0 ≤ (ji17)
                · rw [if_pos c18] at H
                  have c18b0 := eq_true c18
                  have c18b1 : decide (0 ≤ (ji17)) = true := decide_eq_true c18
                  clear c18
                  by_cases c19 : (ji17) ≤ (t147.size : Int)
                  · rw [if_pos c19] at H
                    have c19b0 := eq_true c19
                    have c19b1 : decide ((ji17) ≤ (t147.size : Int)) = true := decide_eq_true c19
                    clear c19
                    have H' := Aside0.mk H
                    clear H
                    go_wp2_with (first | ((with_reducible refine gate_callee (f := 6) rfl ?_); refine goesL_ (some 36) rfl rfl Tryd.func6 (by kernel_rfl) rfl #[.int .i64 t153] rfl (by (try simp only [List.map_toArray, List.map_cons, List.map_nil]); first | done | rfl | (simp only [List.length_drop, List.length_take]; rfl)) ?_; (with_reducible refine (sluicelaw07_num.calls t153 t154 _ A15.out).mono ?_); rintro e w' ⟨rfl, ⟨nd, rfl⟩⟩; refine ⟨_, rfl, ?_⟩))
                    go_meet
                    case rel => exact ⟨_, ((t152.toList != (t147.extract 0 ((ji17) : Int).toNat).toList)), (by first | rfl | (simp; done) | (simp only [← hji17] <;> (first | rfl | simp)) | (simp [*]; done)), H', ⟨by have := HJ3.out; first | omega | exact Nat.le_refl _⟩, ⟨by repeat (first | (with_reducible first | exact HB.out | apply below_alloc | apply pw_below_drewN | apply below_drew1) | exact HB.out)⟩⟩
                  · rw [if_neg c19] at H
                    exact absurd H (by simp)
                · rw [if_neg c18] at H
                  exact absurd H (by simp)
              · rw [if_neg c16] at H
                have c16b0 : (t154 == 0) = false := beq_eq_false_iff_ne.mpr c16
                have c16b1 : (t154 != 0) = true := bne_iff_ne.mpr c16
                (first | rw [c16b0] | (simp only [i64_w, i32_w]; rw [c16b0]) | skip)
                have H' := Aside0.mk H
                clear H
                go_wp2_with (first | ((with_reducible refine gate_callee (f := 6) rfl ?_); refine goesL_ (some 36) rfl rfl Tryd.func6 (by kernel_rfl) rfl #[.int .i64 t153] rfl (by (try simp only [List.map_toArray, List.map_cons, List.map_nil]); first | done | rfl | (simp only [List.length_drop, List.length_take]; rfl)) ?_; (with_reducible refine (sluicelaw07_num.calls t153 t154 _ A15.out).mono ?_); rintro e w' ⟨rfl, ⟨nd, rfl⟩⟩; refine ⟨_, rfl, ?_⟩))
                go_meet
                case rel => exact ⟨_, (true), (by first | rfl | (simp; done) | (simp [*]; done)), H', ⟨by have := HJ3.out; first | omega | exact Nat.le_refl _⟩, ⟨by repeat (first | (with_reducible first | exact HB.out | apply below_alloc | apply pw_below_drewN | apply below_drew1) | exact HB.out)⟩⟩
            case rest =>
              clear HC13
              try clear c1
              try clear p2
              try clear c3
              try clear c4
              try clear c5
              try clear c6
              try clear p6
              try clear c7
              try clear c7b0
              try clear c7b1
              try clear c9
              try clear c11
              try clear c11b0
              try clear c11b1
              try clear c16
              try clear c16b0
              try clear c16b1
              try clear c18
              try clear c18b0
              try clear c18b1
              try clear c19
              try clear c19b0
              try clear c19b1
              try clear p2
              obtain ⟨kq, x46_12, rfl, HA, HJ12, HB⟩ := hcut
              cases kq with
              | zero => exact absurd HA.out (by simp [sluicelaw07_RosterSeals.j1])
              | succ kj12 =>
                have H := HA.out
                clear HA
                simp only [sluicelaw07_RosterSeals.j1] at H
                by_cases c20 : x46_12 = true
                · subst c20
                  have H1 : (some false) = some r := by rw [if_pos rfl] at H; exact H
                  clear H
                  have H := H1
                  clear H1
                  obtain rfl := Option.some.inj H
                  go_wp2
                  go_ret
                  exact ⟨by first | rfl | (simp [errW_none, errW_some] <;> rfl) | (simp [*, errW_none, errW_some] <;> rfl), by repeat (first | (with_reducible first | exact HB.out | apply below_alloc | apply pw_below_drewN | apply below_drew1) | exact HB.out)⟩
                · replace c20 := Bool.eq_false_iff.mpr c20
                  subst c20
                  have H1 : (sluicelaw07_RosterSeals.j2 kj12 a0) = some r := by rw [if_neg (show ¬ (false = true) by decide)] at H; exact H
                  clear H
                  have H := H1
                  clear H1
                  have H' := Aside0.mk H
                  clear H
                  go_wp2
                  go_meet
                  case rel => exact ⟨_, H', ⟨by have := HJ3.out; have := HJ12.out; first | omega | exact Nat.le_refl _⟩, ⟨by repeat (first | (with_reducible first | exact HB.out | apply below_alloc | apply pw_below_drewN | apply below_drew1) | exact HB.out)⟩⟩
          · rw [if_neg c11] at H
            have c11b0 : (t150 == 0) = false := beq_eq_false_iff_ne.mpr c11
            have c11b1 : (t150 != 0) = true := bne_iff_ne.mpr c11
            (first | rw [c11b0] | (simp only [i64_w, i32_w]; rw [c11b0]) | skip)
            have H' := Aside0.mk H
            clear H
            go_wp2
            go_meet
            case rel => exact ⟨_, H', ⟨by have := HJ3.out; first | omega | exact Nat.le_refl _⟩, ⟨by repeat (first | (with_reducible first | exact HB.out | apply below_alloc | apply pw_below_drewN | apply below_drew1) | exact HB.out)⟩⟩
        case rest =>
          clear HC10
          try clear c1
          try clear c2
          try clear p2
          try clear c3
          try clear c4
          try clear c5
          try clear c6
          try clear p6
          try clear c7
          try clear c7b0
          try clear c7b1
          try clear c9
          try clear c11
          try clear c11b0
          try clear c11b1
          try clear c16
          try clear c16b0
          try clear c16b1
          try clear c18
          try clear c18b0
          try clear c18b1
          try clear c19
          try clear c19b0
          try clear c19b1
          try clear c20
          try clear p2
          try clear p6
          obtain ⟨kq, HA, HJ9, HB⟩ := hcut
          cases kq with
          | zero => exact absurd HA.out (by simp [sluicelaw07_RosterSeals.j2])
          | succ kj9 =>
            have H := HA.out
            clear HA
            simp only [sluicelaw07_RosterSeals.j2] at H
            replace H := Option.bind_eq_some_iff.mp H
            obtain ⟨⟨t155, t156⟩, A210, H⟩ := H
            replace H : ((sluiceref07_Unseal.f kj9 a0).bind fun bt157 => (if t155.toList = bt157.1.toList then ((sluicelaw07_num.f t156).bind fun t159 => (some (t159 == bt157.2))) else (some false))) = some r := H
            have A21 := Aside0.mk A210
            clear A210
            replace H := Option.bind_eq_some_iff.mp H
            obtain ⟨⟨t157, t158⟩, A220, H⟩ := H
            replace H : (if t155.toList = t157.toList then ((sluicelaw07_num.f t156).bind fun t159 => (some (t159 == t158))) else (some false)) = some r := H
            have A22 := Aside0.mk A220
            clear A220
            by_cases c23 : t155.toList = t157.toList
            · rw [if_pos c23] at H
              have c23b0 : (t155.toList == t157.toList) = true := beq_iff_eq.mpr c23
              have c23b1 : (t155.toList != t157.toList) = false := bne_eq_false_iff_eq.mpr c23
              clear c23
              replace H := Option.bind_eq_some_iff.mp H
              obtain ⟨t159, A240, H⟩ := H
              replace H : (some (t159 == t158)) = some r := H
              have A24 := Aside0.mk A240
              clear A240
              obtain rfl := Option.some.inj H
              go_wp2_with (first | ((with_reducible refine gate_callee (f := 7) rfl ?_); refine goesL_ (some 49) rfl rfl Tryd.func7 (by kernel_rfl) rfl #[.string a0] rfl (by (try simp only [List.map_toArray, List.map_cons, List.map_nil]); first | done | rfl | (simp only [List.length_drop, List.length_take]; rfl)) ?_; (with_reducible refine (roster_Unseal.calls kj9 a0 t155 t156 _ A21.out (by first | exact hGQ | ((repeat (first | exact hGQ | apply Glob.GQ.drewN | apply Glob.GQ.drew | apply Glob.GQ.alloc)); done) | exact Glob.GQ.below hGQ (by repeat (first | (with_reducible first | exact HB.out | apply below_alloc | apply pw_below_drewN | apply below_drew1) | exact HB.out))) (by first | exact hGS | ((repeat (first | exact hGS | apply Glob.GS.drewN | apply Glob.GS.drew | apply Glob.GS.alloc)); done) | exact Glob.GS.below hGS (by repeat (first | (with_reducible first | exact HB.out | apply below_alloc | apply pw_below_drewN | apply below_drew1) | exact HB.out)))).mono ?_); rintro e w25 ⟨rfl, hb⟩; refine ⟨_, rfl, ?_⟩; have n0_ := Aside0.mk (below_step (by repeat (first | (with_reducible first | exact HB.out | apply below_alloc | apply pw_below_drewN | apply below_drew1) | exact HB.out)) hb); clear HB; have HB := n0_; clear n0_; (try clear hb); (try clear hb2); (try clear hk); (try clear hi)) | ((with_reducible refine gate_callee (f := 8) rfl ?_); refine goesL_ (some 54) rfl rfl Tryd.func8 (by kernel_rfl) rfl #[.string a0] rfl (by (try simp only [List.map_toArray, List.map_cons, List.map_nil]); first | done | rfl | (simp only [List.length_drop, List.length_take]; rfl)) ?_; (with_reducible refine (sluiceref07_Unseal.calls kj9 a0 t157 t158 _ A22.out).mono ?_); rintro e w26 ⟨rfl, hb⟩; refine ⟨_, rfl, ?_⟩; have n0_ := Aside0.mk (below_step (by repeat (first | (with_reducible first | exact HB.out | apply below_alloc | apply pw_below_drewN | apply below_drew1) | exact HB.out)) hb); clear HB; have HB := n0_; clear n0_; (try clear hb); (try clear hb2); (try clear hk); (try clear hi)) | (go_at_call 6; (with_reducible refine (sluicelaw07_num.calls t156 t159 _ A24.out).mono ?_); rintro e w' ⟨rfl, ⟨nd, rfl⟩⟩))
              go_ret
              exact ⟨by first | rfl | (simp [errW_none, errW_some] <;> rfl) | (simp [*, errW_none, errW_some] <;> rfl), by repeat (first | (with_reducible first | exact HB.out | apply below_alloc | apply pw_below_drewN | apply below_drew1) | exact HB.out)⟩
            · rw [if_neg c23] at H
              have c23b0 : (t155.toList == t157.toList) = false := beq_eq_false_iff_ne.mpr c23
              have c23b1 : (t155.toList != t157.toList) = true := bne_iff_ne.mpr c23
              obtain rfl := Option.some.inj H
              go_wp2_with (first | ((with_reducible refine gate_callee (f := 7) rfl ?_); refine goesL_ (some 49) rfl rfl Tryd.func7 (by kernel_rfl) rfl #[.string a0] rfl (by (try simp only [List.map_toArray, List.map_cons, List.map_nil]); first | done | rfl | (simp only [List.length_drop, List.length_take]; rfl)) ?_; (with_reducible refine (roster_Unseal.calls kj9 a0 t155 t156 _ A21.out (by first | exact hGQ | ((repeat (first | exact hGQ | apply Glob.GQ.drewN | apply Glob.GQ.drew | apply Glob.GQ.alloc)); done) | exact Glob.GQ.below hGQ (by repeat (first | (with_reducible first | exact HB.out | apply below_alloc | apply pw_below_drewN | apply below_drew1) | exact HB.out))) (by first | exact hGS | ((repeat (first | exact hGS | apply Glob.GS.drewN | apply Glob.GS.drew | apply Glob.GS.alloc)); done) | exact Glob.GS.below hGS (by repeat (first | (with_reducible first | exact HB.out | apply below_alloc | apply pw_below_drewN | apply below_drew1) | exact HB.out)))).mono ?_); rintro e w27 ⟨rfl, hb⟩; refine ⟨_, rfl, ?_⟩; have n0_ := Aside0.mk (below_step (by repeat (first | (with_reducible first | exact HB.out | apply below_alloc | apply pw_below_drewN | apply below_drew1) | exact HB.out)) hb); clear HB; have HB := n0_; clear n0_; (try clear hb); (try clear hb2); (try clear hk); (try clear hi)) | ((with_reducible refine gate_callee (f := 8) rfl ?_); refine goesL_ (some 54) rfl rfl Tryd.func8 (by kernel_rfl) rfl #[.string a0] rfl (by (try simp only [List.map_toArray, List.map_cons, List.map_nil]); first | done | rfl | (simp only [List.length_drop, List.length_take]; rfl)) ?_; (with_reducible refine (sluiceref07_Unseal.calls kj9 a0 t157 t158 _ A22.out).mono ?_); rintro e w28 ⟨rfl, hb⟩; refine ⟨_, rfl, ?_⟩; have n0_ := Aside0.mk (below_step (by repeat (first | (with_reducible first | exact HB.out | apply below_alloc | apply pw_below_drewN | apply below_drew1) | exact HB.out)) hb); clear HB; have HB := n0_; clear n0_; (try clear hb); (try clear hb2); (try clear hk); (try clear hi)))
              go_ret
              exact ⟨by first | rfl | (simp [errW_none, errW_some] <;> rfl) | (simp [*, errW_none, errW_some] <;> rfl), by repeat (first | (with_reducible first | exact HB.out | apply below_alloc | apply pw_below_drewN | apply below_drew1) | exact HB.out)⟩

/-- THE ONE PURE STATEMENT of sluicelaw07_RosterSeals: yours. -/
def sluicelaw07_RosterSeals.Pure : Prop := ∀ (a0 : ByteArray), a0.size ≤ 140737488351232 → ∃ k, sluicelaw07_RosterSeals.f k a0 = some true
theorem sluicelaw07_RosterSeals.walk (P : sluicelaw07_RosterSeals.Pure) (a0 : ByteArray) (w : World) (w0 : a0.size ≤ 140737488351232) (hGQ : Glob.GQ w) (hGS : Glob.GS w) :
    Calls Tryd.prog 3 #[.string a0] w fun e w' => e = .returned (.bool true) ∧ Below w.heap.size w w' := by
  obtain ⟨k, h⟩ := P a0 w0
  refine (sluicelaw07_RosterSeals.calls k a0 true w h hGQ hGS).mono ?_
  rintro e w' ⟨rfl, hd⟩
  exact ⟨rfl, hd⟩

end Go.Proofs.YtnmhfcfojbfikaaDoor.QRosterSeals
