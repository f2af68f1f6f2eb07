/- What the functions that the statement GrainClasses reaches come to, and that the given program's calls come to it; written by this session's program printx.py (wip/tpl), which runs the kit's print over the translation with additions of its own. No printed file. Conditions: as each theorem says. -/
import Derived.Test.YtdnofpafojjjaaaDoorQGrainClassesx0
import Derived.Test.YtdnofpafojjjaaaDoorQGrainClassesx1
namespace Go.Proofs.YtdnofpafojjjaaaDoor.QGrainClasses
open Go.RowKit Go.Proofs.YtdnofpafojjjaaaDoorW.PrintWords Go.Proofs.YtdnofpafojjjaaaDoorW.PrintLast Go.Proofs.YtdnofpafojjjaaaDoorW.PrintMore
attribute [local go_sem] max2_int min2_int max_two min_two max_three min_three max_four min_four   -- for this text's walks alone
set_option linter.unusedVariables false
set_option linter.unusedSimpArgs false

/-! ### sluicelaw01_GrainClasses: function 6 -/
mutual
def sluicelaw01_GrainClasses.j0 : Nat → Int → Int → Bool → Option (Bool)
  | 0, _, _, _ => none
  | k + 1, x0, x1, x39 => if x39 = true then (some false) else ((grain_OfRank.f k x1).bind fun bt110 => ((sluiceref01_OfRank.f k x1).bind fun bt112 => ((grain_Class.f x0).bind fun t114 => ((sluiceref01_Class.f k x0).bind fun t115 => (if t114 = t115 then ((grain_Rank.f x0).bind fun t116 => ((sluiceref01_Rank.f x0).bind fun t117 => (if t116 = t117 then (if bt110.1 = bt112.1 then ((sluicelaw01_num.f bt110.2).bind fun t118 => (sluicelaw01_GrainClasses.j1 k x0 (t118 != bt112.2))) else (sluicelaw01_GrainClasses.j1 k x0 true)) else (sluicelaw01_GrainClasses.j1 k x0 true)))) else (sluicelaw01_GrainClasses.j1 k x0 true))))))
def sluicelaw01_GrainClasses.j1 : Nat → Int → Bool → Option (Bool)
  | 0, _, _ => none
  | k + 1, x0, x72 => if x72 = true then (some false) else ((grain_Parts.f x0).bind fun bt119 => ((sluiceref01_Parts.f k x0).bind fun bt123 => (if (bt119.1 == bt123.1) = true then (if bt119.2.1 = bt123.2.1 then (if bt119.2.2.1 = bt123.2.2.1 then ((sluicelaw01_num.f bt119.2.2.2).bind fun t127 => (some (t127 == bt123.2.2.2))) else (some false)) else (some false)) else (some false))))
end
def sluicelaw01_GrainClasses.f (k : Nat) (a0 : Int) (a1 : Int) : Option (Bool) := (grain_Float.f a0).bind fun t106 => ((grain_Bits.f t106).bind fun t107 => ((sluiceref01_Class.f k a0).bind fun t108 => (if t108 = 4 then ((sluiceref01_Class.f k t107).bind fun t109 => (sluicelaw01_GrainClasses.j0 k a0 a1 (t109 != 4))) else (if t107 = a0 then (sluicelaw01_GrainClasses.j0 k a0 a1 false) else (sluicelaw01_GrainClasses.j0 k a0 a1 true)))))
theorem sluicelaw01_GrainClasses.mono_l : ∀ k, (∀ y0 y1 y2, LeO (sluicelaw01_GrainClasses.j0 k y0 y1 y2) (sluicelaw01_GrainClasses.j0 (k + 1) y0 y1 y2)) ∧ (∀ y0 y1, LeO (sluicelaw01_GrainClasses.j1 k y0 y1) (sluicelaw01_GrainClasses.j1 (k + 1) y0 y1))
  | 0 => ⟨fun _ _ _ r h => by simp [sluicelaw01_GrainClasses.j0] at h, fun _ _ r h => by simp [sluicelaw01_GrainClasses.j1] at h⟩
  | k + 1 => by
    obtain ⟨ih0, ih1⟩ := sluicelaw01_GrainClasses.mono_l k
    refine ⟨?_, ?_⟩
    · intro y0 y1 y2
      unfold sluicelaw01_GrainClasses.j0
      repeat' first
      | (with_reducible exact ih0 _ _ _)
      | (with_reducible exact ih1 _ _)
      | (with_reducible exact grain_OfRank.mono _ _)
      | (with_reducible exact sluiceref01_Class.mono _ _)
      | (with_reducible exact sluiceref01_OfRank.mono _ _)
      | (with_reducible exact sluiceref01_Parts.mono _ _)
      | (with_reducible exact LeO.refl _)
      | (with_reducible exact LeO.none _)
      | (with_reducible refine LeO.ite ?_ ?_)
      | (with_reducible refine LeO.bind ?_ (fun _ => ?_))
      | exact ih0 _ _ _
      | exact ih1 _ _
      | exact grain_OfRank.mono _ _
      | exact sluiceref01_Class.mono _ _
      | exact sluiceref01_OfRank.mono _ _
      | exact sluiceref01_Parts.mono _ _
      | exact LeO.none _
      | refine LeO.ite ?_ ?_
      | refine LeO.bind ?_ (fun _ => ?_)
    · intro y0 y1
      unfold sluicelaw01_GrainClasses.j1
      repeat' first
      | (with_reducible exact ih0 _ _ _)
      | (with_reducible exact ih1 _ _)
      | (with_reducible exact grain_OfRank.mono _ _)
      | (with_reducible exact sluiceref01_Class.mono _ _)
      | (with_reducible exact sluiceref01_OfRank.mono _ _)
      | (with_reducible exact sluiceref01_Parts.mono _ _)
      | (with_reducible exact LeO.refl _)
      | (with_reducible exact LeO.none _)
      | (with_reducible refine LeO.ite ?_ ?_)
      | (with_reducible refine LeO.bind ?_ (fun _ => ?_))
      | exact ih0 _ _ _
      | exact ih1 _ _
      | exact grain_OfRank.mono _ _
      | exact sluiceref01_Class.mono _ _
      | exact sluiceref01_OfRank.mono _ _
      | exact sluiceref01_Parts.mono _ _
      | exact LeO.none _
      | refine LeO.ite ?_ ?_
      | refine LeO.bind ?_ (fun _ => ?_)
theorem sluicelaw01_GrainClasses.mono : ∀ a0 a1 k, LeO (sluicelaw01_GrainClasses.f k a0 a1) (sluicelaw01_GrainClasses.f (k + 1) a0 a1) := by
  intro a0 a1 k
  obtain ⟨ih0, ih1⟩ := sluicelaw01_GrainClasses.mono_l k
  unfold sluicelaw01_GrainClasses.f
  repeat' first
      | (with_reducible exact ih0 _ _ _)
      | (with_reducible exact ih1 _ _)
      | (with_reducible exact grain_OfRank.mono _ _)
      | (with_reducible exact sluiceref01_Class.mono _ _)
      | (with_reducible exact sluiceref01_OfRank.mono _ _)
      | (with_reducible exact sluiceref01_Parts.mono _ _)
      | (with_reducible exact LeO.refl _)
      | (with_reducible exact LeO.none _)
      | (with_reducible refine LeO.ite ?_ ?_)
      | (with_reducible refine LeO.bind ?_ (fun _ => ?_))
      | exact ih0 _ _ _
      | exact ih1 _ _
      | exact grain_OfRank.mono _ _
      | exact sluiceref01_Class.mono _ _
      | exact sluiceref01_OfRank.mono _ _
      | exact sluiceref01_Parts.mono _ _
      | exact LeO.none _
      | refine LeO.ite ?_ ?_
      | refine LeO.bind ?_ (fun _ => ?_)
set_option maxHeartbeats 8000000 in
set_option maxRecDepth 100000 in
theorem sluicelaw01_GrainClasses.calls (k : Nat) (a0 : Int) (a1 : Int) (r : Bool) (w : World) (h : sluicelaw01_GrainClasses.f k a0 a1 = some r) (hGD : Glob.GD w) :
    Calls Tryd.prog 6 #[.int .u32 a0, .int .i64 a1] w fun e w' => e = .returned (.bool r) ∧ Drawn0 w w' := by
  have H : ((grain_Float.f a0).bind fun t106 => ((grain_Bits.f t106).bind fun t107 => ((sluiceref01_Class.f k a0).bind fun t108 => (if t108 = 4 then ((sluiceref01_Class.f k t107).bind fun t109 => (sluicelaw01_GrainClasses.j0 k a0 a1 (t109 != 4))) else (if t107 = a0 then (sluicelaw01_GrainClasses.j0 k a0 a1 false) else (sluicelaw01_GrainClasses.j0 k a0 a1 true)))))) = some r := h
  clear h
  replace H := Option.bind_eq_some_iff.mp H
  obtain ⟨t106, A30, H⟩ := H
  replace H : ((grain_Bits.f t106).bind fun t107 => ((sluiceref01_Class.f k a0).bind fun t108 => (if t108 = 4 then ((sluiceref01_Class.f k t107).bind fun t109 => (sluicelaw01_GrainClasses.j0 k a0 a1 (t109 != 4))) else (if t107 = a0 then (sluicelaw01_GrainClasses.j0 k a0 a1 false) else (sluicelaw01_GrainClasses.j0 k a0 a1 true))))) = some r := H
  have A3 := Aside0.mk A30
  clear A30
  replace H := Option.bind_eq_some_iff.mp H
  obtain ⟨t107, A40, H⟩ := H
  replace H : ((sluiceref01_Class.f k a0).bind fun t108 => (if t108 = 4 then ((sluiceref01_Class.f k t107).bind fun t109 => (sluicelaw01_GrainClasses.j0 k a0 a1 (t109 != 4))) else (if t107 = a0 then (sluicelaw01_GrainClasses.j0 k a0 a1 false) else (sluicelaw01_GrainClasses.j0 k a0 a1 true)))) = some r := H
  have A4 := Aside0.mk A40
  clear A40
  replace H := Option.bind_eq_some_iff.mp H
  obtain ⟨t108, A50, H⟩ := H
  replace H : (if t108 = 4 then ((sluiceref01_Class.f k t107).bind fun t109 => (sluicelaw01_GrainClasses.j0 k a0 a1 (t109 != 4))) else (if t107 = a0 then (sluicelaw01_GrainClasses.j0 k a0 a1 false) else (sluicelaw01_GrainClasses.j0 k a0 a1 true))) = some r := H
  have A5 := Aside0.mk A50
  clear A50
  have HC6 := Aside0.mk H
  clear H
  go_enter Tryd.func6, Tryd.ntmps6
  go_upto_region 3 with (first | ((with_reducible refine gate_callee (f := 19) rfl ?_); refine goesL_ (some 20) rfl rfl Tryd.func19 (by kernel_rfl) rfl #[.int .u32 a0] rfl (by (try simp only [List.map_toArray, List.map_cons, List.map_nil]); first | done | rfl | (simp only [List.length_drop, List.length_take]; rfl)) ?_; (with_reducible refine (grain_Float.calls a0 t106 _ A3.out).mono ?_); rintro e w' ⟨rfl, ⟨nd, rfl⟩⟩; refine ⟨_, rfl, ?_⟩) | ((with_reducible refine gate_callee (f := 18) rfl ?_); refine goesL_ (some 21) rfl rfl Tryd.func18 (by kernel_rfl) rfl #[.float .f32 t106.toNat] rfl (by (try simp only [List.map_toArray, List.map_cons, List.map_nil]); first | done | rfl | (simp only [List.length_drop, List.length_take]; rfl)) ?_; (with_reducible refine (grain_Bits.calls t106 t107 _ A4.out).mono ?_); rintro e w' ⟨rfl, ⟨nd, rfl⟩⟩; refine ⟨_, rfl, ?_⟩) | ((with_reducible refine gate_callee (f := 20) rfl ?_); refine goesL_ (some 23) rfl rfl Tryd.func20 (by kernel_rfl) rfl #[.int .u32 a0] rfl (by (try simp only [List.map_toArray, List.map_cons, List.map_nil]); first | done | rfl | (simp only [List.length_drop, List.length_take]; rfl)) ?_; (with_reducible refine (sluiceref01_Class.calls k a0 t108 _ A5.out).mono ?_); rintro e w' ⟨rfl, ⟨nd, rfl⟩⟩; refine ⟨_, rfl, ?_⟩))
  (try simp only [Act.put, List.setIfInBounds_toArray, List.set_cons_zero, List.set_cons_succ])
  go_cut [6, 39] (fun v6 v39 wc => ∃ (kq : Nat) (x39_5 : Bool), v39 = .bool x39_5 ∧ Aside0 (sluicelaw01_GrainClasses.j0 kq a0 a1 x39_5 = some r) ∧ Aside0 (kq ≤ k) ∧ Drawn0 w wc)
  case first =>
    have H := HC6.out
    clear HC6
    by_cases c7 : t108 = 4
    · rw [if_pos c7] at H
      have c7b0 : (t108 == 4) = true := beq_iff_eq.mpr c7
      have c7b1 : (t108 != 4) = false := bne_eq_false_iff_eq.mpr c7
      clear c7
      (first | rw [c7b0] | (simp only [i64_w, i32_w]; rw [c7b0]) | skip)
      replace H := Option.bind_eq_some_iff.mp H
      obtain ⟨t109, A80, H⟩ := H
      replace H : (sluicelaw01_GrainClasses.j0 k a0 a1 (t109 != 4)) = some r := H
      have A8 := Aside0.mk A80
      clear A80
      have H' := Aside0.mk H
      clear H
      go_wp2_with (first | (go_at_call 20; (with_reducible refine (sluiceref01_Class.calls k t107 t109 _ A8.out).mono ?_); rintro e w' ⟨rfl, ⟨nd, rfl⟩⟩))
      go_meet
      case rel => exact ⟨_, ((t109 != 4)), (by first | rfl | (simp; done) | (simp [*]; done)), H', ⟨by first | omega | exact Nat.le_refl _⟩, by repeat (first | exact Drawn0.refl _ | apply Drawn0.step)⟩
    · rw [if_neg c7] at H
      have c7b0 : (t108 == 4) = false := beq_eq_false_iff_ne.mpr c7
      have c7b1 : (t108 != 4) = true := bne_iff_ne.mpr c7
      (first | rw [c7b0] | (simp only [i64_w, i32_w]; rw [c7b0]) | skip)
      by_cases c9 : t107 = a0
      · rw [if_pos c9] at H
        have c9b0 : (t107 == a0) = true := beq_iff_eq.mpr c9
        have c9b1 : (t107 != a0) = false := bne_eq_false_iff_eq.mpr c9
        clear c9
        have H' := Aside0.mk H
        clear H
        go_wp2
        go_meet
        case rel => exact ⟨_, (false), (by first | rfl | (simp; done) | (simp [*]; done)), H', ⟨by first | omega | exact Nat.le_refl _⟩, by repeat (first | exact Drawn0.refl _ | apply Drawn0.step)⟩
      · rw [if_neg c9] at H
        have c9b0 : (t107 == a0) = false := beq_eq_false_iff_ne.mpr c9
        have c9b1 : (t107 != a0) = true := bne_iff_ne.mpr c9
        have H' := Aside0.mk H
        clear H
        go_wp2
        go_meet
        case rel => exact ⟨_, (true), (by first | rfl | (simp; done) | (simp [*]; done)), H', ⟨by first | omega | exact Nat.le_refl _⟩, by repeat (first | exact Drawn0.refl _ | apply Drawn0.step)⟩
  case rest =>
    clear HC6
    try clear c1
    try clear c2
    try clear p2
    try clear c6
    try clear c7
    try clear c7b0
    try clear c7b1
    try clear c9
    try clear c9b0
    try clear c9b1
    obtain ⟨kq, x39_5, rfl, HA, HJ5, ⟨mc5, rfl⟩⟩ := hcut
    cases kq with
    | zero => exact absurd HA.out (by simp [sluicelaw01_GrainClasses.j0])
    | succ kj5 =>
      have H := HA.out
      clear HA
      simp only [sluicelaw01_GrainClasses.j0] at H
      by_cases c10 : x39_5 = true
      · subst c10
        have H1 : (some false) = some r := by rw [if_pos rfl] at H; exact H
        clear H
        have H := H1
        clear H1
        obtain rfl := Option.some.inj H
        go_wp2
        go_ret
        exact ⟨by first | rfl | (simp; done) | (simp [*]; done), by repeat (first | exact Drawn0.refl _ | apply Drawn0.step)⟩
      · replace c10 := Bool.eq_false_iff.mpr c10
        subst c10
        have H1 : ((grain_OfRank.f kj5 a1).bind fun bt110 => ((sluiceref01_OfRank.f kj5 a1).bind fun bt112 => ((grain_Class.f a0).bind fun t114 => ((sluiceref01_Class.f kj5 a0).bind fun t115 => (if t114 = t115 then ((grain_Rank.f a0).bind fun t116 => ((sluiceref01_Rank.f a0).bind fun t117 => (if t116 = t117 then (if bt110.1 = bt112.1 then ((sluicelaw01_num.f bt110.2).bind fun t118 => (sluicelaw01_GrainClasses.j1 kj5 a0 (t118 != bt112.2))) else (sluicelaw01_GrainClasses.j1 kj5 a0 true)) else (sluicelaw01_GrainClasses.j1 kj5 a0 true)))) else (sluicelaw01_GrainClasses.j1 kj5 a0 true)))))) = some r := by rw [if_neg (show ¬ (false = true) by decide)] at H; exact H
        clear H
        have H := H1
        clear H1
        replace H := Option.bind_eq_some_iff.mp H
        obtain ⟨⟨t110, t111⟩, A110, H⟩ := H
        replace H : ((sluiceref01_OfRank.f kj5 a1).bind fun bt112 => ((grain_Class.f a0).bind fun t114 => ((sluiceref01_Class.f kj5 a0).bind fun t115 => (if t114 = t115 then ((grain_Rank.f a0).bind fun t116 => ((sluiceref01_Rank.f a0).bind fun t117 => (if t116 = t117 then (if t110 = bt112.1 then ((sluicelaw01_num.f t111).bind fun t118 => (sluicelaw01_GrainClasses.j1 kj5 a0 (t118 != bt112.2))) else (sluicelaw01_GrainClasses.j1 kj5 a0 true)) else (sluicelaw01_GrainClasses.j1 kj5 a0 true)))) else (sluicelaw01_GrainClasses.j1 kj5 a0 true))))) = some r := H
        have A11 := Aside0.mk A110
        clear A110
        replace H := Option.bind_eq_some_iff.mp H
        obtain ⟨⟨t112, t113⟩, A120, H⟩ := H
        replace H : ((grain_Class.f a0).bind fun t114 => ((sluiceref01_Class.f kj5 a0).bind fun t115 => (if t114 = t115 then ((grain_Rank.f a0).bind fun t116 => ((sluiceref01_Rank.f a0).bind fun t117 => (if t116 = t117 then (if t110 = t112 then ((sluicelaw01_num.f t111).bind fun t118 => (sluicelaw01_GrainClasses.j1 kj5 a0 (t118 != t113))) else (sluicelaw01_GrainClasses.j1 kj5 a0 true)) else (sluicelaw01_GrainClasses.j1 kj5 a0 true)))) else (sluicelaw01_GrainClasses.j1 kj5 a0 true)))) = some r := H
        have A12 := Aside0.mk A120
        clear A120
        have HC13 := Aside0.mk H
        clear H
        go_upto_region 7 with (first | ((with_reducible refine gate_callee (f := 21) rfl ?_); refine goesL_ (some 42) rfl rfl Tryd.func21 (by kernel_rfl) rfl #[.int .i64 a1] rfl (by (try simp only [List.map_toArray, List.map_cons, List.map_nil]); first | done | rfl | (simp only [List.length_drop, List.length_take]; rfl)) ?_; (with_reducible refine (grain_OfRank.calls kj5 a1 t110 t111 _ A11.out).mono ?_); rintro e w' ⟨rfl, ⟨nd, rfl⟩⟩; refine ⟨_, rfl, ?_⟩) | ((with_reducible refine gate_callee (f := 22) rfl ?_); refine goesL_ (some 47) rfl rfl Tryd.func22 (by kernel_rfl) rfl #[.int .i64 a1] rfl (by (try simp only [List.map_toArray, List.map_cons, List.map_nil]); first | done | rfl | (simp only [List.length_drop, List.length_take]; rfl)) ?_; (with_reducible refine (sluiceref01_OfRank.calls kj5 a1 t112 t113 _ A12.out).mono ?_); rintro e w' ⟨rfl, ⟨nd, rfl⟩⟩; refine ⟨_, rfl, ?_⟩))
        (try simp only [Act.put, List.setIfInBounds_toArray, List.set_cons_zero, List.set_cons_succ])
        go_cut [72] (fun v72 wc => ∃ (kq : Nat) (x72_12 : Bool), v72 = .bool x72_12 ∧ Aside0 (sluicelaw01_GrainClasses.j1 kq a0 x72_12 = some r) ∧ Aside0 (kq ≤ kj5) ∧ Drawn0 w wc)
        case first =>
          have H := HC13.out
          clear HC13
          replace H := Option.bind_eq_some_iff.mp H
          obtain ⟨t114, A140, H⟩ := H
          replace H : ((sluiceref01_Class.f kj5 a0).bind fun t115 => (if t114 = t115 then ((grain_Rank.f a0).bind fun t116 => ((sluiceref01_Rank.f a0).bind fun t117 => (if t116 = t117 then (if t110 = t112 then ((sluicelaw01_num.f t111).bind fun t118 => (sluicelaw01_GrainClasses.j1 kj5 a0 (t118 != t113))) else (sluicelaw01_GrainClasses.j1 kj5 a0 true)) else (sluicelaw01_GrainClasses.j1 kj5 a0 true)))) else (sluicelaw01_GrainClasses.j1 kj5 a0 true))) = some r := H
          have A14 := Aside0.mk A140
          clear A140
          replace H := Option.bind_eq_some_iff.mp H
          obtain ⟨t115, A150, H⟩ := H
          replace H : (if t114 = t115 then ((grain_Rank.f a0).bind fun t116 => ((sluiceref01_Rank.f a0).bind fun t117 => (if t116 = t117 then (if t110 = t112 then ((sluicelaw01_num.f t111).bind fun t118 => (sluicelaw01_GrainClasses.j1 kj5 a0 (t118 != t113))) else (sluicelaw01_GrainClasses.j1 kj5 a0 true)) else (sluicelaw01_GrainClasses.j1 kj5 a0 true)))) else (sluicelaw01_GrainClasses.j1 kj5 a0 true)) = some r := H
          have A15 := Aside0.mk A150
          clear A150
          by_cases c16 : t114 = t115
          · rw [if_pos c16] at H
            have c16b0 : (t114 == t115) = true := beq_iff_eq.mpr c16
            have c16b1 : (t114 != t115) = false := bne_eq_false_iff_eq.mpr c16
            clear c16
            (first | rw [c16b0] | (simp only [i64_w, i32_w]; rw [c16b0]) | skip)
            replace H := Option.bind_eq_some_iff.mp H
            obtain ⟨t116, A170, H⟩ := H
            replace H : ((sluiceref01_Rank.f a0).bind fun t117 => (if t116 = t117 then (if t110 = t112 then ((sluicelaw01_num.f t111).bind fun t118 => (sluicelaw01_GrainClasses.j1 kj5 a0 (t118 != t113))) else (sluicelaw01_GrainClasses.j1 kj5 a0 true)) else (sluicelaw01_GrainClasses.j1 kj5 a0 true))) = some r := H
            have A17 := Aside0.mk A170
            clear A170
            replace H := Option.bind_eq_some_iff.mp H
            obtain ⟨t117, A180, H⟩ := H
            replace H : (if t116 = t117 then (if t110 = t112 then ((sluicelaw01_num.f t111).bind fun t118 => (sluicelaw01_GrainClasses.j1 kj5 a0 (t118 != t113))) else (sluicelaw01_GrainClasses.j1 kj5 a0 true)) else (sluicelaw01_GrainClasses.j1 kj5 a0 true)) = some r := H
            have A18 := Aside0.mk A180
            clear A180
            by_cases c19 : t116 = t117
            · rw [if_pos c19] at H
              have c19b0 : (t116 == t117) = true := beq_iff_eq.mpr c19
              have c19b1 : (t116 != t117) = false := bne_eq_false_iff_eq.mpr c19
              clear c19
              by_cases c20 : t110 = t112
              · rw [if_pos c20] at H
                have c20b0 : (t110 == t112) = true := beq_iff_eq.mpr c20
                have c20b1 : (t110 != t112) = false := bne_eq_false_iff_eq.mpr c20
                clear c20
                replace H := Option.bind_eq_some_iff.mp H
                obtain ⟨t118, A210, H⟩ := H
                replace H : (sluicelaw01_GrainClasses.j1 kj5 a0 (t118 != t113)) = some r := H
                have A21 := Aside0.mk A210
                clear A210
                have H' := Aside0.mk H
                clear H
                go_wp2_with (first | ((with_reducible refine gate_callee (f := 23) rfl ?_); refine goesL_ (some 51) rfl rfl Tryd.func23 (by kernel_rfl) rfl #[.int .u32 a0] rfl (by (try simp only [List.map_toArray, List.map_cons, List.map_nil]); first | done | rfl | (simp only [List.length_drop, List.length_take]; rfl)) ?_; (with_reducible refine (grain_Class.calls a0 t114 _ A14.out).mono ?_); rintro e w' ⟨rfl, ⟨nd, rfl⟩⟩; refine ⟨_, rfl, ?_⟩) | ((with_reducible refine gate_callee (f := 20) rfl ?_); refine goesL_ (some 53) rfl rfl Tryd.func20 (by kernel_rfl) rfl #[.int .u32 a0] rfl (by (try simp only [List.map_toArray, List.map_cons, List.map_nil]); first | done | rfl | (simp only [List.length_drop, List.length_take]; rfl)) ?_; (with_reducible refine (sluiceref01_Class.calls kj5 a0 t115 _ A15.out).mono ?_); rintro e w' ⟨rfl, ⟨nd, rfl⟩⟩; refine ⟨_, rfl, ?_⟩) | (go_at_call 24; (with_reducible refine (grain_Rank.calls a0 t116 _ A17.out).mono ?_); rintro e w' ⟨rfl, ⟨nd, rfl⟩⟩) | (go_at_call 25; (with_reducible refine (sluiceref01_Rank.calls a0 t117 _ A18.out).mono ?_); rintro e w' ⟨rfl, ⟨nd, rfl⟩⟩) | (go_at_call 17; (with_reducible refine (sluicelaw01_num.calls t111 t118 _ A21.out).mono ?_); rintro e w' ⟨rfl, ⟨nd, rfl⟩⟩))
                go_meet
                case rel => exact ⟨_, ((t118 != t113)), (by first | rfl | (simp; done) | (simp [*]; done)), H', ⟨by have := HJ5.out; first | omega | exact Nat.le_refl _⟩, by repeat (first | exact Drawn0.refl _ | apply Drawn0.step)⟩
              · rw [if_neg c20] at H
                have c20b0 : (t110 == t112) = false := beq_eq_false_iff_ne.mpr c20
                have c20b1 : (t110 != t112) = true := bne_iff_ne.mpr c20
                have H' := Aside0.mk H
                clear H
                go_wp2_with (first | ((with_reducible refine gate_callee (f := 23) rfl ?_); refine goesL_ (some 51) rfl rfl Tryd.func23 (by kernel_rfl) rfl #[.int .u32 a0] rfl (by (try simp only [List.map_toArray, List.map_cons, List.map_nil]); first | done | rfl | (simp only [List.length_drop, List.length_take]; rfl)) ?_; (with_reducible refine (grain_Class.calls a0 t114 _ A14.out).mono ?_); rintro e w' ⟨rfl, ⟨nd, rfl⟩⟩; refine ⟨_, rfl, ?_⟩) | ((with_reducible refine gate_callee (f := 20) rfl ?_); refine goesL_ (some 53) rfl rfl Tryd.func20 (by kernel_rfl) rfl #[.int .u32 a0] rfl (by (try simp only [List.map_toArray, List.map_cons, List.map_nil]); first | done | rfl | (simp only [List.length_drop, List.length_take]; rfl)) ?_; (with_reducible refine (sluiceref01_Class.calls kj5 a0 t115 _ A15.out).mono ?_); rintro e w' ⟨rfl, ⟨nd, rfl⟩⟩; refine ⟨_, rfl, ?_⟩) | (go_at_call 24; (with_reducible refine (grain_Rank.calls a0 t116 _ A17.out).mono ?_); rintro e w' ⟨rfl, ⟨nd, rfl⟩⟩) | (go_at_call 25; (with_reducible refine (sluiceref01_Rank.calls a0 t117 _ A18.out).mono ?_); rintro e w' ⟨rfl, ⟨nd, rfl⟩⟩))
                go_meet
                case rel => exact ⟨_, (true), (by first | rfl | (simp; done) | (simp [*]; done)), H', ⟨by have := HJ5.out; first | omega | exact Nat.le_refl _⟩, by repeat (first | exact Drawn0.refl _ | apply Drawn0.step)⟩
            · rw [if_neg c19] at H
              have c19b0 : (t116 == t117) = false := beq_eq_false_iff_ne.mpr c19
              have c19b1 : (t116 != t117) = true := bne_iff_ne.mpr c19
              have H' := Aside0.mk H
              clear H
              go_wp2_with (first | ((with_reducible refine gate_callee (f := 23) rfl ?_); refine goesL_ (some 51) rfl rfl Tryd.func23 (by kernel_rfl) rfl #[.int .u32 a0] rfl (by (try simp only [List.map_toArray, List.map_cons, List.map_nil]); first | done | rfl | (simp only [List.length_drop, List.length_take]; rfl)) ?_; (with_reducible refine (grain_Class.calls a0 t114 _ A14.out).mono ?_); rintro e w' ⟨rfl, ⟨nd, rfl⟩⟩; refine ⟨_, rfl, ?_⟩) | ((with_reducible refine gate_callee (f := 20) rfl ?_); refine goesL_ (some 53) rfl rfl Tryd.func20 (by kernel_rfl) rfl #[.int .u32 a0] rfl (by (try simp only [List.map_toArray, List.map_cons, List.map_nil]); first | done | rfl | (simp only [List.length_drop, List.length_take]; rfl)) ?_; (with_reducible refine (sluiceref01_Class.calls kj5 a0 t115 _ A15.out).mono ?_); rintro e w' ⟨rfl, ⟨nd, rfl⟩⟩; refine ⟨_, rfl, ?_⟩) | (go_at_call 24; (with_reducible refine (grain_Rank.calls a0 t116 _ A17.out).mono ?_); rintro e w' ⟨rfl, ⟨nd, rfl⟩⟩) | (go_at_call 25; (with_reducible refine (sluiceref01_Rank.calls a0 t117 _ A18.out).mono ?_); rintro e w' ⟨rfl, ⟨nd, rfl⟩⟩))
              go_meet
              case rel => exact ⟨_, (true), (by first | rfl | (simp; done) | (simp [*]; done)), H', ⟨by have := HJ5.out; first | omega | exact Nat.le_refl _⟩, by repeat (first | exact Drawn0.refl _ | apply Drawn0.step)⟩
          · rw [if_neg c16] at H
            have c16b0 : (t114 == t115) = false := beq_eq_false_iff_ne.mpr c16
            have c16b1 : (t114 != t115) = true := bne_iff_ne.mpr c16
            (first | rw [c16b0] | (simp only [i64_w, i32_w]; rw [c16b0]) | skip)
            have H' := Aside0.mk H
            clear H
            go_wp2_with (first | ((with_reducible refine gate_callee (f := 23) rfl ?_); refine goesL_ (some 51) rfl rfl Tryd.func23 (by kernel_rfl) rfl #[.int .u32 a0] rfl (by (try simp only [List.map_toArray, List.map_cons, List.map_nil]); first | done | rfl | (simp only [List.length_drop, List.length_take]; rfl)) ?_; (with_reducible refine (grain_Class.calls a0 t114 _ A14.out).mono ?_); rintro e w' ⟨rfl, ⟨nd, rfl⟩⟩; refine ⟨_, rfl, ?_⟩) | ((with_reducible refine gate_callee (f := 20) rfl ?_); refine goesL_ (some 53) rfl rfl Tryd.func20 (by kernel_rfl) rfl #[.int .u32 a0] rfl (by (try simp only [List.map_toArray, List.map_cons, List.map_nil]); first | done | rfl | (simp only [List.length_drop, List.length_take]; rfl)) ?_; (with_reducible refine (sluiceref01_Class.calls kj5 a0 t115 _ A15.out).mono ?_); rintro e w' ⟨rfl, ⟨nd, rfl⟩⟩; refine ⟨_, rfl, ?_⟩))
            go_meet
            case rel => exact ⟨_, (true), (by first | rfl | (simp; done) | (simp [*]; done)), H', ⟨by have := HJ5.out; first | omega | exact Nat.le_refl _⟩, by repeat (first | exact Drawn0.refl _ | apply Drawn0.step)⟩
        case rest =>
          clear HC13
          try clear c1
          try clear c2
          try clear p2
          try clear c5
          try clear c6
          try clear c7
          try clear c7b0
          try clear c7b1
          try clear c9
          try clear c9b0
          try clear c9b1
          try clear c10
          try clear c16
          try clear c16b0
          try clear c16b1
          try clear c18
          try clear c19
          try clear c19b0
          try clear c19b1
          try clear c20
          try clear c20b0
          try clear c20b1
          try clear c21
          try clear p2
          obtain ⟨kq, x72_12, rfl, HA, HJ12, ⟨mc12, rfl⟩⟩ := hcut
          cases kq with
          | zero => exact absurd HA.out (by simp [sluicelaw01_GrainClasses.j1])
          | succ kj12 =>
            have H := HA.out
            clear HA
            simp only [sluicelaw01_GrainClasses.j1] at H
            by_cases c22 : x72_12 = true
            · subst c22
              have H1 : (some false) = some r := by rw [if_pos rfl] at H; exact H
              clear H
              have H := H1
              clear H1
              obtain rfl := Option.some.inj H
              go_wp2
              go_ret
              exact ⟨by first | rfl | (simp; done) | (simp [*]; done), by repeat (first | exact Drawn0.refl _ | apply Drawn0.step)⟩
            · replace c22 := Bool.eq_false_iff.mpr c22
              subst c22
              have H1 : ((grain_Parts.f a0).bind fun bt119 => ((sluiceref01_Parts.f kj12 a0).bind fun bt123 => (if (bt119.1 == bt123.1) = true then (if bt119.2.1 = bt123.2.1 then (if bt119.2.2.1 = bt123.2.2.1 then ((sluicelaw01_num.f bt119.2.2.2).bind fun t127 => (some (t127 == bt123.2.2.2))) else (some false)) else (some false)) else (some false)))) = some r := by rw [if_neg (show ¬ (false = true) by decide)] at H; exact H
              clear H
              have H := H1
              clear H1
              replace H := Option.bind_eq_some_iff.mp H
              obtain ⟨⟨t119, t120, t121, t122⟩, A230, H⟩ := H
              replace H : ((sluiceref01_Parts.f kj12 a0).bind fun bt123 => (if (t119 == bt123.1) = true then (if t120 = bt123.2.1 then (if t121 = bt123.2.2.1 then ((sluicelaw01_num.f t122).bind fun t127 => (some (t127 == bt123.2.2.2))) else (some false)) else (some false)) else (some false))) = some r := H
              have A23 := Aside0.mk A230
              clear A230
              replace H := Option.bind_eq_some_iff.mp H
              obtain ⟨⟨t123, t124, t125, t126⟩, A240, H⟩ := H
              replace H : (if (t119 == t123) = true then (if t120 = t124 then (if t121 = t125 then ((sluicelaw01_num.f t122).bind fun t127 => (some (t127 == t126))) else (some false)) else (some false)) else (some false)) = some r := H
              have A24 := Aside0.mk A240
              clear A240
              by_cases c25 : (t119 == t123) = true
              · rw [if_pos c25] at H
                have c25b0 : (t119 == t123) = true := c25
                (try (have c25b1 : decide (t119 = t123) = true := by simpa using c25))
                (try (have c25b2 : (t119 == t123) = true := by simpa using c25))
                clear c25
                by_cases c26 : t120 = t124
                · rw [if_pos c26] at H
                  have c26b0 : (t120 == t124) = true := beq_iff_eq.mpr c26
                  have c26b1 : (t120 != t124) = false := bne_eq_false_iff_eq.mpr c26
                  clear c26
                  by_cases c27 : t121 = t125
                  · rw [if_pos c27] at H
                    have c27b0 : (t121 == t125) = true := beq_iff_eq.mpr c27
                    have c27b1 : (t121 != t125) = false := bne_eq_false_iff_eq.mpr c27
                    clear c27
                    replace H := Option.bind_eq_some_iff.mp H
                    obtain ⟨t127, A280, H⟩ := H
                    replace H : (some (t127 == t126)) = some r := H
                    have A28 := Aside0.mk A280
                    clear A280
                    obtain rfl := Option.some.inj H
                    go_wp2_with (first | ((with_reducible refine gate_callee (f := 26) rfl ?_); refine goesL_ (some 75) rfl rfl Tryd.func26 (by kernel_rfl) rfl #[.int .u32 a0] rfl (by (try simp only [List.map_toArray, List.map_cons, List.map_nil]); first | done | rfl | (simp only [List.length_drop, List.length_take]; rfl)) ?_; (with_reducible refine (grain_Parts.calls a0 t119 t120 t121 t122 _ A23.out (by first | exact hGD | ((repeat (first | exact hGD | apply Glob.GD.drewN | apply Glob.GD.drew | apply Glob.GD.alloc)); done) | exact Glob.GD.below hGD (by repeat (first | (with_reducible first | exact HB.out | apply below_alloc | apply pw_below_drewN | apply below_drew1) | exact HB.out)))).mono ?_); rintro e w' ⟨rfl, ⟨nd, rfl⟩⟩; refine ⟨_, rfl, ?_⟩) | ((with_reducible refine gate_callee (f := 27) rfl ?_); refine goesL_ (some 82) rfl rfl Tryd.func27 (by kernel_rfl) rfl #[.int .u32 a0] rfl (by (try simp only [List.map_toArray, List.map_cons, List.map_nil]); first | done | rfl | (simp only [List.length_drop, List.length_take]; rfl)) ?_; (with_reducible refine (sluiceref01_Parts.calls kj12 a0 t123 t124 t125 t126 _ A24.out).mono ?_); rintro e w' ⟨rfl, ⟨nd, rfl⟩⟩; refine ⟨_, rfl, ?_⟩) | (go_at_call 17; (with_reducible refine (sluicelaw01_num.calls t122 t127 _ A28.out).mono ?_); rintro e w' ⟨rfl, ⟨nd, rfl⟩⟩))
                    go_ret
                    exact ⟨by first | rfl | (simp; done) | (simp [*]; done), by repeat (first | exact Drawn0.refl _ | apply Drawn0.step)⟩
                  · rw [if_neg c27] at H
                    have c27b0 : (t121 == t125) = false := beq_eq_false_iff_ne.mpr c27
                    have c27b1 : (t121 != t125) = true := bne_iff_ne.mpr c27
                    obtain rfl := Option.some.inj H
                    go_wp2_with (first | ((with_reducible refine gate_callee (f := 26) rfl ?_); refine goesL_ (some 75) rfl rfl Tryd.func26 (by kernel_rfl) rfl #[.int .u32 a0] rfl (by (try simp only [List.map_toArray, List.map_cons, List.map_nil]); first | done | rfl | (simp only [List.length_drop, List.length_take]; rfl)) ?_; (with_reducible refine (grain_Parts.calls a0 t119 t120 t121 t122 _ A23.out (by first | exact hGD | ((repeat (first | exact hGD | apply Glob.GD.drewN | apply Glob.GD.drew | apply Glob.GD.alloc)); done) | exact Glob.GD.below hGD (by repeat (first | (with_reducible first | exact HB.out | apply below_alloc | apply pw_below_drewN | apply below_drew1) | exact HB.out)))).mono ?_); rintro e w' ⟨rfl, ⟨nd, rfl⟩⟩; refine ⟨_, rfl, ?_⟩) | ((with_reducible refine gate_callee (f := 27) rfl ?_); refine goesL_ (some 82) rfl rfl Tryd.func27 (by kernel_rfl) rfl #[.int .u32 a0] rfl (by (try simp only [List.map_toArray, List.map_cons, List.map_nil]); first | done | rfl | (simp only [List.length_drop, List.length_take]; rfl)) ?_; (with_reducible refine (sluiceref01_Parts.calls kj12 a0 t123 t124 t125 t126 _ A24.out).mono ?_); rintro e w' ⟨rfl, ⟨nd, rfl⟩⟩; refine ⟨_, rfl, ?_⟩))
                    go_ret
                    exact ⟨by first | rfl | (simp; done) | (simp [*]; done), by repeat (first | exact Drawn0.refl _ | apply Drawn0.step)⟩
                · rw [if_neg c26] at H
                  have c26b0 : (t120 == t124) = false := beq_eq_false_iff_ne.mpr c26
                  have c26b1 : (t120 != t124) = true := bne_iff_ne.mpr c26
                  obtain rfl := Option.some.inj H
                  go_wp2_with (first | ((with_reducible refine gate_callee (f := 26) rfl ?_); refine goesL_ (some 75) rfl rfl Tryd.func26 (by kernel_rfl) rfl #[.int .u32 a0] rfl (by (try simp only [List.map_toArray, List.map_cons, List.map_nil]); first | done | rfl | (simp only [List.length_drop, List.length_take]; rfl)) ?_; (with_reducible refine (grain_Parts.calls a0 t119 t120 t121 t122 _ A23.out (by first | exact hGD | ((repeat (first | exact hGD | apply Glob.GD.drewN | apply Glob.GD.drew | apply Glob.GD.alloc)); done) | exact Glob.GD.below hGD (by repeat (first | (with_reducible first | exact HB.out | apply below_alloc | apply pw_below_drewN | apply below_drew1) | exact HB.out)))).mono ?_); rintro e w' ⟨rfl, ⟨nd, rfl⟩⟩; refine ⟨_, rfl, ?_⟩) | ((with_reducible refine gate_callee (f := 27) rfl ?_); refine goesL_ (some 82) rfl rfl Tryd.func27 (by kernel_rfl) rfl #[.int .u32 a0] rfl (by (try simp only [List.map_toArray, List.map_cons, List.map_nil]); first | done | rfl | (simp only [List.length_drop, List.length_take]; rfl)) ?_; (with_reducible refine (sluiceref01_Parts.calls kj12 a0 t123 t124 t125 t126 _ A24.out).mono ?_); rintro e w' ⟨rfl, ⟨nd, rfl⟩⟩; refine ⟨_, rfl, ?_⟩))
                  go_ret
                  exact ⟨by first | rfl | (simp; done) | (simp [*]; done), by repeat (first | exact Drawn0.refl _ | apply Drawn0.step)⟩
              · rw [if_neg c25] at H
                have c25b0 : (t119 == t123) = false := by simpa using c25
                (try (have c25b1 : decide (t119 = t123) = false := by simpa using c25))
                (try (have c25b2 : (t119 == t123) = false := by simpa using c25))
                (try (have c25b3 : ¬ (t119 = t123) := by simpa using c25))
                clear c25
                obtain rfl := Option.some.inj H
                go_wp2_with (first | ((with_reducible refine gate_callee (f := 26) rfl ?_); refine goesL_ (some 75) rfl rfl Tryd.func26 (by kernel_rfl) rfl #[.int .u32 a0] rfl (by (try simp only [List.map_toArray, List.map_cons, List.map_nil]); first | done | rfl | (simp only [List.length_drop, List.length_take]; rfl)) ?_; (with_reducible refine (grain_Parts.calls a0 t119 t120 t121 t122 _ A23.out (by first | exact hGD | ((repeat (first | exact hGD | apply Glob.GD.drewN | apply Glob.GD.drew | apply Glob.GD.alloc)); done) | exact Glob.GD.below hGD (by repeat (first | (with_reducible first | exact HB.out | apply below_alloc | apply pw_below_drewN | apply below_drew1) | exact HB.out)))).mono ?_); rintro e w' ⟨rfl, ⟨nd, rfl⟩⟩; refine ⟨_, rfl, ?_⟩) | ((with_reducible refine gate_callee (f := 27) rfl ?_); refine goesL_ (some 82) rfl rfl Tryd.func27 (by kernel_rfl) rfl #[.int .u32 a0] rfl (by (try simp only [List.map_toArray, List.map_cons, List.map_nil]); first | done | rfl | (simp only [List.length_drop, List.length_take]; rfl)) ?_; (with_reducible refine (sluiceref01_Parts.calls kj12 a0 t123 t124 t125 t126 _ A24.out).mono ?_); rintro e w' ⟨rfl, ⟨nd, rfl⟩⟩; refine ⟨_, rfl, ?_⟩))
                go_ret
                exact ⟨by first | rfl | (simp; done) | (simp [*]; done), by repeat (first | exact Drawn0.refl _ | apply Drawn0.step)⟩

/-- THE ONE PURE STATEMENT of sluicelaw01_GrainClasses: yours. -/
def sluicelaw01_GrainClasses.Pure : Prop := ∀ (a0 : Int) (a1 : Int), (Lit.int .u32 a0).wf = true → (Lit.int .i64 a1).wf = true → ∃ k, sluicelaw01_GrainClasses.f k a0 a1 = some true
theorem sluicelaw01_GrainClasses.walk (P : sluicelaw01_GrainClasses.Pure) (a0 : Int) (a1 : Int) (w : World) (w0 : (Lit.int .u32 a0).wf = true) (w1 : (Lit.int .i64 a1).wf = true) (hGD : Glob.GD w) :
    Calls Tryd.prog 6 #[.int .u32 a0, .int .i64 a1] w fun e w' => e = .returned (.bool true) ∧ Below w.heap.size w w' := by
  obtain ⟨k, h⟩ := P a0 a1 w0 w1
  refine (sluicelaw01_GrainClasses.calls k a0 a1 true w h hGD).mono ?_
  rintro e w' ⟨rfl, hd⟩
  exact ⟨rfl, hd.below⟩

end Go.Proofs.YtdnofpafojjjaaaDoor.QGrainClasses
