/- What the functions that the statement GrainWholes reaches come to, and that the given program's calls come to it; written by this session's program printx.py (wip/tpl), which runs the kit's print over the translation with additions of its own. No printed file. Conditions: as each theorem says. -/
import Derived.Test.YtdnofpafojjjaaaQGrainWholesx0
import Derived.Test.YtdnofpafojjjaaaQGrainWholesx1
import Derived.Test.YtdnofpafojjjaaaQGrainWholesx2
import Derived.Test.YtdnofpafojjjaaaQGrainWholesx3
import Derived.Test.YtdnofpafojjjaaaQGrainWholesx4
import Derived.Test.YtdnofpafojjjaaaQGrainWholesx6
import Derived.Test.YtdnofpafojjjaaaQGrainWholesx7
import Derived.Test.YtdnofpafojjjaaaQGrainWholesx8
import Derived.Test.YtdnofpafojjjaaaQGrainWholesx9
import Derived.Test.YtdnofpafojjjaaaQGrainWholesx10
namespace Go.Proofs.Ytdnofpafojjjaaa.QGrainWholes
open Go.RowKit Go.Proofs.YtdnofpafojjjaaaW.PrintWords Go.Proofs.YtdnofpafojjjaaaW.PrintLast Go.Proofs.YtdnofpafojjjaaaW.PrintMore
attribute [local go_sem] max2_int min2_int max_two min_two max_three min_three max_four min_four   -- for this text's walks alone
set_option linter.unusedVariables false
set_option linter.unusedSimpArgs false

/-! ### sluicelaw01_GrainWholes: function 7 -/
mutual
def sluicelaw01_GrainWholes.j0 : Nat → Int → Int → Bool → Option (Bool)
  | 0, _, _, _ => none
  | k + 1, x0, x1, x29 => if x29 = true then (some false) else ((grain_Sub.f x0 x1).bind fun bt118 => ((sluiceref01_Sub.f x0 x1).bind fun bt120 => (if bt118.1 = bt120.1 then ((sluicelaw01_num.f bt118.2).bind fun t122 => (sluicelaw01_GrainWholes.j1 k x0 x1 (t122 != bt120.2))) else (sluicelaw01_GrainWholes.j1 k x0 x1 true))))
def sluicelaw01_GrainWholes.j1 : Nat → Int → Int → Bool → Option (Bool)
  | 0, _, _, _ => none
  | k + 1, x0, x1, x50 => if x50 = true then (some false) else ((grain_Mul.f k x0 x1).bind fun bt123 => ((sluiceref01_Mul.f k x0 x1).bind fun bt125 => (if bt123.1 = bt125.1 then ((sluicelaw01_num.f bt123.2).bind fun t127 => (sluicelaw01_GrainWholes.j2 k x0 x1 (t127 != bt125.2))) else (sluicelaw01_GrainWholes.j2 k x0 x1 true))))
def sluicelaw01_GrainWholes.j2 : Nat → Int → Int → Bool → Option (Bool)
  | 0, _, _, _ => none
  | k + 1, x0, x1, x71 => if x71 = true then (some false) else ((grain_Quo.f x0 x1).bind fun bt128 => ((sluiceref01_Quo.f x0 x1).bind fun bt130 => (if bt128.1 = bt130.1 then ((sluicelaw01_num.f bt128.2).bind fun t132 => (sluicelaw01_GrainWholes.j3 k x0 x1 (t132 != bt130.2))) else (sluicelaw01_GrainWholes.j3 k x0 x1 true))))
def sluicelaw01_GrainWholes.j3 : Nat → Int → Int → Bool → Option (Bool)
  | 0, _, _, _ => none
  | k + 1, x0, x1, x92 => if x92 = true then (some false) else ((grain_Rem.f x0 x1).bind fun bt133 => ((sluiceref01_Rem.f x0 x1).bind fun bt135 => (if bt133.1 = bt135.1 then ((sluicelaw01_num.f bt133.2).bind fun t137 => (sluicelaw01_GrainWholes.j4 k x0 (t137 != bt135.2))) else (sluicelaw01_GrainWholes.j4 k x0 true))))
def sluicelaw01_GrainWholes.j4 : Nat → Int → Bool → Option (Bool)
  | 0, _, _ => none
  | k + 1, x0, x113 => if x113 = true then (some false) else ((grain_Neg.f x0).bind fun bt138 => ((sluiceref01_Neg.f x0).bind fun bt140 => (if bt138.1 = bt140.1 then ((sluicelaw01_num.f bt138.2).bind fun t142 => (some (t142 == bt140.2))) else (some false))))
end
def sluicelaw01_GrainWholes.f (k : Nat) (a0 : Int) (a1 : Int) : Option (Bool) := (grain_Add.f a0 a1).bind fun bt113 => ((sluiceref01_Add.f a0 a1).bind fun bt115 => (if bt113.1 = bt115.1 then ((sluicelaw01_num.f bt113.2).bind fun t117 => (sluicelaw01_GrainWholes.j0 k a0 a1 (t117 != bt115.2))) else (sluicelaw01_GrainWholes.j0 k a0 a1 true)))
theorem sluicelaw01_GrainWholes.mono_l : ∀ k, (∀ y0 y1 y2, LeO (sluicelaw01_GrainWholes.j0 k y0 y1 y2) (sluicelaw01_GrainWholes.j0 (k + 1) y0 y1 y2)) ∧ (∀ y0 y1 y2, LeO (sluicelaw01_GrainWholes.j1 k y0 y1 y2) (sluicelaw01_GrainWholes.j1 (k + 1) y0 y1 y2)) ∧ (∀ y0 y1 y2, LeO (sluicelaw01_GrainWholes.j2 k y0 y1 y2) (sluicelaw01_GrainWholes.j2 (k + 1) y0 y1 y2)) ∧ (∀ y0 y1 y2, LeO (sluicelaw01_GrainWholes.j3 k y0 y1 y2) (sluicelaw01_GrainWholes.j3 (k + 1) y0 y1 y2)) ∧ (∀ y0 y1, LeO (sluicelaw01_GrainWholes.j4 k y0 y1) (sluicelaw01_GrainWholes.j4 (k + 1) y0 y1))
  | 0 => ⟨fun _ _ _ r h => by simp [sluicelaw01_GrainWholes.j0] at h, fun _ _ _ r h => by simp [sluicelaw01_GrainWholes.j1] at h, fun _ _ _ r h => by simp [sluicelaw01_GrainWholes.j2] at h, fun _ _ _ r h => by simp [sluicelaw01_GrainWholes.j3] at h, fun _ _ r h => by simp [sluicelaw01_GrainWholes.j4] at h⟩
  | k + 1 => by
    obtain ⟨ih0, ih1, ih2, ih3, ih4⟩ := sluicelaw01_GrainWholes.mono_l k
    refine ⟨?_, ?_, ?_, ?_, ?_⟩
    · intro y0 y1 y2
      unfold sluicelaw01_GrainWholes.j0
      repeat' first
      | (with_reducible exact ih0 _ _ _)
      | (with_reducible exact ih1 _ _ _)
      | (with_reducible exact ih2 _ _ _)
      | (with_reducible exact ih3 _ _ _)
      | (with_reducible exact ih4 _ _)
      | (with_reducible exact grain_Mul.mono _ _ _)
      | (with_reducible exact sluiceref01_Mul.mono _ _ _)
      | (with_reducible exact LeO.refl _)
      | (with_reducible exact LeO.none _)
      | (with_reducible refine LeO.ite ?_ ?_)
      | (with_reducible refine LeO.bind ?_ (fun _ => ?_))
      | exact ih0 _ _ _
      | exact ih1 _ _ _
      | exact ih2 _ _ _
      | exact ih3 _ _ _
      | exact ih4 _ _
      | exact grain_Mul.mono _ _ _
      | exact sluiceref01_Mul.mono _ _ _
      | exact LeO.none _
      | refine LeO.ite ?_ ?_
      | refine LeO.bind ?_ (fun _ => ?_)
    · intro y0 y1 y2
      unfold sluicelaw01_GrainWholes.j1
      repeat' first
      | (with_reducible exact ih0 _ _ _)
      | (with_reducible exact ih1 _ _ _)
      | (with_reducible exact ih2 _ _ _)
      | (with_reducible exact ih3 _ _ _)
      | (with_reducible exact ih4 _ _)
      | (with_reducible exact grain_Mul.mono _ _ _)
      | (with_reducible exact sluiceref01_Mul.mono _ _ _)
      | (with_reducible exact LeO.refl _)
      | (with_reducible exact LeO.none _)
      | (with_reducible refine LeO.ite ?_ ?_)
      | (with_reducible refine LeO.bind ?_ (fun _ => ?_))
      | exact ih0 _ _ _
      | exact ih1 _ _ _
      | exact ih2 _ _ _
      | exact ih3 _ _ _
      | exact ih4 _ _
      | exact grain_Mul.mono _ _ _
      | exact sluiceref01_Mul.mono _ _ _
      | exact LeO.none _
      | refine LeO.ite ?_ ?_
      | refine LeO.bind ?_ (fun _ => ?_)
    · intro y0 y1 y2
      unfold sluicelaw01_GrainWholes.j2
      repeat' first
      | (with_reducible exact ih0 _ _ _)
      | (with_reducible exact ih1 _ _ _)
      | (with_reducible exact ih2 _ _ _)
      | (with_reducible exact ih3 _ _ _)
      | (with_reducible exact ih4 _ _)
      | (with_reducible exact grain_Mul.mono _ _ _)
      | (with_reducible exact sluiceref01_Mul.mono _ _ _)
      | (with_reducible exact LeO.refl _)
      | (with_reducible exact LeO.none _)
      | (with_reducible refine LeO.ite ?_ ?_)
      | (with_reducible refine LeO.bind ?_ (fun _ => ?_))
      | exact ih0 _ _ _
      | exact ih1 _ _ _
      | exact ih2 _ _ _
      | exact ih3 _ _ _
      | exact ih4 _ _
      | exact grain_Mul.mono _ _ _
      | exact sluiceref01_Mul.mono _ _ _
      | exact LeO.none _
      | refine LeO.ite ?_ ?_
      | refine LeO.bind ?_ (fun _ => ?_)
    · intro y0 y1 y2
      unfold sluicelaw01_GrainWholes.j3
      repeat' first
      | (with_reducible exact ih0 _ _ _)
      | (with_reducible exact ih1 _ _ _)
      | (with_reducible exact ih2 _ _ _)
      | (with_reducible exact ih3 _ _ _)
      | (with_reducible exact ih4 _ _)
      | (with_reducible exact grain_Mul.mono _ _ _)
      | (with_reducible exact sluiceref01_Mul.mono _ _ _)
      | (with_reducible exact LeO.refl _)
      | (with_reducible exact LeO.none _)
      | (with_reducible refine LeO.ite ?_ ?_)
      | (with_reducible refine LeO.bind ?_ (fun _ => ?_))
      | exact ih0 _ _ _
      | exact ih1 _ _ _
      | exact ih2 _ _ _
      | exact ih3 _ _ _
      | exact ih4 _ _
      | exact grain_Mul.mono _ _ _
      | exact sluiceref01_Mul.mono _ _ _
      | exact LeO.none _
      | refine LeO.ite ?_ ?_
      | refine LeO.bind ?_ (fun _ => ?_)
    · intro y0 y1
      unfold sluicelaw01_GrainWholes.j4
      repeat' first
      | (with_reducible exact ih0 _ _ _)
      | (with_reducible exact ih1 _ _ _)
      | (with_reducible exact ih2 _ _ _)
      | (with_reducible exact ih3 _ _ _)
      | (with_reducible exact ih4 _ _)
      | (with_reducible exact grain_Mul.mono _ _ _)
      | (with_reducible exact sluiceref01_Mul.mono _ _ _)
      | (with_reducible exact LeO.refl _)
      | (with_reducible exact LeO.none _)
      | (with_reducible refine LeO.ite ?_ ?_)
      | (with_reducible refine LeO.bind ?_ (fun _ => ?_))
      | exact ih0 _ _ _
      | exact ih1 _ _ _
      | exact ih2 _ _ _
      | exact ih3 _ _ _
      | exact ih4 _ _
      | exact grain_Mul.mono _ _ _
      | exact sluiceref01_Mul.mono _ _ _
      | exact LeO.none _
      | refine LeO.ite ?_ ?_
      | refine LeO.bind ?_ (fun _ => ?_)
theorem sluicelaw01_GrainWholes.mono : ∀ a0 a1 k, LeO (sluicelaw01_GrainWholes.f k a0 a1) (sluicelaw01_GrainWholes.f (k + 1) a0 a1) := by
  intro a0 a1 k
  obtain ⟨ih0, ih1, ih2, ih3, ih4⟩ := sluicelaw01_GrainWholes.mono_l k
  unfold sluicelaw01_GrainWholes.f
  repeat' first
      | (with_reducible exact ih0 _ _ _)
      | (with_reducible exact ih1 _ _ _)
      | (with_reducible exact ih2 _ _ _)
      | (with_reducible exact ih3 _ _ _)
      | (with_reducible exact ih4 _ _)
      | (with_reducible exact grain_Mul.mono _ _ _)
      | (with_reducible exact sluiceref01_Mul.mono _ _ _)
      | (with_reducible exact LeO.refl _)
      | (with_reducible exact LeO.none _)
      | (with_reducible refine LeO.ite ?_ ?_)
      | (with_reducible refine LeO.bind ?_ (fun _ => ?_))
      | exact ih0 _ _ _
      | exact ih1 _ _ _
      | exact ih2 _ _ _
      | exact ih3 _ _ _
      | exact ih4 _ _
      | exact grain_Mul.mono _ _ _
      | exact sluiceref01_Mul.mono _ _ _
      | exact LeO.none _
      | refine LeO.ite ?_ ?_
      | refine LeO.bind ?_ (fun _ => ?_)
set_option maxHeartbeats 8000000 in
set_option maxRecDepth 100000 in
theorem sluicelaw01_GrainWholes.calls (k : Nat) (a0 : Int) (a1 : Int) (r : Bool) (w : World) (h : sluicelaw01_GrainWholes.f k a0 a1 = some r) :
    Calls Try.prog 7 #[.int .i64 a0, .int .i64 a1] w fun e w' => e = .returned (.bool r) ∧ Drawn0 w w' := by
  have H : ((grain_Add.f a0 a1).bind fun bt113 => ((sluiceref01_Add.f a0 a1).bind fun bt115 => (if bt113.1 = bt115.1 then ((sluicelaw01_num.f bt113.2).bind fun t117 => (sluicelaw01_GrainWholes.j0 k a0 a1 (t117 != bt115.2))) else (sluicelaw01_GrainWholes.j0 k a0 a1 true)))) = some r := h
  clear h
  replace H := Option.bind_eq_some_iff.mp H
  obtain ⟨⟨t113, t114⟩, A30, H⟩ := H
  replace H : ((sluiceref01_Add.f a0 a1).bind fun bt115 => (if t113 = bt115.1 then ((sluicelaw01_num.f t114).bind fun t117 => (sluicelaw01_GrainWholes.j0 k a0 a1 (t117 != bt115.2))) else (sluicelaw01_GrainWholes.j0 k a0 a1 true))) = some r := H
  have A3 := Aside0.mk A30
  clear A30
  replace H := Option.bind_eq_some_iff.mp H
  obtain ⟨⟨t115, t116⟩, A40, H⟩ := H
  replace H : (if t113 = t115 then ((sluicelaw01_num.f t114).bind fun t117 => (sluicelaw01_GrainWholes.j0 k a0 a1 (t117 != t116))) else (sluicelaw01_GrainWholes.j0 k a0 a1 true)) = some r := H
  have A4 := Aside0.mk A40
  clear A40
  have HC5 := Aside0.mk H
  clear H
  go_enter Try.func7, Try.ntmps7
  go_upto_region 3 with (first | ((with_reducible refine gate_callee (f := 19) rfl ?_); refine goesL_ (some 12) rfl rfl Try.func19 (by kernel_rfl) rfl #[.int .i64 a0, .int .i64 a1] rfl (by (try simp only [List.map_toArray, List.map_cons, List.map_nil]); first | done | rfl | (simp only [List.length_drop, List.length_take]; rfl)) ?_; (with_reducible refine (grain_Add.calls a0 a1 t113 t114 _ A3.out).mono ?_); rintro e w' ⟨rfl, ⟨nd, rfl⟩⟩; refine ⟨_, rfl, ?_⟩) | ((with_reducible refine gate_callee (f := 20) rfl ?_); refine goesL_ (some 18) rfl rfl Try.func20 (by kernel_rfl) rfl #[.int .i64 a0, .int .i64 a1] rfl (by (try simp only [List.map_toArray, List.map_cons, List.map_nil]); first | done | rfl | (simp only [List.length_drop, List.length_take]; rfl)) ?_; (with_reducible refine (sluiceref01_Add.calls a0 a1 t115 t116 _ A4.out).mono ?_); rintro e w' ⟨rfl, ⟨nd, rfl⟩⟩; refine ⟨_, rfl, ?_⟩))
  (try simp only [Act.put, List.setIfInBounds_toArray, List.set_cons_zero, List.set_cons_succ])
  go_cut [29] (fun v29 wc => ∃ (kq : Nat) (x29_4 : Bool), v29 = .bool x29_4 ∧ Aside0 (sluicelaw01_GrainWholes.j0 kq a0 a1 x29_4 = some r) ∧ Aside0 (kq ≤ k) ∧ Drawn0 w wc)
  case first =>
    have H := HC5.out
    clear HC5
    by_cases c6 : t113 = t115
    · rw [if_pos c6] at H
      have c6b0 : (t113 == t115) = true := beq_iff_eq.mpr c6
      have c6b1 : (t113 != t115) = false := bne_eq_false_iff_eq.mpr c6
      clear c6
      (first | rw [c6b0] | (simp only [i64_w, i32_w]; rw [c6b0]) | skip)
      replace H := Option.bind_eq_some_iff.mp H
      obtain ⟨t117, A70, H⟩ := H
      replace H : (sluicelaw01_GrainWholes.j0 k a0 a1 (t117 != t116)) = some r := H
      have A7 := Aside0.mk A70
      clear A70
      have H' := Aside0.mk H
      clear H
      go_wp2_with (first | (go_at_call 10; (with_reducible refine (sluicelaw01_num.calls t114 t117 _ A7.out).mono ?_); rintro e w' ⟨rfl, ⟨nd, rfl⟩⟩))
      go_meet
      case rel => exact ⟨_, ((t117 != t116)), (by first | rfl | (simp; done) | (simp [*]; done)), H', ⟨by first | omega | exact Nat.le_refl _⟩, by repeat (first | exact Drawn0.refl _ | apply Drawn0.step)⟩
    · rw [if_neg c6] at H
      have c6b0 : (t113 == t115) = false := beq_eq_false_iff_ne.mpr c6
      have c6b1 : (t113 != t115) = true := bne_iff_ne.mpr c6
      (first | rw [c6b0] | (simp only [i64_w, i32_w]; rw [c6b0]) | skip)
      have H' := Aside0.mk H
      clear H
      go_wp2
      go_meet
      case rel => exact ⟨_, (true), (by first | rfl | (simp; done) | (simp [*]; done)), H', ⟨by first | omega | exact Nat.le_refl _⟩, by repeat (first | exact Drawn0.refl _ | apply Drawn0.step)⟩
  case rest =>
    clear HC5
    try clear c1
    try clear c2
    try clear p2
    try clear c6
    try clear c6b0
    try clear c6b1
    try clear c7
    obtain ⟨kq, x29_4, rfl, HA, HJ4, ⟨mc4, rfl⟩⟩ := hcut
    cases kq with
    | zero => exact absurd HA.out (by simp [sluicelaw01_GrainWholes.j0])
    | succ kj4 =>
      have H := HA.out
      clear HA
      simp only [sluicelaw01_GrainWholes.j0] at H
      by_cases c8 : x29_4 = true
      · subst c8
        have H1 : (some false) = some r := by rw [if_pos rfl] at H; exact H
        clear H
        have H := H1
        clear H1
        obtain rfl := Option.some.inj H
        go_wp2
        go_ret
        exact ⟨by first | rfl | (simp; done) | (simp [*]; done), by repeat (first | exact Drawn0.refl _ | apply Drawn0.step)⟩
      · replace c8 := Bool.eq_false_iff.mpr c8
        subst c8
        have H1 : ((grain_Sub.f a0 a1).bind fun bt118 => ((sluiceref01_Sub.f a0 a1).bind fun bt120 => (if bt118.1 = bt120.1 then ((sluicelaw01_num.f bt118.2).bind fun t122 => (sluicelaw01_GrainWholes.j1 kj4 a0 a1 (t122 != bt120.2))) else (sluicelaw01_GrainWholes.j1 kj4 a0 a1 true)))) = some r := by rw [if_neg (show ¬ (false = true) by decide)] at H; exact H
        clear H
        have H := H1
        clear H1
        replace H := Option.bind_eq_some_iff.mp H
        obtain ⟨⟨t118, t119⟩, A90, H⟩ := H
        replace H : ((sluiceref01_Sub.f a0 a1).bind fun bt120 => (if t118 = bt120.1 then ((sluicelaw01_num.f t119).bind fun t122 => (sluicelaw01_GrainWholes.j1 kj4 a0 a1 (t122 != bt120.2))) else (sluicelaw01_GrainWholes.j1 kj4 a0 a1 true))) = some r := H
        have A9 := Aside0.mk A90
        clear A90
        replace H := Option.bind_eq_some_iff.mp H
        obtain ⟨⟨t120, t121⟩, A100, H⟩ := H
        replace H : (if t118 = t120 then ((sluicelaw01_num.f t119).bind fun t122 => (sluicelaw01_GrainWholes.j1 kj4 a0 a1 (t122 != t121))) else (sluicelaw01_GrainWholes.j1 kj4 a0 a1 true)) = some r := H
        have A10 := Aside0.mk A100
        clear A100
        have HC11 := Aside0.mk H
        clear H
        go_upto_region 7 with (first | ((with_reducible refine gate_callee (f := 21) rfl ?_); refine goesL_ (some 33) rfl rfl Try.func21 (by kernel_rfl) rfl #[.int .i64 a0, .int .i64 a1] rfl (by (try simp only [List.map_toArray, List.map_cons, List.map_nil]); first | done | rfl | (simp only [List.length_drop, List.length_take]; rfl)) ?_; (with_reducible refine (grain_Sub.calls a0 a1 t118 t119 _ A9.out).mono ?_); rintro e w' ⟨rfl, ⟨nd, rfl⟩⟩; refine ⟨_, rfl, ?_⟩) | ((with_reducible refine gate_callee (f := 22) rfl ?_); refine goesL_ (some 39) rfl rfl Try.func22 (by kernel_rfl) rfl #[.int .i64 a0, .int .i64 a1] rfl (by (try simp only [List.map_toArray, List.map_cons, List.map_nil]); first | done | rfl | (simp only [List.length_drop, List.length_take]; rfl)) ?_; (with_reducible refine (sluiceref01_Sub.calls a0 a1 t120 t121 _ A10.out).mono ?_); rintro e w' ⟨rfl, ⟨nd, rfl⟩⟩; refine ⟨_, rfl, ?_⟩))
        (try simp only [Act.put, List.setIfInBounds_toArray, List.set_cons_zero, List.set_cons_succ])
        go_cut [50] (fun v50 wc => ∃ (kq : Nat) (x50_10 : Bool), v50 = .bool x50_10 ∧ Aside0 (sluicelaw01_GrainWholes.j1 kq a0 a1 x50_10 = some r) ∧ Aside0 (kq ≤ kj4) ∧ Drawn0 w wc)
        case first =>
          have H := HC11.out
          clear HC11
          by_cases c12 : t118 = t120
          · rw [if_pos c12] at H
            have c12b0 : (t118 == t120) = true := beq_iff_eq.mpr c12
            have c12b1 : (t118 != t120) = false := bne_eq_false_iff_eq.mpr c12
            clear c12
            (first | rw [c12b0] | (simp only [i64_w, i32_w]; rw [c12b0]) | skip)
            replace H := Option.bind_eq_some_iff.mp H
            obtain ⟨t122, A130, H⟩ := H
            replace H : (sluicelaw01_GrainWholes.j1 kj4 a0 a1 (t122 != t121)) = some r := H
            have A13 := Aside0.mk A130
            clear A130
            have H' := Aside0.mk H
            clear H
            go_wp2_with (first | (go_at_call 10; (with_reducible refine (sluicelaw01_num.calls t119 t122 _ A13.out).mono ?_); rintro e w' ⟨rfl, ⟨nd, rfl⟩⟩))
            go_meet
            case rel => exact ⟨_, ((t122 != t121)), (by first | rfl | (simp; done) | (simp [*]; done)), H', ⟨by have := HJ4.out; first | omega | exact Nat.le_refl _⟩, by repeat (first | exact Drawn0.refl _ | apply Drawn0.step)⟩
          · rw [if_neg c12] at H
            have c12b0 : (t118 == t120) = false := beq_eq_false_iff_ne.mpr c12
            have c12b1 : (t118 != t120) = true := bne_iff_ne.mpr c12
            (first | rw [c12b0] | (simp only [i64_w, i32_w]; rw [c12b0]) | skip)
            have H' := Aside0.mk H
            clear H
            go_wp2
            go_meet
            case rel => exact ⟨_, (true), (by first | rfl | (simp; done) | (simp [*]; done)), H', ⟨by have := HJ4.out; first | omega | exact Nat.le_refl _⟩, by repeat (first | exact Drawn0.refl _ | apply Drawn0.step)⟩
        case rest =>
          clear HC11
          try clear c1
          try clear c2
          try clear p2
          try clear c4
          try clear c6
          try clear c6b0
          try clear c6b1
          try clear c7
          try clear c8
          try clear c12
          try clear c12b0
          try clear c12b1
          try clear p2
          obtain ⟨kq, x50_10, rfl, HA, HJ10, ⟨mc10, rfl⟩⟩ := hcut
          cases kq with
          | zero => exact absurd HA.out (by simp [sluicelaw01_GrainWholes.j1])
          | succ kj10 =>
            have H := HA.out
            clear HA
            simp only [sluicelaw01_GrainWholes.j1] at H
            by_cases c14 : x50_10 = true
            · subst c14
              have H1 : (some false) = some r := by rw [if_pos rfl] at H; exact H
              clear H
              have H := H1
              clear H1
              obtain rfl := Option.some.inj H
              go_wp2
              go_ret
              exact ⟨by first | rfl | (simp; done) | (simp [*]; done), by repeat (first | exact Drawn0.refl _ | apply Drawn0.step)⟩
            · replace c14 := Bool.eq_false_iff.mpr c14
              subst c14
              have H1 : ((grain_Mul.f kj10 a0 a1).bind fun bt123 => ((sluiceref01_Mul.f kj10 a0 a1).bind fun bt125 => (if bt123.1 = bt125.1 then ((sluicelaw01_num.f bt123.2).bind fun t127 => (sluicelaw01_GrainWholes.j2 kj10 a0 a1 (t127 != bt125.2))) else (sluicelaw01_GrainWholes.j2 kj10 a0 a1 true)))) = some r := by rw [if_neg (show ¬ (false = true) by decide)] at H; exact H
              clear H
              have H := H1
              clear H1
              replace H := Option.bind_eq_some_iff.mp H
              obtain ⟨⟨t123, t124⟩, A150, H⟩ := H
              replace H : ((sluiceref01_Mul.f kj10 a0 a1).bind fun bt125 => (if t123 = bt125.1 then ((sluicelaw01_num.f t124).bind fun t127 => (sluicelaw01_GrainWholes.j2 kj10 a0 a1 (t127 != bt125.2))) else (sluicelaw01_GrainWholes.j2 kj10 a0 a1 true))) = some r := H
              have A15 := Aside0.mk A150
              clear A150
              replace H := Option.bind_eq_some_iff.mp H
              obtain ⟨⟨t125, t126⟩, A160, H⟩ := H
              replace H : (if t123 = t125 then ((sluicelaw01_num.f t124).bind fun t127 => (sluicelaw01_GrainWholes.j2 kj10 a0 a1 (t127 != t126))) else (sluicelaw01_GrainWholes.j2 kj10 a0 a1 true)) = some r := H
              have A16 := Aside0.mk A160
              clear A160
              have HC17 := Aside0.mk H
              clear H
              go_upto_region 11 with (first | ((with_reducible refine gate_callee (f := 23) rfl ?_); refine goesL_ (some 54) rfl rfl Try.func23 (by kernel_rfl) rfl #[.int .i64 a0, .int .i64 a1] rfl (by (try simp only [List.map_toArray, List.map_cons, List.map_nil]); first | done | rfl | (simp only [List.length_drop, List.length_take]; rfl)) ?_; (with_reducible refine (grain_Mul.calls kj10 a0 a1 t123 t124 _ A15.out).mono ?_); rintro e w' ⟨rfl, ⟨nd, rfl⟩⟩; refine ⟨_, rfl, ?_⟩) | ((with_reducible refine gate_callee (f := 24) rfl ?_); refine goesL_ (some 60) rfl rfl Try.func24 (by kernel_rfl) rfl #[.int .i64 a0, .int .i64 a1] rfl (by (try simp only [List.map_toArray, List.map_cons, List.map_nil]); first | done | rfl | (simp only [List.length_drop, List.length_take]; rfl)) ?_; (with_reducible refine (sluiceref01_Mul.calls kj10 a0 a1 t125 t126 _ A16.out).mono ?_); rintro e w' ⟨rfl, ⟨nd, rfl⟩⟩; refine ⟨_, rfl, ?_⟩))
              (try simp only [Act.put, List.setIfInBounds_toArray, List.set_cons_zero, List.set_cons_succ])
              go_cut [71] (fun v71 wc => ∃ (kq : Nat) (x71_16 : Bool), v71 = .bool x71_16 ∧ Aside0 (sluicelaw01_GrainWholes.j2 kq a0 a1 x71_16 = some r) ∧ Aside0 (kq ≤ kj10) ∧ Drawn0 w wc)
              case first =>
                have H := HC17.out
                clear HC17
                by_cases c18 : t123 = t125
                · rw [if_pos c18] at H
                  have c18b0 : (t123 == t125) = true := beq_iff_eq.mpr c18
                  have c18b1 : (t123 != t125) = false := bne_eq_false_iff_eq.mpr c18
                  clear c18
                  (first | rw [c18b0] | (simp only [i64_w, i32_w]; rw [c18b0]) | skip)
                  replace H := Option.bind_eq_some_iff.mp H
                  obtain ⟨t127, A190, H⟩ := H
                  replace H : (sluicelaw01_GrainWholes.j2 kj10 a0 a1 (t127 != t126)) = some r := H
                  have A19 := Aside0.mk A190
                  clear A190
                  have H' := Aside0.mk H
                  clear H
                  go_wp2_with (first | (go_at_call 10; (with_reducible refine (sluicelaw01_num.calls t124 t127 _ A19.out).mono ?_); rintro e w' ⟨rfl, ⟨nd, rfl⟩⟩))
                  go_meet
                  case rel => exact ⟨_, ((t127 != t126)), (by first | rfl | (simp; done) | (simp [*]; done)), H', ⟨by have := HJ4.out; have := HJ10.out; first | omega | exact Nat.le_refl _⟩, by repeat (first | exact Drawn0.refl _ | apply Drawn0.step)⟩
                · rw [if_neg c18] at H
                  have c18b0 : (t123 == t125) = false := beq_eq_false_iff_ne.mpr c18
                  have c18b1 : (t123 != t125) = true := bne_iff_ne.mpr c18
                  (first | rw [c18b0] | (simp only [i64_w, i32_w]; rw [c18b0]) | skip)
                  have H' := Aside0.mk H
                  clear H
                  go_wp2
                  go_meet
                  case rel => exact ⟨_, (true), (by first | rfl | (simp; done) | (simp [*]; done)), H', ⟨by have := HJ4.out; have := HJ10.out; first | omega | exact Nat.le_refl _⟩, by repeat (first | exact Drawn0.refl _ | apply Drawn0.step)⟩
              case rest =>
                clear HC17
                try clear c1
                try clear c2
                try clear p2
                try clear c4
                try clear c6
                try clear c6b0
                try clear c6b1
                try clear c7
                try clear c8
                try clear c10
                try clear c12
                try clear c12b0
                try clear c12b1
                try clear c14
                try clear c18
                try clear c18b0
                try clear c18b1
                try clear c19
                try clear p2
                obtain ⟨kq, x71_16, rfl, HA, HJ16, ⟨mc16, rfl⟩⟩ := hcut
                cases kq with
                | zero => exact absurd HA.out (by simp [sluicelaw01_GrainWholes.j2])
                | succ kj16 =>
                  have H := HA.out
                  clear HA
                  simp only [sluicelaw01_GrainWholes.j2] at H
                  by_cases c20 : x71_16 = true
                  · subst c20
                    have H1 : (some false) = some r := by rw [if_pos rfl] at H; exact H
                    clear H
                    have H := H1
                    clear H1
                    obtain rfl := Option.some.inj H
                    go_wp2
                    go_ret
                    exact ⟨by first | rfl | (simp; done) | (simp [*]; done), by repeat (first | exact Drawn0.refl _ | apply Drawn0.step)⟩
                  · replace c20 := Bool.eq_false_iff.mpr c20
                    subst c20
                    have H1 : ((grain_Quo.f a0 a1).bind fun bt128 => ((sluiceref01_Quo.f a0 a1).bind fun bt130 => (if bt128.1 = bt130.1 then ((sluicelaw01_num.f bt128.2).bind fun t132 => (sluicelaw01_GrainWholes.j3 kj16 a0 a1 (t132 != bt130.2))) else (sluicelaw01_GrainWholes.j3 kj16 a0 a1 true)))) = some r := by rw [if_neg (show ¬ (false = true) by decide)] at H; exact H
                    clear H
                    have H := H1
                    clear H1
                    replace H := Option.bind_eq_some_iff.mp H
                    obtain ⟨⟨t128, t129⟩, A210, H⟩ := H
                    replace H : ((sluiceref01_Quo.f a0 a1).bind fun bt130 => (if t128 = bt130.1 then ((sluicelaw01_num.f t129).bind fun t132 => (sluicelaw01_GrainWholes.j3 kj16 a0 a1 (t132 != bt130.2))) else (sluicelaw01_GrainWholes.j3 kj16 a0 a1 true))) = some r := H
                    have A21 := Aside0.mk A210
                    clear A210
                    replace H := Option.bind_eq_some_iff.mp H
                    obtain ⟨⟨t130, t131⟩, A220, H⟩ := H
                    replace H : (if t128 = t130 then ((sluicelaw01_num.f t129).bind fun t132 => (sluicelaw01_GrainWholes.j3 kj16 a0 a1 (t132 != t131))) else (sluicelaw01_GrainWholes.j3 kj16 a0 a1 true)) = some r := H
                    have A22 := Aside0.mk A220
                    clear A220
                    have HC23 := Aside0.mk H
                    clear H
                    go_upto_region 15 with (first | ((with_reducible refine gate_callee (f := 25) rfl ?_); refine goesL_ (some 75) rfl rfl Try.func25 (by kernel_rfl) rfl #[.int .i64 a0, .int .i64 a1] rfl (by (try simp only [List.map_toArray, List.map_cons, List.map_nil]); first | done | rfl | (simp only [List.length_drop, List.length_take]; rfl)) ?_; (with_reducible refine (grain_Quo.calls a0 a1 t128 t129 _ A21.out).mono ?_); rintro e w' ⟨rfl, ⟨nd, rfl⟩⟩; refine ⟨_, rfl, ?_⟩) | ((with_reducible refine gate_callee (f := 26) rfl ?_); refine goesL_ (some 81) rfl rfl Try.func26 (by kernel_rfl) rfl #[.int .i64 a0, .int .i64 a1] rfl (by (try simp only [List.map_toArray, List.map_cons, List.map_nil]); first | done | rfl | (simp only [List.length_drop, List.length_take]; rfl)) ?_; (with_reducible refine (sluiceref01_Quo.calls a0 a1 t130 t131 _ A22.out).mono ?_); rintro e w' ⟨rfl, ⟨nd, rfl⟩⟩; refine ⟨_, rfl, ?_⟩))
                    (try simp only [Act.put, List.setIfInBounds_toArray, List.set_cons_zero, List.set_cons_succ])
                    go_cut [92] (fun v92 wc => ∃ (kq : Nat) (x92_22 : Bool), v92 = .bool x92_22 ∧ Aside0 (sluicelaw01_GrainWholes.j3 kq a0 a1 x92_22 = some r) ∧ Aside0 (kq ≤ kj16) ∧ Drawn0 w wc)
                    case first =>
                      have H := HC23.out
                      clear HC23
                      by_cases c24 : t128 = t130
                      · rw [if_pos c24] at H
                        have c24b0 : (t128 == t130) = true := beq_iff_eq.mpr c24
                        have c24b1 : (t128 != t130) = false := bne_eq_false_iff_eq.mpr c24
                        clear c24
                        (first | rw [c24b0] | (simp only [i64_w, i32_w]; rw [c24b0]) | skip)
                        replace H := Option.bind_eq_some_iff.mp H
                        obtain ⟨t132, A250, H⟩ := H
                        replace H : (sluicelaw01_GrainWholes.j3 kj16 a0 a1 (t132 != t131)) = some r := H
                        have A25 := Aside0.mk A250
                        clear A250
                        have H' := Aside0.mk H
                        clear H
                        go_wp2_with (first | (go_at_call 10; (with_reducible refine (sluicelaw01_num.calls t129 t132 _ A25.out).mono ?_); rintro e w' ⟨rfl, ⟨nd, rfl⟩⟩))
                        go_meet
                        case rel => exact ⟨_, ((t132 != t131)), (by first | rfl | (simp; done) | (simp [*]; done)), H', ⟨by have := HJ4.out; have := HJ10.out; have := HJ16.out; first | omega | exact Nat.le_refl _⟩, by repeat (first | exact Drawn0.refl _ | apply Drawn0.step)⟩
                      · rw [if_neg c24] at H
                        have c24b0 : (t128 == t130) = false := beq_eq_false_iff_ne.mpr c24
                        have c24b1 : (t128 != t130) = true := bne_iff_ne.mpr c24
                        (first | rw [c24b0] | (simp only [i64_w, i32_w]; rw [c24b0]) | skip)
                        have H' := Aside0.mk H
                        clear H
                        go_wp2
                        go_meet
                        case rel => exact ⟨_, (true), (by first | rfl | (simp; done) | (simp [*]; done)), H', ⟨by have := HJ4.out; have := HJ10.out; have := HJ16.out; first | omega | exact Nat.le_refl _⟩, by repeat (first | exact Drawn0.refl _ | apply Drawn0.step)⟩
                    case rest =>
                      clear HC23
                      try clear c1
                      try clear c2
                      try clear p2
                      try clear c4
                      try clear c6
                      try clear c6b0
                      try clear c6b1
                      try clear c7
                      try clear c8
                      try clear c10
                      try clear c12
                      try clear c12b0
                      try clear c12b1
                      try clear c14
                      try clear c16
                      try clear c18
                      try clear c18b0
                      try clear c18b1
                      try clear c19
                      try clear c20
                      try clear c21
                      try clear c22
                      try clear c23
                      try clear c24
                      try clear c24b0
                      try clear c24b1
                      try clear c25
                      try clear p2
                      obtain ⟨kq, x92_22, rfl, HA, HJ22, ⟨mc22, rfl⟩⟩ := hcut
                      cases kq with
                      | zero => exact absurd HA.out (by simp [sluicelaw01_GrainWholes.j3])
                      | succ kj22 =>
                        have H := HA.out
                        clear HA
                        simp only [sluicelaw01_GrainWholes.j3] at H
                        by_cases c26 : x92_22 = true
                        · subst c26
                          have H1 : (some false) = some r := by rw [if_pos rfl] at H; exact H
                          clear H
                          have H := H1
                          clear H1
                          obtain rfl := Option.some.inj H
                          go_wp2
                          go_ret
                          exact ⟨by first | rfl | (simp; done) | (simp [*]; done), by repeat (first | exact Drawn0.refl _ | apply Drawn0.step)⟩
                        · replace c26 := Bool.eq_false_iff.mpr c26
                          subst c26
                          have H1 : ((grain_Rem.f a0 a1).bind fun bt133 => ((sluiceref01_Rem.f a0 a1).bind fun bt135 => (if bt133.1 = bt135.1 then ((sluicelaw01_num.f bt133.2).bind fun t137 => (sluicelaw01_GrainWholes.j4 kj22 a0 (t137 != bt135.2))) else (sluicelaw01_GrainWholes.j4 kj22 a0 true)))) = some r := by rw [if_neg (show ¬ (false = true) by decide)] at H; exact H
                          clear H
                          have H := H1
                          clear H1
                          replace H := Option.bind_eq_some_iff.mp H
                          obtain ⟨⟨t133, t134⟩, A270, H⟩ := H
                          replace H : ((sluiceref01_Rem.f a0 a1).bind fun bt135 => (if t133 = bt135.1 then ((sluicelaw01_num.f t134).bind fun t137 => (sluicelaw01_GrainWholes.j4 kj22 a0 (t137 != bt135.2))) else (sluicelaw01_GrainWholes.j4 kj22 a0 true))) = some r := H
                          have A27 := Aside0.mk A270
                          clear A270
                          replace H := Option.bind_eq_some_iff.mp H
                          obtain ⟨⟨t135, t136⟩, A280, H⟩ := H
                          replace H : (if t133 = t135 then ((sluicelaw01_num.f t134).bind fun t137 => (sluicelaw01_GrainWholes.j4 kj22 a0 (t137 != t136))) else (sluicelaw01_GrainWholes.j4 kj22 a0 true)) = some r := H
                          have A28 := Aside0.mk A280
                          clear A280
                          have HC29 := Aside0.mk H
                          clear H
                          go_upto_region 19 with (first | ((with_reducible refine gate_callee (f := 27) rfl ?_); refine goesL_ (some 96) rfl rfl Try.func27 (by kernel_rfl) rfl #[.int .i64 a0, .int .i64 a1] rfl (by (try simp only [List.map_toArray, List.map_cons, List.map_nil]); first | done | rfl | (simp only [List.length_drop, List.length_take]; rfl)) ?_; (with_reducible refine (grain_Rem.calls a0 a1 t133 t134 _ A27.out).mono ?_); rintro e w' ⟨rfl, ⟨nd, rfl⟩⟩; refine ⟨_, rfl, ?_⟩) | ((with_reducible refine gate_callee (f := 28) rfl ?_); refine goesL_ (some 102) rfl rfl Try.func28 (by kernel_rfl) rfl #[.int .i64 a0, .int .i64 a1] rfl (by (try simp only [List.map_toArray, List.map_cons, List.map_nil]); first | done | rfl | (simp only [List.length_drop, List.length_take]; rfl)) ?_; (with_reducible refine (sluiceref01_Rem.calls a0 a1 t135 t136 _ A28.out).mono ?_); rintro e w' ⟨rfl, ⟨nd, rfl⟩⟩; refine ⟨_, rfl, ?_⟩))
                          (try simp only [Act.put, List.setIfInBounds_toArray, List.set_cons_zero, List.set_cons_succ])
                          go_cut [113] (fun v113 wc => ∃ (kq : Nat) (x113_28 : Bool), v113 = .bool x113_28 ∧ Aside0 (sluicelaw01_GrainWholes.j4 kq a0 x113_28 = some r) ∧ Aside0 (kq ≤ kj22) ∧ Drawn0 w wc)
                          case first =>
                            have H := HC29.out
                            clear HC29
                            by_cases c30 : t133 = t135
                            · rw [if_pos c30] at H
                              have c30b0 : (t133 == t135) = true := beq_iff_eq.mpr c30
                              have c30b1 : (t133 != t135) = false := bne_eq_false_iff_eq.mpr c30
                              clear c30
                              (first | rw [c30b0] | (simp only [i64_w, i32_w]; rw [c30b0]) | skip)
                              replace H := Option.bind_eq_some_iff.mp H
                              obtain ⟨t137, A310, H⟩ := H
                              replace H : (sluicelaw01_GrainWholes.j4 kj22 a0 (t137 != t136)) = some r := H
                              have A31 := Aside0.mk A310
                              clear A310
                              have H' := Aside0.mk H
                              clear H
                              go_wp2_with (first | (go_at_call 10; (with_reducible refine (sluicelaw01_num.calls t134 t137 _ A31.out).mono ?_); rintro e w' ⟨rfl, ⟨nd, rfl⟩⟩))
                              go_meet
                              case rel => exact ⟨_, ((t137 != t136)), (by first | rfl | (simp; done) | (simp [*]; done)), H', ⟨by have := HJ4.out; have := HJ10.out; have := HJ16.out; have := HJ22.out; first | omega | exact Nat.le_refl _⟩, by repeat (first | exact Drawn0.refl _ | apply Drawn0.step)⟩
                            · rw [if_neg c30] at H
                              have c30b0 : (t133 == t135) = false := beq_eq_false_iff_ne.mpr c30
                              have c30b1 : (t133 != t135) = true := bne_iff_ne.mpr c30
                              (first | rw [c30b0] | (simp only [i64_w, i32_w]; rw [c30b0]) | skip)
                              have H' := Aside0.mk H
                              clear H
                              go_wp2
                              go_meet
                              case rel => exact ⟨_, (true), (by first | rfl | (simp; done) | (simp [*]; done)), H', ⟨by have := HJ4.out; have := HJ10.out; have := HJ16.out; have := HJ22.out; first | omega | exact Nat.le_refl _⟩, by repeat (first | exact Drawn0.refl _ | apply Drawn0.step)⟩
                          case rest =>
                            clear HC29
                            try clear c1
                            try clear c2
                            try clear p2
                            try clear c3
                            try clear c4
                            try clear c6
                            try clear c6b0
                            try clear c6b1
                            try clear c7
                            try clear c8
                            try clear c10
                            try clear c12
                            try clear c12b0
                            try clear c12b1
                            try clear c14
                            try clear c16
                            try clear c18
                            try clear c18b0
                            try clear c18b1
                            try clear c19
                            try clear c20
                            try clear c21
                            try clear c22
                            try clear c23
                            try clear c24
                            try clear c24b0
                            try clear c24b1
                            try clear c25
                            try clear c26
                            try clear c27
                            try clear c28
                            try clear c30
                            try clear c30b0
                            try clear c30b1
                            try clear p2
                            obtain ⟨kq, x113_28, rfl, HA, HJ28, ⟨mc28, rfl⟩⟩ := hcut
                            cases kq with
                            | zero => exact absurd HA.out (by simp [sluicelaw01_GrainWholes.j4])
                            | succ kj28 =>
                              have H := HA.out
                              clear HA
                              simp only [sluicelaw01_GrainWholes.j4] at H
                              by_cases c32 : x113_28 = true
                              · subst c32
                                have H1 : (some false) = some r := by rw [if_pos rfl] at H; exact H
                                clear H
                                have H := H1
                                clear H1
                                obtain rfl := Option.some.inj H
                                go_wp2
                                go_ret
                                exact ⟨by first | rfl | (simp; done) | (simp [*]; done), by repeat (first | exact Drawn0.refl _ | apply Drawn0.step)⟩
                              · replace c32 := Bool.eq_false_iff.mpr c32
                                subst c32
                                have H1 : ((grain_Neg.f a0).bind fun bt138 => ((sluiceref01_Neg.f a0).bind fun bt140 => (if bt138.1 = bt140.1 then ((sluicelaw01_num.f bt138.2).bind fun t142 => (some (t142 == bt140.2))) else (some false)))) = some r := by rw [if_neg (show ¬ (false = true) by decide)] at H; exact H
                                clear H
                                have H := H1
                                clear H1
                                replace H := Option.bind_eq_some_iff.mp H
                                obtain ⟨⟨t138, t139⟩, A330, H⟩ := H
                                replace H : ((sluiceref01_Neg.f a0).bind fun bt140 => (if t138 = bt140.1 then ((sluicelaw01_num.f t139).bind fun t142 => (some (t142 == bt140.2))) else (some false))) = some r := H
                                have A33 := Aside0.mk A330
                                clear A330
                                replace H := Option.bind_eq_some_iff.mp H
                                obtain ⟨⟨t140, t141⟩, A340, H⟩ := H
                                replace H : (if t138 = t140 then ((sluicelaw01_num.f t139).bind fun t142 => (some (t142 == t141))) else (some false)) = some r := H
                                have A34 := Aside0.mk A340
                                clear A340
                                by_cases c35 : t138 = t140
                                · rw [if_pos c35] at H
                                  have c35b0 : (t138 == t140) = true := beq_iff_eq.mpr c35
                                  have c35b1 : (t138 != t140) = false := bne_eq_false_iff_eq.mpr c35
                                  clear c35
                                  replace H := Option.bind_eq_some_iff.mp H
                                  obtain ⟨t142, A360, H⟩ := H
                                  replace H : (some (t142 == t141)) = some r := H
                                  have A36 := Aside0.mk A360
                                  clear A360
                                  obtain rfl := Option.some.inj H
                                  go_wp2_with (first | ((with_reducible refine gate_callee (f := 29) rfl ?_); refine goesL_ (some 116) rfl rfl Try.func29 (by kernel_rfl) rfl #[.int .i64 a0] rfl (by (try simp only [List.map_toArray, List.map_cons, List.map_nil]); first | done | rfl | (simp only [List.length_drop, List.length_take]; rfl)) ?_; (with_reducible refine (grain_Neg.calls a0 t138 t139 _ A33.out).mono ?_); rintro e w' ⟨rfl, ⟨nd, rfl⟩⟩; refine ⟨_, rfl, ?_⟩) | ((with_reducible refine gate_callee (f := 30) rfl ?_); refine goesL_ (some 121) rfl rfl Try.func30 (by kernel_rfl) rfl #[.int .i64 a0] rfl (by (try simp only [List.map_toArray, List.map_cons, List.map_nil]); first | done | rfl | (simp only [List.length_drop, List.length_take]; rfl)) ?_; (with_reducible refine (sluiceref01_Neg.calls a0 t140 t141 _ A34.out).mono ?_); rintro e w' ⟨rfl, ⟨nd, rfl⟩⟩; refine ⟨_, rfl, ?_⟩) | (go_at_call 10; (with_reducible refine (sluicelaw01_num.calls t139 t142 _ A36.out).mono ?_); rintro e w' ⟨rfl, ⟨nd, rfl⟩⟩))
                                  go_ret
                                  exact ⟨by first | rfl | (simp; done) | (simp [*]; done), by repeat (first | exact Drawn0.refl _ | apply Drawn0.step)⟩
                                · rw [if_neg c35] at H
                                  have c35b0 : (t138 == t140) = false := beq_eq_false_iff_ne.mpr c35
                                  have c35b1 : (t138 != t140) = true := bne_iff_ne.mpr c35
                                  obtain rfl := Option.some.inj H
                                  go_wp2_with (first | ((with_reducible refine gate_callee (f := 29) rfl ?_); refine goesL_ (some 116) rfl rfl Try.func29 (by kernel_rfl) rfl #[.int .i64 a0] rfl (by (try simp only [List.map_toArray, List.map_cons, List.map_nil]); first | done | rfl | (simp only [List.length_drop, List.length_take]; rfl)) ?_; (with_reducible refine (grain_Neg.calls a0 t138 t139 _ A33.out).mono ?_); rintro e w' ⟨rfl, ⟨nd, rfl⟩⟩; refine ⟨_, rfl, ?_⟩) | ((with_reducible refine gate_callee (f := 30) rfl ?_); refine goesL_ (some 121) rfl rfl Try.func30 (by kernel_rfl) rfl #[.int .i64 a0] rfl (by (try simp only [List.map_toArray, List.map_cons, List.map_nil]); first | done | rfl | (simp only [List.length_drop, List.length_take]; rfl)) ?_; (with_reducible refine (sluiceref01_Neg.calls a0 t140 t141 _ A34.out).mono ?_); rintro e w' ⟨rfl, ⟨nd, rfl⟩⟩; refine ⟨_, rfl, ?_⟩))
                                  go_ret
                                  exact ⟨by first | rfl | (simp; done) | (simp [*]; done), by repeat (first | exact Drawn0.refl _ | apply Drawn0.step)⟩

/-- THE ONE PURE STATEMENT of sluicelaw01_GrainWholes: yours. -/
def sluicelaw01_GrainWholes.Pure : Prop := ∀ (a0 : Int) (a1 : Int), (Lit.int .i64 a0).wf = true → (Lit.int .i64 a1).wf = true → ∃ k, sluicelaw01_GrainWholes.f k a0 a1 = some true
theorem sluicelaw01_GrainWholes.walk (P : sluicelaw01_GrainWholes.Pure) (a0 : Int) (a1 : Int) (w : World) (w0 : (Lit.int .i64 a0).wf = true) (w1 : (Lit.int .i64 a1).wf = true) :
    Calls Try.prog 7 #[.int .i64 a0, .int .i64 a1] w fun e w' => e = .returned (.bool true) ∧ Below w.heap.size w w' := by
  obtain ⟨k, h⟩ := P a0 a1 w0 w1
  refine (sluicelaw01_GrainWholes.calls k a0 a1 true w h).mono ?_
  rintro e w' ⟨rfl, hd⟩
  exact ⟨rfl, hd.below⟩

end Go.Proofs.Ytdnofpafojjjaaa.QGrainWholes
