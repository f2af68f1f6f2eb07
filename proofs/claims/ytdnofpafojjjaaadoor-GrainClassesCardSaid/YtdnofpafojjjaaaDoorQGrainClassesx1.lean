/- What the functions that the statement GrainClasses reaches come to, and that the given program's calls come to it; written by this session's program printx.py (wip/tpl), which runs the kit's print over the translation with additions of its own. No printed file. Conditions: as each theorem says. -/
import Derived.Test.YtdnofpafojjjaaaDoorQGrainClassesx0
namespace Go.Proofs.YtdnofpafojjjaaaDoor.QGrainClasses
open Go.RowKit Go.Proofs.YtdnofpafojjjaaaDoorW.PrintWords Go.Proofs.YtdnofpafojjjaaaDoorW.PrintLast Go.Proofs.YtdnofpafojjjaaaDoorW.PrintMore
attribute [local go_sem] max2_int min2_int max_two min_two max_three min_three max_four min_four   -- for this text's walks alone
set_option linter.unusedVariables false
set_option linter.unusedSimpArgs false

/-! ### sluicelaw01_num: function 17 -/
def sluicelaw01_num.f (a0 : Int) : Option (Int) := some a0
set_option maxHeartbeats 8000000 in
set_option maxRecDepth 100000 in
theorem sluicelaw01_num.calls (a0 : Int) (r : Int) (w : World) (h : sluicelaw01_num.f a0 = some r) :
    Calls Tryd.prog 17 #[.int .i64 a0] w fun e w' => e = .returned (.int .i64 r) ∧ Drawn0 w w' := by
  have H : (some a0) = some r := h
  clear h
  obtain rfl := Option.some.inj H
  go_enter Tryd.func17, Tryd.ntmps17
  go_wp2
  go_ret
  exact ⟨by first | rfl | (simp; done) | (simp [*]; done), by repeat (first | exact Drawn0.refl _ | apply Drawn0.step)⟩

-- NOT PRINTED: function 37 (math_Float32bits)

/-! ### grain_Bits: function 18 -/
def grain_Bits.f (a0 : Int) : Option (Int) := some (a0.toNat : Int)
theorem grain_Bits.run (n : Nat) (w : World) : (callFunc 37 #[.float .f32 n]).run Tryd.prog w = .ok (.value (.int .u32 n)) w := by
  rw [run_callFunc_extern Tryd.func37 (by kernel_rfl) (by kernel_rfl) (by kernel_rfl) (e := Extern.MathFloatBits.float32bits) (by kernel_rfl)]
  rfl
set_option maxHeartbeats 2000000 in
set_option maxRecDepth 100000 in
theorem grain_Bits.calls (a0 : Int) (r : Int) (w : World) (h : grain_Bits.f a0 = some r) :
    Calls Tryd.prog 18 #[.float .f32 a0.toNat] w fun e w' => e = .returned (.int .u32 r) ∧ Drawn0 w w' := by
  obtain rfl := Option.some.inj h
  clear h
  go_enter Tryd.func18, Tryd.ntmps18
  go_wp2_with (simp only [grain_Bits.run])
  go_ret
  exact ⟨by first | rfl | (simp; done) | (simp [*]; done), by repeat (first | exact Drawn0.refl _ | apply Drawn0.step)⟩

-- NOT PRINTED: function 38 (math_Float32frombits)

/-! ### grain_Float: function 19 -/
def grain_Float.f (a0 : Int) : Option (Int) := some a0
theorem grain_Float.run (n : Int) (w : World) : (callFunc 38 #[.int .u32 n]).run Tryd.prog w = .ok (.value (.float .f32 n.toNat)) w := by
  rw [run_callFunc_extern Tryd.func38 (by kernel_rfl) (by kernel_rfl) (by kernel_rfl) (e := Extern.MathFloatBits.float32frombits) (by kernel_rfl)]
  rfl
set_option maxHeartbeats 2000000 in
set_option maxRecDepth 100000 in
theorem grain_Float.calls (a0 : Int) (r : Int) (w : World) (h : grain_Float.f a0 = some r) :
    Calls Tryd.prog 19 #[.int .u32 a0] w fun e w' => e = .returned (.float .f32 r.toNat) ∧ Drawn0 w w' := by
  obtain rfl := Option.some.inj h
  clear h
  go_enter Tryd.func19, Tryd.ntmps19
  go_wp2_with (simp only [grain_Float.run])
  go_ret
  exact ⟨by first | rfl | (simp; done) | (simp [*]; done), by repeat (first | exact Drawn0.refl _ | apply Drawn0.step)⟩

/-! ### sluiceref01_Class: function 20 -/
def sluiceref01_Class.j0 : Nat → Int → Int → Bool → Option (Int)
  | 0, _, _, _ => none
  | k + 1, x3, x4, x10 => if x10 = true then (some 4) else (if x4 = 255 then (some 3) else (if x4 = 0 then (if x3 = 0 then (some 0) else (some 1)) else (some 2)))
def sluiceref01_Class.f (k : Nat) (a0 : Int) : Option (Int) := if (Int.tmod (a0 / 8388608) 256) = 255 then (sluiceref01_Class.j0 k (Int.tmod a0 8388608) (Int.tmod (a0 / 8388608) 256) ((Int.tmod a0 8388608) != 0)) else (sluiceref01_Class.j0 k (Int.tmod a0 8388608) (Int.tmod (a0 / 8388608) 256) false)
theorem sluiceref01_Class.mono_l : ∀ k, (∀ y0 y1 y2, LeO (sluiceref01_Class.j0 k y0 y1 y2) (sluiceref01_Class.j0 (k + 1) y0 y1 y2))
  | 0 => fun _ _ _ r h => by simp [sluiceref01_Class.j0] at h
  | k + 1 => by
    have ih0 := sluiceref01_Class.mono_l k
    · intro y0 y1 y2
      unfold sluiceref01_Class.j0
      repeat' first
      | (with_reducible exact ih0 _ _ _)
      | (with_reducible exact LeO.refl _)
      | (with_reducible exact LeO.none _)
      | (with_reducible refine LeO.ite ?_ ?_)
      | (with_reducible refine LeO.bind ?_ (fun _ => ?_))
      | exact ih0 _ _ _
      | exact LeO.none _
      | refine LeO.ite ?_ ?_
      | refine LeO.bind ?_ (fun _ => ?_)
theorem sluiceref01_Class.mono : ∀ a0 k, LeO (sluiceref01_Class.f k a0) (sluiceref01_Class.f (k + 1) a0) := by
  intro a0 k
  have ih0 := sluiceref01_Class.mono_l k
  unfold sluiceref01_Class.f
  repeat' first
      | (with_reducible exact ih0 _ _ _)
      | (with_reducible exact LeO.refl _)
      | (with_reducible exact LeO.none _)
      | (with_reducible refine LeO.ite ?_ ?_)
      | (with_reducible refine LeO.bind ?_ (fun _ => ?_))
      | exact ih0 _ _ _
      | exact LeO.none _
      | refine LeO.ite ?_ ?_
      | refine LeO.bind ?_ (fun _ => ?_)
set_option maxHeartbeats 8000000 in
set_option maxRecDepth 100000 in
theorem sluiceref01_Class.calls (k : Nat) (a0 : Int) (r : Int) (w : World) (h : sluiceref01_Class.f k a0 = some r) :
    Calls Tryd.prog 20 #[.int .u32 a0] w fun e w' => e = .returned (.int .i64 r) ∧ Drawn0 w w' := by
  have H : (if (Int.tmod (a0 / 8388608) 256) = 255 then (sluiceref01_Class.j0 k (Int.tmod a0 8388608) (Int.tmod (a0 / 8388608) 256) ((Int.tmod a0 8388608) != 0)) else (sluiceref01_Class.j0 k (Int.tmod a0 8388608) (Int.tmod (a0 / 8388608) 256) false)) = some r := h
  clear h
  have HC2 := Aside0.mk H
  clear H
  go_enter Tryd.func20, Tryd.ntmps20
  go_upto_region 3 with (fail)
  go_cut [10] (fun v10 wc => ∃ (kq : Nat) (x10_1 : Bool), v10 = .bool x10_1 ∧ Aside0 (sluiceref01_Class.j0 kq (Int.tmod a0 8388608) (Int.tmod (a0 / 8388608) 256) x10_1 = some r) ∧ Aside0 (kq ≤ k) ∧ Drawn0 w wc)
  case first =>
    have H := HC2.out
    clear HC2
    by_cases c3 : (Int.tmod (a0 / 8388608) 256) = 255
    · rw [if_pos c3] at H
      have c3b0 : ((Int.tmod (a0 / 8388608) 256) == 255) = true := beq_iff_eq.mpr c3
      have c3b1 : ((Int.tmod (a0 / 8388608) 256) != 255) = false := bne_eq_false_iff_eq.mpr c3
      clear c3
      (first | rw [c3b0] | (simp only [i64_w, i32_w]; rw [c3b0]) | skip)
      have H' := Aside0.mk H
      clear H
      go_wp2
      go_meet
      case rel => exact ⟨_, (((Int.tmod a0 8388608) != 0)), (by first | rfl | (simp; done) | (simp [*]; done)), H', ⟨by first | omega | exact Nat.le_refl _⟩, by repeat (first | exact Drawn0.refl _ | apply Drawn0.step)⟩
    · rw [if_neg c3] at H
      have c3b0 : ((Int.tmod (a0 / 8388608) 256) == 255) = false := beq_eq_false_iff_ne.mpr c3
      have c3b1 : ((Int.tmod (a0 / 8388608) 256) != 255) = true := bne_iff_ne.mpr c3
      (first | rw [c3b0] | (simp only [i64_w, i32_w]; rw [c3b0]) | skip)
      have H' := Aside0.mk H
      clear H
      go_wp2
      go_meet
      case rel => exact ⟨_, (false), (by first | rfl | (simp; done) | (simp [*]; done)), H', ⟨by first | omega | exact Nat.le_refl _⟩, by repeat (first | exact Drawn0.refl _ | apply Drawn0.step)⟩
  case rest =>
    clear HC2
    try clear c2
    try clear p2
    try clear c3
    try clear c3b0
    try clear c3b1
    obtain ⟨kq, x10_1, rfl, HA, HJ1, ⟨mc1, rfl⟩⟩ := hcut
    cases kq with
    | zero => exact absurd HA.out (by simp [sluiceref01_Class.j0])
    | succ kj1 =>
      have H := HA.out
      clear HA
      simp only [sluiceref01_Class.j0] at H
      by_cases c4 : x10_1 = true
      · subst c4
        have H1 : (some 4) = some r := by rw [if_pos rfl] at H; exact H
        clear H
        have H := H1
        clear H1
        obtain rfl := Option.some.inj H
        go_wp2
        go_ret
        exact ⟨by first | rfl | (simp; done) | (simp [*]; done), by repeat (first | exact Drawn0.refl _ | apply Drawn0.step)⟩
      · replace c4 := Bool.eq_false_iff.mpr c4
        subst c4
        have H1 : (if (Int.tmod (a0 / 8388608) 256) = 255 then (some 3) else (if (Int.tmod (a0 / 8388608) 256) = 0 then (if (Int.tmod a0 8388608) = 0 then (some 0) else (some 1)) else (some 2))) = some r := by rw [if_neg (show ¬ (false = true) by decide)] at H; exact H
        clear H
        have H := H1
        clear H1
        by_cases c5 : (Int.tmod (a0 / 8388608) 256) = 255
        · rw [if_pos c5] at H
          have c5b0 : ((Int.tmod (a0 / 8388608) 256) == 255) = true := beq_iff_eq.mpr c5
          have c5b1 : ((Int.tmod (a0 / 8388608) 256) != 255) = false := bne_eq_false_iff_eq.mpr c5
          clear c5
          obtain rfl := Option.some.inj H
          go_wp2
          go_ret
          exact ⟨by first | rfl | (simp; done) | (simp [*]; done), by repeat (first | exact Drawn0.refl _ | apply Drawn0.step)⟩
        · rw [if_neg c5] at H
          have c5b0 : ((Int.tmod (a0 / 8388608) 256) == 255) = false := beq_eq_false_iff_ne.mpr c5
          have c5b1 : ((Int.tmod (a0 / 8388608) 256) != 255) = true := bne_iff_ne.mpr c5
          by_cases c6 : (Int.tmod (a0 / 8388608) 256) = 0
          · rw [if_pos c6] at H
            have c6b0 : ((Int.tmod (a0 / 8388608) 256) == 0) = true := beq_iff_eq.mpr c6
            have c6b1 : ((Int.tmod (a0 / 8388608) 256) != 0) = false := bne_eq_false_iff_eq.mpr c6
            clear c6
            by_cases c7 : (Int.tmod a0 8388608) = 0
            · rw [if_pos c7] at H
              have c7b0 : ((Int.tmod a0 8388608) == 0) = true := beq_iff_eq.mpr c7
              have c7b1 : ((Int.tmod a0 8388608) != 0) = false := bne_eq_false_iff_eq.mpr c7
              clear c7
              obtain rfl := Option.some.inj H
              go_wp2
              go_ret
              exact ⟨by first | rfl | (simp; done) | (simp [*]; done), by repeat (first | exact Drawn0.refl _ | apply Drawn0.step)⟩
            · rw [if_neg c7] at H
              have c7b0 : ((Int.tmod a0 8388608) == 0) = false := beq_eq_false_iff_ne.mpr c7
              have c7b1 : ((Int.tmod a0 8388608) != 0) = true := bne_iff_ne.mpr c7
              obtain rfl := Option.some.inj H
              go_wp2
              go_ret
              exact ⟨by first | rfl | (simp; done) | (simp [*]; done), by repeat (first | exact Drawn0.refl _ | apply Drawn0.step)⟩
          · rw [if_neg c6] at H
            have c6b0 : ((Int.tmod (a0 / 8388608) 256) == 0) = false := beq_eq_false_iff_ne.mpr c6
            have c6b1 : ((Int.tmod (a0 / 8388608) 256) != 0) = true := bne_iff_ne.mpr c6
            obtain rfl := Option.some.inj H
            go_wp2
            go_ret
            exact ⟨by first | rfl | (simp; done) | (simp [*]; done), by repeat (first | exact Drawn0.refl _ | apply Drawn0.step)⟩

/-! ### grain_OfRank: function 21 -/
def grain_OfRank.j0 : Nat → Int → Bool → Option (Int × Int)
  | 0, _, _ => none
  | k + 1, x0, x4 => if x4 = true then (some (0, 12)) else (if x0 < 0 then (some (Go.bits .or .u32 ((Go.bits .xor .i64 (-1) x0) % 4294967296) 2147483648, 0)) else (some ((x0) % 4294967296, 0)))
def grain_OfRank.f (k : Nat) (a0 : Int) : Option (Int × Int) := if a0 < (-2147483648) then (grain_OfRank.j0 k a0 true) else (grain_OfRank.j0 k a0 (decide (a0 > 2147483647)))
theorem grain_OfRank.mono_l : ∀ k, (∀ y0 y1, LeO (grain_OfRank.j0 k y0 y1) (grain_OfRank.j0 (k + 1) y0 y1))
  | 0 => fun _ _ r h => by simp [grain_OfRank.j0] at h
  | k + 1 => by
    have ih0 := grain_OfRank.mono_l k
    · intro y0 y1
      unfold grain_OfRank.j0
      repeat' first
      | (with_reducible exact ih0 _ _)
      | (with_reducible exact LeO.refl _)
      | (with_reducible exact LeO.none _)
      | (with_reducible refine LeO.ite ?_ ?_)
      | (with_reducible refine LeO.bind ?_ (fun _ => ?_))
      | exact ih0 _ _
      | exact LeO.none _
      | refine LeO.ite ?_ ?_
      | refine LeO.bind ?_ (fun _ => ?_)
theorem grain_OfRank.mono : ∀ a0 k, LeO (grain_OfRank.f k a0) (grain_OfRank.f (k + 1) a0) := by
  intro a0 k
  have ih0 := grain_OfRank.mono_l k
  unfold grain_OfRank.f
  repeat' first
      | (with_reducible exact ih0 _ _)
      | (with_reducible exact LeO.refl _)
      | (with_reducible exact LeO.none _)
      | (with_reducible refine LeO.ite ?_ ?_)
      | (with_reducible refine LeO.bind ?_ (fun _ => ?_))
      | exact ih0 _ _
      | exact LeO.none _
      | refine LeO.ite ?_ ?_
      | refine LeO.bind ?_ (fun _ => ?_)
set_option maxHeartbeats 8000000 in
set_option maxRecDepth 100000 in
theorem grain_OfRank.calls (k : Nat) (a0 : Int) (r1 : Int) (r2 : Int) (w : World) (h : grain_OfRank.f k a0 = some (r1, r2)) :
    Calls Tryd.prog 21 #[.int .i64 a0] w fun e w' => e = .returned (.tuple #[.int .u32 r1, .int .i64 r2]) ∧ Drawn0 w w' := by
  have H : (if a0 < (-2147483648) then (grain_OfRank.j0 k a0 true) else (grain_OfRank.j0 k a0 (decide (a0 > 2147483647)))) = some (r1, r2) := h
  clear h
  have HC2 := Aside0.mk H
  clear H
  go_enter Tryd.func21, Tryd.ntmps21
  go_upto_region 1 with (fail)
  go_cut [4] (fun v4 wc => ∃ (kq : Nat) (x4_1 : Bool), v4 = .bool x4_1 ∧ Aside0 (grain_OfRank.j0 kq a0 x4_1 = some (r1, r2)) ∧ Aside0 (kq ≤ k) ∧ Drawn0 w wc)
  case first =>
    have H := HC2.out
    clear HC2
    by_cases c3 : a0 < (-2147483648)
    · rw [if_pos c3] at H
      have c3b0 : decide (a0 < (-2147483648)) = true := decide_eq_true c3
      clear c3
      (first | rw [c3b0] | (simp only [i64_w, i32_w]; rw [c3b0]) | skip)
      have H' := Aside0.mk H
      clear H
      go_wp2
      go_meet
      case rel => exact ⟨_, (true), (by first | rfl | (simp; done) | (simp [*]; done)), H', ⟨by first | omega | exact Nat.le_refl _⟩, by repeat (first | exact Drawn0.refl _ | apply Drawn0.step)⟩
    · rw [if_neg c3] at H
      have c3b0 : decide (a0 < (-2147483648)) = false := decide_eq_false c3
      clear c3
      (first | rw [c3b0] | (simp only [i64_w, i32_w]; rw [c3b0]) | skip)
      have H' := Aside0.mk H
      clear H
      go_wp2
      go_meet
      case rel => exact ⟨_, (decide (a0 > 2147483647)), (by first | rfl | (simp; done) | (simp [*]; done)), H', ⟨by first | omega | exact Nat.le_refl _⟩, by repeat (first | exact Drawn0.refl _ | apply Drawn0.step)⟩
  case rest =>
    clear HC2
    try clear c2
    try clear p2
    try clear c3
    try clear c3b0
    obtain ⟨kq, x4_1, rfl, HA, HJ1, ⟨mc1, rfl⟩⟩ := hcut
    cases kq with
    | zero => exact absurd HA.out (by simp [grain_OfRank.j0])
    | succ kj1 =>
      have H := HA.out
      clear HA
      simp only [grain_OfRank.j0] at H
      by_cases c4 : x4_1 = true
      · subst c4
        have H1 : (some (0, 12)) = some (r1, r2) := by rw [if_pos rfl] at H; exact H
        clear H
        have H := H1
        clear H1
        simp only [Option.some.injEq, Prod.mk.injEq] at H
        obtain ⟨rfl, rfl⟩ := H
        go_wp2
        go_ret2
        exact ⟨by first | rfl | (simp; done) | (simp [*]; done), by repeat (first | exact Drawn0.refl _ | apply Drawn0.step)⟩
      · replace c4 := Bool.eq_false_iff.mpr c4
        subst c4
        have H1 : (if a0 < 0 then (some (Go.bits .or .u32 ((Go.bits .xor .i64 (-1) a0) % 4294967296) 2147483648, 0)) else (some ((a0) % 4294967296, 0))) = some (r1, r2) := by rw [if_neg (show ¬ (false = true) by decide)] at H; exact H
        clear H
        have H := H1
        clear H1
        by_cases c5 : a0 < 0
        · rw [if_pos c5] at H
          have c5b0 : decide (a0 < 0) = true := decide_eq_true c5
          clear c5
          simp only [Option.some.injEq, Prod.mk.injEq] at H
          obtain ⟨rfl, rfl⟩ := H
          go_wp2
          go_ret2
          exact ⟨by first | rfl | (simp; done) | (simp [*]; done), by repeat (first | exact Drawn0.refl _ | apply Drawn0.step)⟩
        · rw [if_neg c5] at H
          have c5b0 : decide (a0 < 0) = false := decide_eq_false c5
          clear c5
          simp only [Option.some.injEq, Prod.mk.injEq] at H
          obtain ⟨rfl, rfl⟩ := H
          go_wp2
          go_ret2
          exact ⟨by first | rfl | (simp; done) | (simp [*]; done), by repeat (first | exact Drawn0.refl _ | apply Drawn0.step)⟩

/-! ### sluiceref01_OfRank: function 22 -/
def sluiceref01_OfRank.j0 : Nat → Int → Bool → Option (Int × Int)
  | 0, _, _ => none
  | k + 1, x0, x9 => if x9 = true then (some (0, 12)) else (if x0 ≥ 0 then (some ((x0) % 4294967296, 0)) else (some ((wrap64 (2147483648 + (wrap64 ((-1) - x0)))) % 4294967296, 0)))
def sluiceref01_OfRank.f (k : Nat) (a0 : Int) : Option (Int × Int) := if a0 < (-2147483648) then (sluiceref01_OfRank.j0 k a0 true) else (sluiceref01_OfRank.j0 k a0 (decide (a0 ≥ 2147483648)))
theorem sluiceref01_OfRank.mono_l : ∀ k, (∀ y0 y1, LeO (sluiceref01_OfRank.j0 k y0 y1) (sluiceref01_OfRank.j0 (k + 1) y0 y1))
  | 0 => fun _ _ r h => by simp [sluiceref01_OfRank.j0] at h
  | k + 1 => by
    have ih0 := sluiceref01_OfRank.mono_l k
    · intro y0 y1
      unfold sluiceref01_OfRank.j0
      repeat' first
      | (with_reducible exact ih0 _ _)
      | (with_reducible exact LeO.refl _)
      | (with_reducible exact LeO.none _)
      | (with_reducible refine LeO.ite ?_ ?_)
      | (with_reducible refine LeO.bind ?_ (fun _ => ?_))
      | exact ih0 _ _
      | exact LeO.none _
      | refine LeO.ite ?_ ?_
      | refine LeO.bind ?_ (fun _ => ?_)
theorem sluiceref01_OfRank.mono : ∀ a0 k, LeO (sluiceref01_OfRank.f k a0) (sluiceref01_OfRank.f (k + 1) a0) := by
  intro a0 k
  have ih0 := sluiceref01_OfRank.mono_l k
  unfold sluiceref01_OfRank.f
  repeat' first
      | (with_reducible exact ih0 _ _)
      | (with_reducible exact LeO.refl _)
      | (with_reducible exact LeO.none _)
      | (with_reducible refine LeO.ite ?_ ?_)
      | (with_reducible refine LeO.bind ?_ (fun _ => ?_))
      | exact ih0 _ _
      | exact LeO.none _
      | refine LeO.ite ?_ ?_
      | refine LeO.bind ?_ (fun _ => ?_)
set_option maxHeartbeats 8000000 in
set_option maxRecDepth 100000 in
theorem sluiceref01_OfRank.calls (k : Nat) (a0 : Int) (r1 : Int) (r2 : Int) (w : World) (h : sluiceref01_OfRank.f k a0 = some (r1, r2)) :
    Calls Tryd.prog 22 #[.int .i64 a0] w fun e w' => e = .returned (.tuple #[.int .u32 r1, .int .i64 r2]) ∧ Drawn0 w w' := by
  have H : (if a0 < (-2147483648) then (sluiceref01_OfRank.j0 k a0 true) else (sluiceref01_OfRank.j0 k a0 (decide (a0 ≥ 2147483648)))) = some (r1, r2) := h
  clear h
  have HC2 := Aside0.mk H
  clear H
  go_enter Tryd.func22, Tryd.ntmps22
  go_upto_region 1 with (fail)
  go_cut [9] (fun v9 wc => ∃ (kq : Nat) (x9_1 : Bool), v9 = .bool x9_1 ∧ Aside0 (sluiceref01_OfRank.j0 kq a0 x9_1 = some (r1, r2)) ∧ Aside0 (kq ≤ k) ∧ Drawn0 w wc)
  case first =>
    have H := HC2.out
    clear HC2
    by_cases c3 : a0 < (-2147483648)
    · rw [if_pos c3] at H
      have c3b0 : decide (a0 < (-2147483648)) = true := decide_eq_true c3
      clear c3
      (first | rw [c3b0] | (simp only [i64_w, i32_w]; rw [c3b0]) | skip)
      have H' := Aside0.mk H
      clear H
      go_wp2
      go_meet
      case rel => exact ⟨_, (true), (by first | rfl | (simp; done) | (simp [*]; done)), H', ⟨by first | omega | exact Nat.le_refl _⟩, by repeat (first | exact Drawn0.refl _ | apply Drawn0.step)⟩
    · rw [if_neg c3] at H
      have c3b0 : decide (a0 < (-2147483648)) = false := decide_eq_false c3
      clear c3
      (first | rw [c3b0] | (simp only [i64_w, i32_w]; rw [c3b0]) | skip)
      have H' := Aside0.mk H
      clear H
      go_wp2
      go_meet
      case rel => exact ⟨_, (decide (a0 ≥ 2147483648)), (by first | rfl | (simp; done) | (simp [*]; done)), H', ⟨by first | omega | exact Nat.le_refl _⟩, by repeat (first | exact Drawn0.refl _ | apply Drawn0.step)⟩
  case rest =>
    clear HC2
    try clear c2
    try clear p2
    try clear c3
    try clear c3b0
    obtain ⟨kq, x9_1, rfl, HA, HJ1, ⟨mc1, rfl⟩⟩ := hcut
    cases kq with
    | zero => exact absurd HA.out (by simp [sluiceref01_OfRank.j0])
    | succ kj1 =>
      have H := HA.out
      clear HA
      simp only [sluiceref01_OfRank.j0] at H
      by_cases c4 : x9_1 = true
      · subst c4
        have H1 : (some (0, 12)) = some (r1, r2) := by rw [if_pos rfl] at H; exact H
        clear H
        have H := H1
        clear H1
        simp only [Option.some.injEq, Prod.mk.injEq] at H
        obtain ⟨rfl, rfl⟩ := H
        go_wp2
        go_ret2
        exact ⟨by first | rfl | (simp; done) | (simp [*]; done), by repeat (first | exact Drawn0.refl _ | apply Drawn0.step)⟩
      · replace c4 := Bool.eq_false_iff.mpr c4
        subst c4
        have H1 : (if a0 ≥ 0 then (some ((a0) % 4294967296, 0)) else (some ((wrap64 (2147483648 + (wrap64 ((-1) - a0)))) % 4294967296, 0))) = some (r1, r2) := by rw [if_neg (show ¬ (false = true) by decide)] at H; exact H
        clear H
        have H := H1
        clear H1
        by_cases c5 : a0 ≥ 0
        · rw [if_pos c5] at H
          have c5b0 : decide (0 ≤ a0) = true := decide_eq_true c5
          clear c5
          simp only [Option.some.injEq, Prod.mk.injEq] at H
          obtain ⟨rfl, rfl⟩ := H
          go_wp2
          go_ret2
          exact ⟨by first | rfl | (simp; done) | (simp [*]; done), by repeat (first | exact Drawn0.refl _ | apply Drawn0.step)⟩
        · rw [if_neg c5] at H
          have c5b0 : decide (0 ≤ a0) = false := decide_eq_false c5
          clear c5
          simp only [Option.some.injEq, Prod.mk.injEq] at H
          obtain ⟨rfl, rfl⟩ := H
          go_wp2
          go_ret2
          exact ⟨by first | rfl | (simp; done) | (simp [*]; done), by repeat (first | exact Drawn0.refl _ | apply Drawn0.step)⟩

/-! ### grain_Class: function 23 -/
def grain_Class.f (a0 : Int) : Option (Int) := if (Go.bits .andNot .u32 a0 2147483648) > 2139095040 then (some 4) else (if (Go.bits .andNot .u32 a0 2147483648) = 2139095040 then (some 3) else (if (Go.bits .andNot .u32 a0 2147483648) > 8388607 then (some 2) else (if (Go.bits .andNot .u32 a0 2147483648) > 0 then (some 1) else (some 0))))
set_option maxHeartbeats 8000000 in
set_option maxRecDepth 100000 in
theorem grain_Class.calls (a0 : Int) (r : Int) (w : World) (h : grain_Class.f a0 = some r) :
    Calls Tryd.prog 23 #[.int .u32 a0] w fun e w' => e = .returned (.int .i64 r) ∧ Drawn0 w w' := by
  have H : (if (Go.bits .andNot .u32 a0 2147483648) > 2139095040 then (some 4) else (if (Go.bits .andNot .u32 a0 2147483648) = 2139095040 then (some 3) else (if (Go.bits .andNot .u32 a0 2147483648) > 8388607 then (some 2) else (if (Go.bits .andNot .u32 a0 2147483648) > 0 then (some 1) else (some 0))))) = some r := h
  clear h
  by_cases c2 : (Go.bits .andNot .u32 a0 2147483648) > 2139095040
  · rw [if_pos c2] at H
    have c2b0 : decide (2139095040 < (Go.bits .andNot .u32 a0 2147483648)) = true := decide_eq_true c2
    clear c2
    obtain rfl := Option.some.inj H
    go_enter Tryd.func23, Tryd.ntmps23
    go_wp2
    go_ret
    exact ⟨by first | rfl | (simp; done) | (simp [*]; done), by repeat (first | exact Drawn0.refl _ | apply Drawn0.step)⟩
  · rw [if_neg c2] at H
    have c2b0 : decide (2139095040 < (Go.bits .andNot .u32 a0 2147483648)) = false := decide_eq_false c2
    clear c2
    by_cases c3 : (Go.bits .andNot .u32 a0 2147483648) = 2139095040
    · rw [if_pos c3] at H
      have c3b0 : ((Go.bits .andNot .u32 a0 2147483648) == 2139095040) = true := beq_iff_eq.mpr c3
      have c3b1 : ((Go.bits .andNot .u32 a0 2147483648) != 2139095040) = false := bne_eq_false_iff_eq.mpr c3
      clear c3
      obtain rfl := Option.some.inj H
      go_enter Tryd.func23, Tryd.ntmps23
      go_wp2
      go_ret
      exact ⟨by first | rfl | (simp; done) | (simp [*]; done), by repeat (first | exact Drawn0.refl _ | apply Drawn0.step)⟩
    · rw [if_neg c3] at H
      have c3b0 : ((Go.bits .andNot .u32 a0 2147483648) == 2139095040) = false := beq_eq_false_iff_ne.mpr c3
      have c3b1 : ((Go.bits .andNot .u32 a0 2147483648) != 2139095040) = true := bne_iff_ne.mpr c3
      by_cases c4 : (Go.bits .andNot .u32 a0 2147483648) > 8388607
      · rw [if_pos c4] at H
        have c4b0 : decide (8388607 < (Go.bits .andNot .u32 a0 2147483648)) = true := decide_eq_true c4
        clear c4
        obtain rfl := Option.some.inj H
        go_enter Tryd.func23, Tryd.ntmps23
        go_wp2
        go_ret
        exact ⟨by first | rfl | (simp; done) | (simp [*]; done), by repeat (first | exact Drawn0.refl _ | apply Drawn0.step)⟩
      · rw [if_neg c4] at H
        have c4b0 : decide (8388607 < (Go.bits .andNot .u32 a0 2147483648)) = false := decide_eq_false c4
        clear c4
        by_cases c5 : (Go.bits .andNot .u32 a0 2147483648) > 0
        · rw [if_pos c5] at H
          have c5b0 : decide (0 < (Go.bits .andNot .u32 a0 2147483648)) = true := decide_eq_true c5
          clear c5
          obtain rfl := Option.some.inj H
          go_enter Tryd.func23, Tryd.ntmps23
          go_wp2
          go_ret
          exact ⟨by first | rfl | (simp; done) | (simp [*]; done), by repeat (first | exact Drawn0.refl _ | apply Drawn0.step)⟩
        · rw [if_neg c5] at H
          have c5b0 : decide (0 < (Go.bits .andNot .u32 a0 2147483648)) = false := decide_eq_false c5
          clear c5
          obtain rfl := Option.some.inj H
          go_enter Tryd.func23, Tryd.ntmps23
          go_wp2
          go_ret
          exact ⟨by first | rfl | (simp; done) | (simp [*]; done), by repeat (first | exact Drawn0.refl _ | apply Drawn0.step)⟩

/-! ### grain_Rank: function 24 -/
def grain_Rank.f (a0 : Int) : Option (Int) := if (Go.bits .and .u32 a0 2147483648) = 0 then (some (wrap64 (a0))) else (some (Go.bits .xor .i64 (-1) (wrap64 (Go.bits .andNot .u32 a0 2147483648))))
set_option maxHeartbeats 8000000 in
set_option maxRecDepth 100000 in
theorem grain_Rank.calls (a0 : Int) (r : Int) (w : World) (h : grain_Rank.f a0 = some r) :
    Calls Tryd.prog 24 #[.int .u32 a0] w fun e w' => e = .returned (.int .i64 r) ∧ Drawn0 w w' := by
  have H : (if (Go.bits .and .u32 a0 2147483648) = 0 then (some (wrap64 (a0))) else (some (Go.bits .xor .i64 (-1) (wrap64 (Go.bits .andNot .u32 a0 2147483648))))) = some r := h
  clear h
  by_cases c2 : (Go.bits .and .u32 a0 2147483648) = 0
  · rw [if_pos c2] at H
    have c2b0 : ((Go.bits .and .u32 a0 2147483648) == 0) = true := beq_iff_eq.mpr c2
    have c2b1 : ((Go.bits .and .u32 a0 2147483648) != 0) = false := bne_eq_false_iff_eq.mpr c2
    clear c2
    obtain rfl := Option.some.inj H
    go_enter Tryd.func24, Tryd.ntmps24
    go_wp2
    go_ret
    exact ⟨by first | rfl | (simp; done) | (simp [*]; done), by repeat (first | exact Drawn0.refl _ | apply Drawn0.step)⟩
  · rw [if_neg c2] at H
    have c2b0 : ((Go.bits .and .u32 a0 2147483648) == 0) = false := beq_eq_false_iff_ne.mpr c2
    have c2b1 : ((Go.bits .and .u32 a0 2147483648) != 0) = true := bne_iff_ne.mpr c2
    obtain rfl := Option.some.inj H
    go_enter Tryd.func24, Tryd.ntmps24
    go_wp2
    go_ret
    exact ⟨by first | rfl | (simp; done) | (simp [*]; done), by repeat (first | exact Drawn0.refl _ | apply Drawn0.step)⟩

/-! ### sluiceref01_Rank: function 25 -/
def sluiceref01_Rank.f (a0 : Int) : Option (Int) := if a0 < 2147483648 then (some (wrap64 (a0))) else (some (wrap64 ((-1) - (wrap64 ((wrap64 (a0)) - 2147483648)))))
set_option maxHeartbeats 8000000 in
set_option maxRecDepth 100000 in
theorem sluiceref01_Rank.calls (a0 : Int) (r : Int) (w : World) (h : sluiceref01_Rank.f a0 = some r) :
    Calls Tryd.prog 25 #[.int .u32 a0] w fun e w' => e = .returned (.int .i64 r) ∧ Drawn0 w w' := by
  have H : (if a0 < 2147483648 then (some (wrap64 (a0))) else (some (wrap64 ((-1) - (wrap64 ((wrap64 (a0)) - 2147483648)))))) = some r := h
  clear h
  by_cases c2 : a0 < 2147483648
  · rw [if_pos c2] at H
    have c2b0 : decide (a0 < 2147483648) = true := decide_eq_true c2
    clear c2
    obtain rfl := Option.some.inj H
    go_enter Tryd.func25, Tryd.ntmps25
    go_wp2
    go_ret
    exact ⟨by first | rfl | (simp; done) | (simp [*]; done), by repeat (first | exact Drawn0.refl _ | apply Drawn0.step)⟩
  · rw [if_neg c2] at H
    have c2b0 : decide (a0 < 2147483648) = false := decide_eq_false c2
    clear c2
    obtain rfl := Option.some.inj H
    go_enter Tryd.func25, Tryd.ntmps25
    go_wp2
    go_ret
    exact ⟨by first | rfl | (simp; done) | (simp [*]; done), by repeat (first | exact Drawn0.refl _ | apply Drawn0.step)⟩

/-! ### bits_TrailingZeros32: function 39 -/
def bits_TrailingZeros32.ix (a0 : Int) : Int := (((Go.bits .and .u32 a0 ((-a0) % 4294967296)) * 125613361) % 4294967296) / 134217728
def bits_TrailingZeros32.f (a0 : Int) : Option (Int) := if a0 = 0 then some 32 else some (wrap64 (Glob.debruijn.getD (bits_TrailingZeros32.ix a0).toNat 0))
theorem bits_TrailingZeros32.ix_range (a0 : Int) : 0 ≤ bits_TrailingZeros32.ix a0 ∧ bits_TrailingZeros32.ix a0 < 32 := by
  unfold bits_TrailingZeros32.ix
  generalize Go.bits .and .u32 a0 ((-a0) % 4294967296) = b
  omega
set_option maxHeartbeats 2000000 in
set_option maxRecDepth 100000 in
theorem bits_TrailingZeros32.calls (a0 : Int) (r : Int) (w : World) (h : bits_TrailingZeros32.f a0 = some r) (hGD : Glob.GD w) :
    Calls Tryd.prog 39 #[.int .u32 a0] w fun e w' => e = .returned (.int .i64 r) ∧ Drawn0 w w' := by
  unfold bits_TrailingZeros32.f at h
  by_cases c : a0 = 0
  · rw [if_pos c] at h
    have cb : (a0 == 0) = true := beq_iff_eq.mpr c
    obtain rfl := Option.some.inj h
    clear c h hGD
    go_enter Tryd.func39, Tryd.ntmps39
    go_wp2
    go_ret
    exact ⟨by first | rfl | (simp; done) | (simp [*]; done), by repeat (first | exact Drawn0.refl _ | apply Drawn0.step)⟩
  · rw [if_neg c] at h
    have cb : (a0 == 0) = false := beq_eq_false_iff_ne.mpr c
    obtain rfl := Option.some.inj h
    have hr := bits_TrailingZeros32.ix_range a0
    have hc := hGD.cell (bits_TrailingZeros32.ix a0) hr.1 hr.2
    clear c h hGD
    generalize hT : Glob.debruijn.getD (bits_TrailingZeros32.ix a0).toNat 0 = T at *
    unfold bits_TrailingZeros32.ix at hc hr
    obtain ⟨h0, h1⟩ := hr
    clear hT
    go_enter Tryd.func39, Tryd.ntmps39
    go_wp2
    go_ret
    exact ⟨by first | rfl | (simp; done) | (simp [*]; done), by repeat (first | exact Drawn0.refl _ | apply Drawn0.step)⟩

/-! ### grain_Parts: function 26 -/
def grain_Parts.f (a0 : Int) : Option (Bool × Int × Int × Int) := if (Go.bits .andNot .u32 a0 2147483648) ≥ 2139095040 then (some (false, 0, 0, 16)) else (if (wrap64 ((Go.bits .andNot .u32 a0 2147483648) / 8388608)) > 0 then (if (Go.bits .or .u32 (Go.bits .and .u32 a0 8388607) 8388608) = 0 then (some (((Go.bits .and .u32 a0 2147483648) != 0), 0, 0, 0)) else ((bits_TrailingZeros32.f (Go.bits .or .u32 (Go.bits .and .u32 a0 8388607) 8388608)).bind fun t101 => (if 0 ≤ t101 then (some (((Go.bits .and .u32 a0 2147483648) != 0), shr .u32 (Go.bits .or .u32 (Go.bits .and .u32 a0 8388607) 8388608) t101, wrap64 ((wrap64 ((wrap64 ((wrap64 ((Go.bits .andNot .u32 a0 2147483648) / 8388608)) - 1)) - 149)) + t101), 0)) else (none)))) else (if (Go.bits .and .u32 a0 8388607) = 0 then (some (((Go.bits .and .u32 a0 2147483648) != 0), 0, 0, 0)) else ((bits_TrailingZeros32.f (Go.bits .and .u32 a0 8388607)).bind fun t102 => (if 0 ≤ t102 then (some (((Go.bits .and .u32 a0 2147483648) != 0), shr .u32 (Go.bits .and .u32 a0 8388607) t102, wrap64 ((wrap64 ((wrap64 ((Go.bits .andNot .u32 a0 2147483648) / 8388608)) - 149)) + t102), 0)) else (none)))))
set_option maxHeartbeats 8000000 in
set_option maxRecDepth 100000 in
theorem grain_Parts.calls (a0 : Int) (r1 : Bool) (r2 : Int) (r3 : Int) (r4 : Int) (w : World) (h : grain_Parts.f a0 = some (r1, r2, r3, r4)) (hGD : Glob.GD w) :
    Calls Tryd.prog 26 #[.int .u32 a0] w fun e w' => e = .returned (.tuple #[.bool r1, .int .u32 r2, .int .i64 r3, .int .i64 r4]) ∧ Drawn0 w w' := by
  have H : (if (Go.bits .andNot .u32 a0 2147483648) ≥ 2139095040 then (some (false, 0, 0, 16)) else (if (wrap64 ((Go.bits .andNot .u32 a0 2147483648) / 8388608)) > 0 then (if (Go.bits .or .u32 (Go.bits .and .u32 a0 8388607) 8388608) = 0 then (some (((Go.bits .and .u32 a0 2147483648) != 0), 0, 0, 0)) else ((bits_TrailingZeros32.f (Go.bits .or .u32 (Go.bits .and .u32 a0 8388607) 8388608)).bind fun t101 => (if 0 ≤ t101 then (some (((Go.bits .and .u32 a0 2147483648) != 0), shr .u32 (Go.bits .or .u32 (Go.bits .and .u32 a0 8388607) 8388608) t101, wrap64 ((wrap64 ((wrap64 ((wrap64 ((Go.bits .andNot .u32 a0 2147483648) / 8388608)) - 1)) - 149)) + t101), 0)) else (none)))) else (if (Go.bits .and .u32 a0 8388607) = 0 then (some (((Go.bits .and .u32 a0 2147483648) != 0), 0, 0, 0)) else ((bits_TrailingZeros32.f (Go.bits .and .u32 a0 8388607)).bind fun t102 => (if 0 ≤ t102 then (some (((Go.bits .and .u32 a0 2147483648) != 0), shr .u32 (Go.bits .and .u32 a0 8388607) t102, wrap64 ((wrap64 ((wrap64 ((Go.bits .andNot .u32 a0 2147483648) / 8388608)) - 149)) + t102), 0)) else (none)))))) = some (r1, r2, r3, r4) := h
  clear h
  by_cases c2 : (Go.bits .andNot .u32 a0 2147483648) ≥ 2139095040
  · rw [if_pos c2] at H
    have c2b0 : decide (2139095040 ≤ (Go.bits .andNot .u32 a0 2147483648)) = true := decide_eq_true c2
    clear c2
    simp only [Option.some.injEq, Prod.mk.injEq] at H
    obtain ⟨rfl, rfl, rfl, rfl⟩ := H
    go_enter Tryd.func26, Tryd.ntmps26
    go_wp2
    repeat (go_quiet (fail); try go_wp2)
    refine bodyPost_ret (results_list (rs := [.tmp 2, .tmp 3, .tmp 4, .tmp 5]) rfl (by simp) (.tmp (.tmp (.tmp (.tmp .nil))))) rfl ?_
    exact ⟨by first | rfl | (simp; done) | (simp [*]; done), by repeat (first | exact Drawn0.refl _ | apply Drawn0.step)⟩
  · rw [if_neg c2] at H
    have c2b0 : decide (2139095040 ≤ (Go.bits .andNot .u32 a0 2147483648)) = false := decide_eq_false c2
    clear c2
    by_cases c3 : (wrap64 ((Go.bits .andNot .u32 a0 2147483648) / 8388608)) > 0
    · rw [if_pos c3] at H
      have c3b0 : decide (0 < (wrap64 ((Go.bits .andNot .u32 a0 2147483648) / 8388608))) = true := decide_eq_true c3
      clear c3
      by_cases c4 : (Go.bits .or .u32 (Go.bits .and .u32 a0 8388607) 8388608) = 0
      · rw [if_pos c4] at H
        have c4b0 : ((Go.bits .or .u32 (Go.bits .and .u32 a0 8388607) 8388608) == 0) = true := beq_iff_eq.mpr c4
        have c4b1 : ((Go.bits .or .u32 (Go.bits .and .u32 a0 8388607) 8388608) != 0) = false := bne_eq_false_iff_eq.mpr c4
        clear c4
        simp only [Option.some.injEq, Prod.mk.injEq] at H
        obtain ⟨rfl, rfl, rfl, rfl⟩ := H
        go_enter Tryd.func26, Tryd.ntmps26
        go_wp2
        repeat (go_quiet (fail); try go_wp2)
        refine bodyPost_ret (results_list (rs := [.tmp 2, .tmp 3, .tmp 4, .tmp 5]) rfl (by simp) (.tmp (.tmp (.tmp (.tmp .nil))))) rfl ?_
        exact ⟨by first | rfl | (simp; done) | (simp [*]; done), by repeat (first | exact Drawn0.refl _ | apply Drawn0.step)⟩
      · rw [if_neg c4] at H
        have c4b0 : ((Go.bits .or .u32 (Go.bits .and .u32 a0 8388607) 8388608) == 0) = false := beq_eq_false_iff_ne.mpr c4
        have c4b1 : ((Go.bits .or .u32 (Go.bits .and .u32 a0 8388607) 8388608) != 0) = true := bne_iff_ne.mpr c4
        replace H := Option.bind_eq_some_iff.mp H
        obtain ⟨t101, A50, H⟩ := H
        replace H : (if 0 ≤ t101 then (some (((Go.bits .and .u32 a0 2147483648) != 0), shr .u32 (Go.bits .or .u32 (Go.bits .and .u32 a0 8388607) 8388608) t101, wrap64 ((wrap64 ((wrap64 ((wrap64 ((Go.bits .andNot .u32 a0 2147483648) / 8388608)) - 1)) - 149)) + t101), 0)) else (none)) = some (r1, r2, r3, r4) := H
        have A5 := Aside0.mk A50
        clear A50
        by_cases c6 : 0 ≤ t101
        · rw [if_pos c6] at H
          have c6b0 := eq_true c6
          have c6b1 : decide (0 ≤ t101) = true := decide_eq_true c6
          clear c6
          obtain ⟨ji7, hji7⟩ : ∃ j_ : Int, (shr .u32 (Go.bits .or .u32 (Go.bits .and .u32 a0 8388607) 8388608) t101) = j_ := ⟨_, rfl⟩
          replace H : (some (((Go.bits .and .u32 a0 2147483648) != 0), ji7, wrap64 ((wrap64 ((wrap64 ((wrap64 ((Go.bits .andNot .u32 a0 2147483648) / 8388608)) - 1)) - 149)) + t101), 0)) = some (r1, r2, r3, r4) := by first | (rw [hji7] at H; exact H) | (simp only [hji7] at H ⊢; exact H)
          (try rw [hji7] at A5)
          have hji7_ : ((Go.bits .or .u32 (Go.bits .and .u32 a0 8388607) 8388608) / 2 ^ min t101.toNat 32) = ji7 := hji7
          have hji7z : t101 ≤ 32 → ((Go.bits .or .u32 (Go.bits .and .u32 a0 8388607) 8388608) / 2 ^ t101.toNat) = ji7 := shr_small hji7
          simp only [Option.some.injEq, Prod.mk.injEq] at H
          obtain ⟨rfl, rfl, rfl, rfl⟩ := H
          go_enter Tryd.func26, Tryd.ntmps26
          go_wp2_with (first | (go_at_call 39; (with_reducible refine (bits_TrailingZeros32.calls (Go.bits .or .u32 (Go.bits .and .u32 a0 8388607) 8388608) t101 _ A5.out (by first | exact hGD | ((repeat (first | exact hGD | apply Glob.GD.drewN | apply Glob.GD.drew | apply Glob.GD.alloc)); done) | exact Glob.GD.below hGD (by repeat (first | (with_reducible first | exact HB.out | apply below_alloc | apply pw_below_drewN | apply below_drew1) | exact HB.out)))).mono ?_); rintro e w' ⟨rfl, ⟨nd, rfl⟩⟩; (try first | exact ⟨rfl, _, World.drewN_drewN _ _ _⟩ | exact ⟨rfl, _, Eq.trans (World.drewN_drewN _ _ _) (congrArg (World.drewN _) (Nat.add_assoc _ _ _))⟩)))
          repeat (go_quiet (first | (go_at_call 39; (with_reducible refine (bits_TrailingZeros32.calls (Go.bits .or .u32 (Go.bits .and .u32 a0 8388607) 8388608) t101 _ A5.out (by first | exact hGD | ((repeat (first | exact hGD | apply Glob.GD.drewN | apply Glob.GD.drew | apply Glob.GD.alloc)); done) | exact Glob.GD.below hGD (by repeat (first | (with_reducible first | exact HB.out | apply below_alloc | apply pw_below_drewN | apply below_drew1) | exact HB.out)))).mono ?_); rintro e w' ⟨rfl, ⟨nd, rfl⟩⟩; (try first | exact ⟨rfl, _, World.drewN_drewN _ _ _⟩ | exact ⟨rfl, _, Eq.trans (World.drewN_drewN _ _ _) (congrArg (World.drewN _) (Nat.add_assoc _ _ _))⟩))); try go_wp2_with (first | (go_at_call 39; (with_reducible refine (bits_TrailingZeros32.calls (Go.bits .or .u32 (Go.bits .and .u32 a0 8388607) 8388608) t101 _ A5.out (by first | exact hGD | ((repeat (first | exact hGD | apply Glob.GD.drewN | apply Glob.GD.drew | apply Glob.GD.alloc)); done) | exact Glob.GD.below hGD (by repeat (first | (with_reducible first | exact HB.out | apply below_alloc | apply pw_below_drewN | apply below_drew1) | exact HB.out)))).mono ?_); rintro e w' ⟨rfl, ⟨nd, rfl⟩⟩; (try first | exact ⟨rfl, _, World.drewN_drewN _ _ _⟩ | exact ⟨rfl, _, Eq.trans (World.drewN_drewN _ _ _) (congrArg (World.drewN _) (Nat.add_assoc _ _ _))⟩))))
          refine bodyPost_ret (results_list (rs := [.tmp 2, .tmp 3, .tmp 4, .tmp 5]) rfl (by simp) (.tmp (.tmp (.tmp (.tmp .nil))))) rfl ?_
          exact ⟨by first | rfl | (simp; done) | (simp only [← hji7] <;> (first | rfl | simp)) | (simp [*]; done), by repeat (first | exact Drawn0.refl _ | apply Drawn0.step)⟩
        · rw [if_neg c6] at H
          exact absurd H (by simp)
    · rw [if_neg c3] at H
      have c3b0 : decide (0 < (wrap64 ((Go.bits .andNot .u32 a0 2147483648) / 8388608))) = false := decide_eq_false c3
      clear c3
      by_cases c8 : (Go.bits .and .u32 a0 8388607) = 0
      · rw [if_pos c8] at H
        have c8b0 : ((Go.bits .and .u32 a0 8388607) == 0) = true := beq_iff_eq.mpr c8
        have c8b1 : ((Go.bits .and .u32 a0 8388607) != 0) = false := bne_eq_false_iff_eq.mpr c8
        clear c8
        simp only [Option.some.injEq, Prod.mk.injEq] at H
        obtain ⟨rfl, rfl, rfl, rfl⟩ := H
        go_enter Tryd.func26, Tryd.ntmps26
        go_wp2
        repeat (go_quiet (fail); try go_wp2)
        refine bodyPost_ret (results_list (rs := [.tmp 2, .tmp 3, .tmp 4, .tmp 5]) rfl (by simp) (.tmp (.tmp (.tmp (.tmp .nil))))) rfl ?_
        exact ⟨by first | rfl | (simp; done) | (simp [*]; done), by repeat (first | exact Drawn0.refl _ | apply Drawn0.step)⟩
      · rw [if_neg c8] at H
        have c8b0 : ((Go.bits .and .u32 a0 8388607) == 0) = false := beq_eq_false_iff_ne.mpr c8
        have c8b1 : ((Go.bits .and .u32 a0 8388607) != 0) = true := bne_iff_ne.mpr c8
        replace H := Option.bind_eq_some_iff.mp H
        obtain ⟨t102, A90, H⟩ := H
        replace H : (if 0 ≤ t102 then (some (((Go.bits .and .u32 a0 2147483648) != 0), shr .u32 (Go.bits .and .u32 a0 8388607) t102, wrap64 ((wrap64 ((wrap64 ((Go.bits .andNot .u32 a0 2147483648) / 8388608)) - 149)) + t102), 0)) else (none)) = some (r1, r2, r3, r4) := H
        have A9 := Aside0.mk A90
        clear A90
        by_cases c10 : 0 ≤ t102
        · rw [if_pos c10] at H
          have c10b0 := eq_true c10
          have c10b1 : decide (0 ≤ t102) = true := decide_eq_true c10
          clear c10
          obtain ⟨ji11, hji11⟩ : ∃ j_ : Int, (shr .u32 (Go.bits .and .u32 a0 8388607) t102) = j_ := ⟨_, rfl⟩
          replace H : (some (((Go.bits .and .u32 a0 2147483648) != 0), ji11, wrap64 ((wrap64 ((wrap64 ((Go.bits .andNot .u32 a0 2147483648) / 8388608)) - 149)) + t102), 0)) = some (r1, r2, r3, r4) := by first | (rw [hji11] at H; exact H) | (simp only [hji11] at H ⊢; exact H)
          (try rw [hji11] at A9)
          have hji11_ : ((Go.bits .and .u32 a0 8388607) / 2 ^ min t102.toNat 32) = ji11 := hji11
          have hji11z : t102 ≤ 32 → ((Go.bits .and .u32 a0 8388607) / 2 ^ t102.toNat) = ji11 := shr_small hji11
          simp only [Option.some.injEq, Prod.mk.injEq] at H
          obtain ⟨rfl, rfl, rfl, rfl⟩ := H
          go_enter Tryd.func26, Tryd.ntmps26
          go_wp2_with (first | (go_at_call 39; (with_reducible refine (bits_TrailingZeros32.calls (Go.bits .and .u32 a0 8388607) t102 _ A9.out (by first | exact hGD | ((repeat (first | exact hGD | apply Glob.GD.drewN | apply Glob.GD.drew | apply Glob.GD.alloc)); done) | exact Glob.GD.below hGD (by repeat (first | (with_reducible first | exact HB.out | apply below_alloc | apply pw_below_drewN | apply below_drew1) | exact HB.out)))).mono ?_); rintro e w' ⟨rfl, ⟨nd, rfl⟩⟩; (try first | exact ⟨rfl, _, World.drewN_drewN _ _ _⟩ | exact ⟨rfl, _, Eq.trans (World.drewN_drewN _ _ _) (congrArg (World.drewN _) (Nat.add_assoc _ _ _))⟩)))
          repeat (go_quiet (first | (go_at_call 39; (with_reducible refine (bits_TrailingZeros32.calls (Go.bits .and .u32 a0 8388607) t102 _ A9.out (by first | exact hGD | ((repeat (first | exact hGD | apply Glob.GD.drewN | apply Glob.GD.drew | apply Glob.GD.alloc)); done) | exact Glob.GD.below hGD (by repeat (first | (with_reducible first | exact HB.out | apply below_alloc | apply pw_below_drewN | apply below_drew1) | exact HB.out)))).mono ?_); rintro e w' ⟨rfl, ⟨nd, rfl⟩⟩; (try first | exact ⟨rfl, _, World.drewN_drewN _ _ _⟩ | exact ⟨rfl, _, Eq.trans (World.drewN_drewN _ _ _) (congrArg (World.drewN _) (Nat.add_assoc _ _ _))⟩))); try go_wp2_with (first | (go_at_call 39; (with_reducible refine (bits_TrailingZeros32.calls (Go.bits .and .u32 a0 8388607) t102 _ A9.out (by first | exact hGD | ((repeat (first | exact hGD | apply Glob.GD.drewN | apply Glob.GD.drew | apply Glob.GD.alloc)); done) | exact Glob.GD.below hGD (by repeat (first | (with_reducible first | exact HB.out | apply below_alloc | apply pw_below_drewN | apply below_drew1) | exact HB.out)))).mono ?_); rintro e w' ⟨rfl, ⟨nd, rfl⟩⟩; (try first | exact ⟨rfl, _, World.drewN_drewN _ _ _⟩ | exact ⟨rfl, _, Eq.trans (World.drewN_drewN _ _ _) (congrArg (World.drewN _) (Nat.add_assoc _ _ _))⟩))))
          refine bodyPost_ret (results_list (rs := [.tmp 2, .tmp 3, .tmp 4, .tmp 5]) rfl (by simp) (.tmp (.tmp (.tmp (.tmp .nil))))) rfl ?_
          exact ⟨by first | rfl | (simp; done) | (simp only [← hji11] <;> (first | rfl | simp)) | (simp [*]; done), by repeat (first | exact Drawn0.refl _ | apply Drawn0.step)⟩
        · rw [if_neg c10] at H
          exact absurd H (by simp)

/-! ### sluiceref01_size: function 40 -/
def sluiceref01_size.f (a0 : Int) : Option (Int × Int) := if (wrap64 (a0 / 8388608)) = 0 then (some (IntKind.u64.wrap (Int.tmod a0 8388608), (-149))) else (some (IntKind.u64.wrap ((IntKind.u64.wrap (Int.tmod a0 8388608)) + 8388608), wrap64 ((wrap64 (a0 / 8388608)) - 150)))
set_option maxHeartbeats 8000000 in
set_option maxRecDepth 100000 in
theorem sluiceref01_size.calls (a0 : Int) (r1 : Int) (r2 : Int) (w : World) (h : sluiceref01_size.f a0 = some (r1, r2)) :
    Calls Tryd.prog 40 #[.int .u32 a0] w fun e w' => e = .returned (.tuple #[.int .u64 r1, .int .i64 r2]) ∧ Drawn0 w w' := by
  have H : (if (wrap64 (a0 / 8388608)) = 0 then (some (IntKind.u64.wrap (Int.tmod a0 8388608), (-149))) else (some (IntKind.u64.wrap ((IntKind.u64.wrap (Int.tmod a0 8388608)) + 8388608), wrap64 ((wrap64 (a0 / 8388608)) - 150)))) = some (r1, r2) := h
  clear h
  by_cases c2 : (wrap64 (a0 / 8388608)) = 0
  · rw [if_pos c2] at H
    have c2b0 : ((wrap64 (a0 / 8388608)) == 0) = true := beq_iff_eq.mpr c2
    have c2b1 : ((wrap64 (a0 / 8388608)) != 0) = false := bne_eq_false_iff_eq.mpr c2
    clear c2
    simp only [Option.some.injEq, Prod.mk.injEq] at H
    obtain ⟨rfl, rfl⟩ := H
    go_enter Tryd.func40, Tryd.ntmps40
    go_wp2
    go_ret2
    exact ⟨by first | rfl | (simp; done) | (simp [*]; done), by repeat (first | exact Drawn0.refl _ | apply Drawn0.step)⟩
  · rw [if_neg c2] at H
    have c2b0 : ((wrap64 (a0 / 8388608)) == 0) = false := beq_eq_false_iff_ne.mpr c2
    have c2b1 : ((wrap64 (a0 / 8388608)) != 0) = true := bne_iff_ne.mpr c2
    simp only [Option.some.injEq, Prod.mk.injEq] at H
    obtain ⟨rfl, rfl⟩ := H
    go_enter Tryd.func40, Tryd.ntmps40
    go_wp2
    go_ret2
    exact ⟨by first | rfl | (simp; done) | (simp [*]; done), by repeat (first | exact Drawn0.refl _ | apply Drawn0.step)⟩

/-! ### sluiceref01_Parts: function 27 -/
mutual
def sluiceref01_Parts.j0 : Nat → Int → Bool → Option (Bool × Int × Int × Int)
  | 0, _, _ => none
  | k + 1, x0, x17 => if x17 = true then (some (false, 0, 0, 16)) else ((sluiceref01_size.f (Int.tmod x0 2147483648)).bind fun bt104 => (if bt104.1 = 0 then (some (decide (x0 ≥ 2147483648), 0, 0, 0)) else (sluiceref01_Parts.l0 k (decide (x0 ≥ 2147483648)) bt104.1 bt104.2)))
def sluiceref01_Parts.l0 : Nat → Bool → Int → Int → Option (Bool × Int × Int × Int)
  | 0, _, _, _ => none
  | k + 1, x7, x8, x9 => if (Int.tmod x8 2) = 0 then (sluiceref01_Parts.l0 k x7 (IntKind.u64.wrap (Int.tdiv x8 2)) (wrap64 (x9 + 1))) else (some (x7, (x8) % 4294967296, x9, 0))
end
def sluiceref01_Parts.f (k : Nat) (a0 : Int) : Option (Bool × Int × Int × Int) := (sluiceref01_Class.f k a0).bind fun t103 => (if t103 = 3 then (sluiceref01_Parts.j0 k a0 true) else (sluiceref01_Parts.j0 k a0 (t103 == 4)))
theorem sluiceref01_Parts.mono_l : ∀ k, (∀ y0 y1, LeO (sluiceref01_Parts.j0 k y0 y1) (sluiceref01_Parts.j0 (k + 1) y0 y1)) ∧ (∀ y0 y1 y2, LeO (sluiceref01_Parts.l0 k y0 y1 y2) (sluiceref01_Parts.l0 (k + 1) y0 y1 y2))
  | 0 => ⟨fun _ _ r h => by simp [sluiceref01_Parts.j0] at h, fun _ _ _ r h => by simp [sluiceref01_Parts.l0] at h⟩
  | k + 1 => by
    obtain ⟨ih0, ih1⟩ := sluiceref01_Parts.mono_l k
    refine ⟨?_, ?_⟩
    · intro y0 y1
      unfold sluiceref01_Parts.j0
      repeat' first
      | (with_reducible exact ih0 _ _)
      | (with_reducible exact ih1 _ _ _)
      | (with_reducible exact sluiceref01_Class.mono _ _)
      | (with_reducible exact LeO.refl _)
      | (with_reducible exact LeO.none _)
      | (with_reducible refine LeO.ite ?_ ?_)
      | (with_reducible refine LeO.bind ?_ (fun _ => ?_))
      | exact ih0 _ _
      | exact ih1 _ _ _
      | exact sluiceref01_Class.mono _ _
      | exact LeO.none _
      | refine LeO.ite ?_ ?_
      | refine LeO.bind ?_ (fun _ => ?_)
    · intro y0 y1 y2
      unfold sluiceref01_Parts.l0
      repeat' first
      | (with_reducible exact ih0 _ _)
      | (with_reducible exact ih1 _ _ _)
      | (with_reducible exact sluiceref01_Class.mono _ _)
      | (with_reducible exact LeO.refl _)
      | (with_reducible exact LeO.none _)
      | (with_reducible refine LeO.ite ?_ ?_)
      | (with_reducible refine LeO.bind ?_ (fun _ => ?_))
      | exact ih0 _ _
      | exact ih1 _ _ _
      | exact sluiceref01_Class.mono _ _
      | exact LeO.none _
      | refine LeO.ite ?_ ?_
      | refine LeO.bind ?_ (fun _ => ?_)
theorem sluiceref01_Parts.mono : ∀ a0 k, LeO (sluiceref01_Parts.f k a0) (sluiceref01_Parts.f (k + 1) a0) := by
  intro a0 k
  obtain ⟨ih0, ih1⟩ := sluiceref01_Parts.mono_l k
  unfold sluiceref01_Parts.f
  repeat' first
      | (with_reducible exact ih0 _ _)
      | (with_reducible exact ih1 _ _ _)
      | (with_reducible exact sluiceref01_Class.mono _ _)
      | (with_reducible exact LeO.refl _)
      | (with_reducible exact LeO.none _)
      | (with_reducible refine LeO.ite ?_ ?_)
      | (with_reducible refine LeO.bind ?_ (fun _ => ?_))
      | exact ih0 _ _
      | exact ih1 _ _ _
      | exact sluiceref01_Class.mono _ _
      | exact LeO.none _
      | refine LeO.ite ?_ ?_
      | refine LeO.bind ?_ (fun _ => ?_)
set_option maxHeartbeats 8000000 in
set_option maxRecDepth 100000 in
theorem sluiceref01_Parts.calls (k : Nat) (a0 : Int) (r1 : Bool) (r2 : Int) (r3 : Int) (r4 : Int) (w : World) (h : sluiceref01_Parts.f k a0 = some (r1, r2, r3, r4)) :
    Calls Tryd.prog 27 #[.int .u32 a0] w fun e w' => e = .returned (.tuple #[.bool r1, .int .u32 r2, .int .i64 r3, .int .i64 r4]) ∧ Drawn0 w w' := by
  have H : ((sluiceref01_Class.f k a0).bind fun t103 => (if t103 = 3 then (sluiceref01_Parts.j0 k a0 true) else (sluiceref01_Parts.j0 k a0 (t103 == 4)))) = some (r1, r2, r3, r4) := h
  clear h
  replace H := Option.bind_eq_some_iff.mp H
  obtain ⟨t103, A20, H⟩ := H
  replace H : (if t103 = 3 then (sluiceref01_Parts.j0 k a0 true) else (sluiceref01_Parts.j0 k a0 (t103 == 4))) = some (r1, r2, r3, r4) := H
  have A2 := Aside0.mk A20
  clear A20
  have HC3 := Aside0.mk H
  clear H
  go_enter Tryd.func27, Tryd.ntmps27
  go_upto_region 2 with (first | ((with_reducible refine gate_callee (f := 20) rfl ?_); refine goesL_ (some 11) rfl rfl Tryd.func20 (by kernel_rfl) rfl #[.int .u32 a0] rfl (by (try simp only [List.map_toArray, List.map_cons, List.map_nil]); first | done | rfl | (simp only [List.length_drop, List.length_take]; rfl)) ?_; (with_reducible refine (sluiceref01_Class.calls k a0 t103 _ A2.out).mono ?_); rintro e w' ⟨rfl, ⟨nd, rfl⟩⟩; refine ⟨_, rfl, ?_⟩))
  (try simp only [Act.put, List.setIfInBounds_toArray, List.set_cons_zero, List.set_cons_succ])
  go_cut [17] (fun v17 wc => ∃ (kq : Nat) (x17_2 : Bool), v17 = .bool x17_2 ∧ Aside0 (sluiceref01_Parts.j0 kq a0 x17_2 = some (r1, r2, r3, r4)) ∧ Aside0 (kq ≤ k) ∧ Drawn0 w wc)
  case first =>
    have H := HC3.out
    clear HC3
    by_cases c4 : t103 = 3
    · rw [if_pos c4] at H
      have c4b0 : (t103 == 3) = true := beq_iff_eq.mpr c4
      have c4b1 : (t103 != 3) = false := bne_eq_false_iff_eq.mpr c4
      clear c4
      (first | rw [c4b0] | (simp only [i64_w, i32_w]; rw [c4b0]) | skip)
      have H' := Aside0.mk H
      clear H
      go_wp2
      go_meet
      case rel => exact ⟨_, (true), (by first | rfl | (simp; done) | (simp [*]; done)), H', ⟨by first | omega | exact Nat.le_refl _⟩, by repeat (first | exact Drawn0.refl _ | apply Drawn0.step)⟩
    · rw [if_neg c4] at H
      have c4b0 : (t103 == 3) = false := beq_eq_false_iff_ne.mpr c4
      have c4b1 : (t103 != 3) = true := bne_iff_ne.mpr c4
      (first | rw [c4b0] | (simp only [i64_w, i32_w]; rw [c4b0]) | skip)
      have H' := Aside0.mk H
      clear H
      go_wp2
      go_meet
      case rel => exact ⟨_, ((t103 == 4)), (by first | rfl | (simp; done) | (simp [*]; done)), H', ⟨by first | omega | exact Nat.le_refl _⟩, by repeat (first | exact Drawn0.refl _ | apply Drawn0.step)⟩
  case rest =>
    clear HC3
    try clear c2
    try clear p2
    try clear c4
    try clear c4b0
    try clear c4b1
    obtain ⟨kq, x17_2, rfl, HA, HJ2, ⟨mc2, rfl⟩⟩ := hcut
    cases kq with
    | zero => exact absurd HA.out (by simp [sluiceref01_Parts.j0])
    | succ kj2 =>
      have H := HA.out
      clear HA
      simp only [sluiceref01_Parts.j0] at H
      by_cases c5 : x17_2 = true
      · subst c5
        have H1 : (some (false, 0, 0, 16)) = some (r1, r2, r3, r4) := by rw [if_pos rfl] at H; exact H
        clear H
        have H := H1
        clear H1
        simp only [Option.some.injEq, Prod.mk.injEq] at H
        obtain ⟨rfl, rfl, rfl, rfl⟩ := H
        go_wp2
        refine bodyPost_ret (results_list (rs := [.tmp 2, .tmp 3, .tmp 4, .tmp 5]) rfl (by simp) (.tmp (.tmp (.tmp (.tmp .nil))))) rfl ?_
        exact ⟨by first | rfl | (simp; done) | (simp [*]; done), by repeat (first | exact Drawn0.refl _ | apply Drawn0.step)⟩
      · replace c5 := Bool.eq_false_iff.mpr c5
        subst c5
        have H1 : ((sluiceref01_size.f (Int.tmod a0 2147483648)).bind fun bt104 => (if bt104.1 = 0 then (some (decide (a0 ≥ 2147483648), 0, 0, 0)) else (sluiceref01_Parts.l0 kj2 (decide (a0 ≥ 2147483648)) bt104.1 bt104.2))) = some (r1, r2, r3, r4) := by rw [if_neg (show ¬ (false = true) by decide)] at H; exact H
        clear H
        have H := H1
        clear H1
        replace H := Option.bind_eq_some_iff.mp H
        obtain ⟨⟨t104, t105⟩, A60, H⟩ := H
        replace H : (if t104 = 0 then (some (decide (a0 ≥ 2147483648), 0, 0, 0)) else (sluiceref01_Parts.l0 kj2 (decide (a0 ≥ 2147483648)) t104 t105)) = some (r1, r2, r3, r4) := H
        have A6 := Aside0.mk A60
        clear A60
        by_cases c7 : t104 = 0
        · rw [if_pos c7] at H
          have c7b0 : (t104 == 0) = true := beq_iff_eq.mpr c7
          have c7b1 : (t104 != 0) = false := bne_eq_false_iff_eq.mpr c7
          clear c7
          simp only [Option.some.injEq, Prod.mk.injEq] at H
          obtain ⟨rfl, rfl, rfl, rfl⟩ := H
          go_wp2_with (first | ((with_reducible refine gate_callee (f := 40) rfl ?_); refine goesL_ (some 23) rfl rfl Tryd.func40 (by kernel_rfl) rfl #[.int .u32 (Int.tmod a0 2147483648)] rfl (by (try simp only [List.map_toArray, List.map_cons, List.map_nil]); first | done | rfl | (simp only [List.length_drop, List.length_take]; rfl)) ?_; (with_reducible refine (sluiceref01_size.calls (Int.tmod a0 2147483648) t104 t105 _ A6.out).mono ?_); rintro e w' ⟨rfl, ⟨nd, rfl⟩⟩; refine ⟨_, rfl, ?_⟩))
          refine bodyPost_ret (results_list (rs := [.tmp 2, .tmp 3, .tmp 4, .tmp 5]) rfl (by simp) (.tmp (.tmp (.tmp (.tmp .nil))))) rfl ?_
          exact ⟨by first | rfl | (simp; done) | (simp [*]; done), by repeat (first | exact Drawn0.refl _ | apply Drawn0.step)⟩
        · rw [if_neg c7] at H
          have c7b0 : (t104 == 0) = false := beq_eq_false_iff_ne.mpr c7
          have c7b1 : (t104 != 0) = true := bne_iff_ne.mpr c7
          have H' := Aside0.mk H
          clear H
          go_wp2_with (first | ((with_reducible refine gate_callee (f := 40) rfl ?_); refine goesL_ (some 23) rfl rfl Tryd.func40 (by kernel_rfl) rfl #[.int .u32 (Int.tmod a0 2147483648)] rfl (by (try simp only [List.map_toArray, List.map_cons, List.map_nil]); first | done | rfl | (simp only [List.length_drop, List.length_take]; rfl)) ?_; (with_reducible refine (sluiceref01_size.calls (Int.tmod a0 2147483648) t104 t105 _ A6.out).mono ?_); rintro e w' ⟨rfl, ⟨nd, rfl⟩⟩; refine ⟨_, rfl, ?_⟩))
          go_loopg [8, 9] kj2 (fun kq v8 v9 w' => ∃ (x8_2 : Int) (x9_2 : Int), v8 = .int .u64 x8_2 ∧ v9 = .int .i64 x9_2 ∧ Aside0 (sluiceref01_Parts.l0 kq (decide (a0 ≥ 2147483648)) x8_2 x9_2 = some (r1, r2, r3, r4)) ∧ Aside0 (kq ≤ kj2) ∧ Drawn0 w w')
          case atStart => exact ⟨(t104), (t105), (by first | rfl | (simp; done) | (simp [*]; done)), (by first | rfl | (simp; done) | (simp [*]; done)), H', ⟨Nat.le_refl _⟩, by repeat (first | exact Drawn0.refl _ | apply Drawn0.step)⟩
          case round =>
            clear H'
            try clear c2
            try clear p2
            try clear c4
            try clear c4b0
            try clear c4b1
            try clear c5
            try clear c7
            try clear c7b0
            try clear c7b1
            try clear p2
            obtain ⟨x8_2, x9_2, rfl, rfl, HA, HK2, ⟨m2, rfl⟩⟩ := hrel
            cases gk with
            | zero => exact absurd HA.out (by simp [sluiceref01_Parts.l0])
            | succ k2 =>
              have H := HA.out
              clear HA
              simp only [sluiceref01_Parts.l0] at H
              by_cases c8 : (Int.tmod x8_2 2) = 0
              · rw [if_pos c8] at H
                have c8b0 : ((Int.tmod x8_2 2) == 0) = true := beq_iff_eq.mpr c8
                have c8b1 : ((Int.tmod x8_2 2) != 0) = false := bne_eq_false_iff_eq.mpr c8
                clear c8
                have H' := Aside0.mk H
                clear H
                go_wp2
                go_roundg k2
                case measure => have := HJ2.out; have := HK2.out; omega
                case rel => exact ⟨(IntKind.u64.wrap (Int.tdiv x8_2 2)), (wrap64 (x9_2 + 1)), (by first | rfl | (simp; done) | (simp [*]; done)), (by first | rfl | (simp; done) | (simp [*]; done)), H', ⟨by have := HJ2.out; have := HK2.out; omega⟩, by repeat (first | exact Drawn0.refl _ | apply Drawn0.step)⟩
              · rw [if_neg c8] at H
                have c8b0 : ((Int.tmod x8_2 2) == 0) = false := beq_eq_false_iff_ne.mpr c8
                have c8b1 : ((Int.tmod x8_2 2) != 0) = true := bne_iff_ne.mpr c8
                simp only [Option.some.injEq, Prod.mk.injEq] at H
                obtain ⟨rfl, rfl, rfl, rfl⟩ := H
                go_wp2
                refine bodyPost_ret (results_list (rs := [.tmp 2, .tmp 3, .tmp 4, .tmp 5]) rfl (by simp) (.tmp (.tmp (.tmp (.tmp .nil))))) rfl ?_
                exact ⟨by first | rfl | (simp; done) | (simp [*]; done), by repeat (first | exact Drawn0.refl _ | apply Drawn0.step)⟩

end Go.Proofs.YtdnofpafojjjaaaDoor.QGrainClasses
