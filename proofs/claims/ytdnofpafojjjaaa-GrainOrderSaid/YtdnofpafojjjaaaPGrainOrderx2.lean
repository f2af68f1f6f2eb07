-- PRINTED BY print.sh 35421559b90ae4d0a3588c463048766b98c2df88dd9212a6774a882060cdf62d: not written by this session
import Derived.Test.YtdnofpafojjjaaaPGrainOrderx0
import Derived.Test.YtdnofpafojjjaaaPGrainOrderx1
namespace Go.Proofs.Ytdnofpafojjjaaa.PGrainOrder
open Go.RowKit Go.Proofs.YtdnofpafojjjaaaW.PrintWords Go.Proofs.YtdnofpafojjjaaaW.PrintLast Go.Proofs.YtdnofpafojjjaaaW.PrintMore
attribute [local go_sem] max2_int min2_int max_two min_two max_three min_three max_four min_four   -- for this text's walks alone
set_option linter.unusedVariables false
set_option linter.unusedSimpArgs false

/-! ### sluiceref01_size: function 55 -/
def sluiceref01_size.f (a0 : Int) : Option (Int × Int) := if (wrap64 (a0 / 8388608)) = 0 then (some (IntKind.u64.wrap (Int.tmod a0 8388608), (-149))) else (some (IntKind.u64.wrap ((IntKind.u64.wrap (Int.tmod a0 8388608)) + 8388608), wrap64 ((wrap64 (a0 / 8388608)) - 150)))
set_option maxHeartbeats 8000000 in
set_option maxRecDepth 100000 in
theorem sluiceref01_size.calls (a0 : Int) (r1 : Int) (r2 : Int) (w : World) (h : sluiceref01_size.f a0 = some (r1, r2)) :
    Calls Try.prog 55 #[.int .u32 a0] w fun e w' => e = .returned (.tuple #[.int .u64 r1, .int .i64 r2]) ∧ Drawn0 w w' := by
  have H : (if (wrap64 (a0 / 8388608)) = 0 then (some (IntKind.u64.wrap (Int.tmod a0 8388608), (-149))) else (some (IntKind.u64.wrap ((IntKind.u64.wrap (Int.tmod a0 8388608)) + 8388608), wrap64 ((wrap64 (a0 / 8388608)) - 150)))) = some (r1, r2) := h
  clear h
  by_cases c2 : (wrap64 (a0 / 8388608)) = 0
  · rw [if_pos c2] at H
    have c2b0 : ((wrap64 (a0 / 8388608)) == 0) = true := beq_iff_eq.mpr c2
    have c2b1 : ((wrap64 (a0 / 8388608)) != 0) = false := bne_eq_false_iff_eq.mpr c2
    clear c2
    simp only [Option.some.injEq, Prod.mk.injEq] at H
    obtain ⟨rfl, rfl⟩ := H
    go_enter Try.func55, Try.ntmps55
    go_wp2
    go_ret2
    exact ⟨by first | rfl | (simp; done) | (simp [*]; done), by repeat (first | exact Drawn0.refl _ | apply Drawn0.step)⟩
  · rw [if_neg c2] at H
    have c2b0 : ((wrap64 (a0 / 8388608)) == 0) = false := beq_eq_false_iff_ne.mpr c2
    have c2b1 : ((wrap64 (a0 / 8388608)) != 0) = true := bne_iff_ne.mpr c2
    simp only [Option.some.injEq, Prod.mk.injEq] at H
    obtain ⟨rfl, rfl⟩ := H
    go_enter Try.func55, Try.ntmps55
    go_wp2
    go_ret2
    exact ⟨by first | rfl | (simp; done) | (simp [*]; done), by repeat (first | exact Drawn0.refl _ | apply Drawn0.step)⟩

/-! ### sluiceref01_Parts: function 54 -/
mutual
def sluiceref01_Parts.j0 : Nat → Int → Bool → Option (Bool × Int × Int × Int)
  | 0, _, _ => none
  | k + 1, x0, x17 => if x17 = true then (some (false, 0, 0, 16)) else ((sluiceref01_size.f (Int.tmod x0 2147483648)).bind fun bt108 => (if bt108.1 = 0 then (some (decide (x0 ≥ 2147483648), 0, 0, 0)) else (sluiceref01_Parts.l0 k (decide (x0 ≥ 2147483648)) bt108.1 bt108.2)))
def sluiceref01_Parts.l0 : Nat → Bool → Int → Int → Option (Bool × Int × Int × Int)
  | 0, _, _, _ => none
  | k + 1, x7, x8, x9 => if (Int.tmod x8 2) = 0 then (sluiceref01_Parts.l0 k x7 (IntKind.u64.wrap (Int.tdiv x8 2)) (wrap64 (x9 + 1))) else (some (x7, (x8) % 4294967296, x9, 0))
end
def sluiceref01_Parts.f (k : Nat) (a0 : Int) : Option (Bool × Int × Int × Int) := (sluiceref01_Class.f k a0).bind fun t107 => (if t107 = 3 then (sluiceref01_Parts.j0 k a0 true) else (sluiceref01_Parts.j0 k a0 (t107 == 4)))
theorem sluiceref01_Parts.mono_l : ∀ k, (∀ y0 y1, LeO (sluiceref01_Parts.j0 k y0 y1) (sluiceref01_Parts.j0 (k + 1) y0 y1)) ∧ (∀ y0 y1 y2, LeO (sluiceref01_Parts.l0 k y0 y1 y2) (sluiceref01_Parts.l0 (k + 1) y0 y1 y2))
  | 0 => ⟨fun _ _ r h => by simp [sluiceref01_Parts.j0] at h, fun _ _ _ r h => by simp [sluiceref01_Parts.l0] at h⟩
  | k + 1 => by
    obtain ⟨ih0, ih1⟩ := sluiceref01_Parts.mono_l k
    refine ⟨?_, ?_⟩
    · intro y0 y1
      unfold sluiceref01_Parts.j0
      repeat' first
      | (with_reducible exact ih0 _ _)
      | (with_reducible exact ih1 _ _ _)
      | (with_reducible exact sluiceref01_Class.mono _ _)
      | (with_reducible exact LeO.refl _)
      | (with_reducible exact LeO.none _)
      | (with_reducible refine LeO.ite ?_ ?_)
      | (with_reducible refine LeO.bind ?_ (fun _ => ?_))
      | exact ih0 _ _
      | exact ih1 _ _ _
      | exact sluiceref01_Class.mono _ _
      | exact LeO.none _
      | refine LeO.ite ?_ ?_
      | refine LeO.bind ?_ (fun _ => ?_)
    · intro y0 y1 y2
      unfold sluiceref01_Parts.l0
      repeat' first
      | (with_reducible exact ih0 _ _)
      | (with_reducible exact ih1 _ _ _)
      | (with_reducible exact sluiceref01_Class.mono _ _)
      | (with_reducible exact LeO.refl _)
      | (with_reducible exact LeO.none _)
      | (with_reducible refine LeO.ite ?_ ?_)
      | (with_reducible refine LeO.bind ?_ (fun _ => ?_))
      | exact ih0 _ _
      | exact ih1 _ _ _
      | exact sluiceref01_Class.mono _ _
      | exact LeO.none _
      | refine LeO.ite ?_ ?_
      | refine LeO.bind ?_ (fun _ => ?_)
theorem sluiceref01_Parts.mono : ∀ a0 k, LeO (sluiceref01_Parts.f k a0) (sluiceref01_Parts.f (k + 1) a0) := by
  intro a0 k
  obtain ⟨ih0, ih1⟩ := sluiceref01_Parts.mono_l k
  unfold sluiceref01_Parts.f
  repeat' first
      | (with_reducible exact ih0 _ _)
      | (with_reducible exact ih1 _ _ _)
      | (with_reducible exact sluiceref01_Class.mono _ _)
      | (with_reducible exact LeO.refl _)
      | (with_reducible exact LeO.none _)
      | (with_reducible refine LeO.ite ?_ ?_)
      | (with_reducible refine LeO.bind ?_ (fun _ => ?_))
      | exact ih0 _ _
      | exact ih1 _ _ _
      | exact sluiceref01_Class.mono _ _
      | exact LeO.none _
      | refine LeO.ite ?_ ?_
      | refine LeO.bind ?_ (fun _ => ?_)
set_option maxHeartbeats 8000000 in
set_option maxRecDepth 100000 in
theorem sluiceref01_Parts.calls (k : Nat) (a0 : Int) (r1 : Bool) (r2 : Int) (r3 : Int) (r4 : Int) (w : World) (h : sluiceref01_Parts.f k a0 = some (r1, r2, r3, r4)) :
    Calls Try.prog 54 #[.int .u32 a0] w fun e w' => e = .returned (.tuple #[.bool r1, .int .u32 r2, .int .i64 r3, .int .i64 r4]) ∧ Drawn0 w w' := by
  have H : ((sluiceref01_Class.f k a0).bind fun t107 => (if t107 = 3 then (sluiceref01_Parts.j0 k a0 true) else (sluiceref01_Parts.j0 k a0 (t107 == 4)))) = some (r1, r2, r3, r4) := h
  clear h
  replace H := Option.bind_eq_some_iff.mp H
  obtain ⟨t107, A20, H⟩ := H
  replace H : (if t107 = 3 then (sluiceref01_Parts.j0 k a0 true) else (sluiceref01_Parts.j0 k a0 (t107 == 4))) = some (r1, r2, r3, r4) := H
  have A2 := Aside0.mk A20
  clear A20
  have HC3 := Aside0.mk H
  clear H
  go_enter Try.func54, Try.ntmps54
  go_upto_region 2 with (first | ((with_reducible refine gate_callee (f := 13) rfl ?_); refine goesL_ (some 11) rfl rfl Try.func13 (by kernel_rfl) rfl #[.int .u32 a0] rfl (by (try simp only [List.map_toArray, List.map_cons, List.map_nil]); first | done | rfl | (simp only [List.length_drop, List.length_take]; rfl)) ?_; (with_reducible refine (sluiceref01_Class.calls k a0 t107 _ A2.out).mono ?_); rintro e w' ⟨rfl, ⟨nd, rfl⟩⟩; refine ⟨_, rfl, ?_⟩))
  (try simp only [Act.put, List.setIfInBounds_toArray, List.set_cons_zero, List.set_cons_succ])
  go_cut [17] (fun v17 wc => ∃ (kq : Nat) (x17_2 : Bool), v17 = .bool x17_2 ∧ Aside0 (sluiceref01_Parts.j0 kq a0 x17_2 = some (r1, r2, r3, r4)) ∧ Aside0 (kq ≤ k) ∧ Drawn0 w wc)
  case first =>
    have H := HC3.out
    clear HC3
    by_cases c4 : t107 = 3
    · rw [if_pos c4] at H
      have c4b0 : (t107 == 3) = true := beq_iff_eq.mpr c4
      have c4b1 : (t107 != 3) = false := bne_eq_false_iff_eq.mpr c4
      clear c4
      (first | rw [c4b0] | (simp only [i64_w, i32_w]; rw [c4b0]) | skip)
      have H' := Aside0.mk H
      clear H
      go_wp2
      go_meet
      case rel => exact ⟨_, (true), (by first | rfl | (simp; done) | (simp [*]; done)), H', ⟨by first | omega | exact Nat.le_refl _⟩, by repeat (first | exact Drawn0.refl _ | apply Drawn0.step)⟩
    · rw [if_neg c4] at H
      have c4b0 : (t107 == 3) = false := beq_eq_false_iff_ne.mpr c4
      have c4b1 : (t107 != 3) = true := bne_iff_ne.mpr c4
      (first | rw [c4b0] | (simp only [i64_w, i32_w]; rw [c4b0]) | skip)
      have H' := Aside0.mk H
      clear H
      go_wp2
      go_meet
      case rel => exact ⟨_, ((t107 == 4)), (by first | rfl | (simp; done) | (simp [*]; done)), H', ⟨by first | omega | exact Nat.le_refl _⟩, by repeat (first | exact Drawn0.refl _ | apply Drawn0.step)⟩
  case rest =>
    clear HC3
    try clear c1
    try clear p2
    try clear c4
    try clear c4b0
    try clear c4b1
    obtain ⟨kq, x17_2, rfl, HA, HJ2, ⟨mc2, rfl⟩⟩ := hcut
    cases kq with
    | zero => exact absurd HA.out (by simp [sluiceref01_Parts.j0])
    | succ kj2 =>
      have H := HA.out
      clear HA
      simp only [sluiceref01_Parts.j0] at H
      by_cases c5 : x17_2 = true
      · subst c5
        have H1 : (some (false, 0, 0, 16)) = some (r1, r2, r3, r4) := by rw [if_pos rfl] at H; exact H
        clear H
        have H := H1
        clear H1
        simp only [Option.some.injEq, Prod.mk.injEq] at H
        obtain ⟨rfl, rfl, rfl, rfl⟩ := H
        go_wp2
        refine bodyPost_ret (results_list (rs := [.tmp 2, .tmp 3, .tmp 4, .tmp 5]) rfl (by simp) (.tmp (.tmp (.tmp (.tmp .nil))))) rfl ?_
        exact ⟨by first | rfl | (simp; done) | (simp [*]; done), by repeat (first | exact Drawn0.refl _ | apply Drawn0.step)⟩
      · replace c5 := Bool.eq_false_iff.mpr c5
        subst c5
        have H1 : ((sluiceref01_size.f (Int.tmod a0 2147483648)).bind fun bt108 => (if bt108.1 = 0 then (some (decide (a0 ≥ 2147483648), 0, 0, 0)) else (sluiceref01_Parts.l0 kj2 (decide (a0 ≥ 2147483648)) bt108.1 bt108.2))) = some (r1, r2, r3, r4) := by rw [if_neg (show ¬ (false = true) by decide)] at H; exact H
        clear H
        have H := H1
        clear H1
        replace H := Option.bind_eq_some_iff.mp H
        obtain ⟨⟨t108, t109⟩, A60, H⟩ := H
        replace H : (if t108 = 0 then (some (decide (a0 ≥ 2147483648), 0, 0, 0)) else (sluiceref01_Parts.l0 kj2 (decide (a0 ≥ 2147483648)) t108 t109)) = some (r1, r2, r3, r4) := H
        have A6 := Aside0.mk A60
        clear A60
        by_cases c7 : t108 = 0
        · rw [if_pos c7] at H
          have c7b0 : (t108 == 0) = true := beq_iff_eq.mpr c7
          have c7b1 : (t108 != 0) = false := bne_eq_false_iff_eq.mpr c7
          clear c7
          simp only [Option.some.injEq, Prod.mk.injEq] at H
          obtain ⟨rfl, rfl, rfl, rfl⟩ := H
          go_wp2_with (first | ((with_reducible refine gate_callee (f := 55) rfl ?_); refine goesL_ (some 23) rfl rfl Try.func55 (by kernel_rfl) rfl #[.int .u32 (Int.tmod a0 2147483648)] rfl (by (try simp only [List.map_toArray, List.map_cons, List.map_nil]); first | done | rfl | (simp only [List.length_drop, List.length_take]; rfl)) ?_; (with_reducible refine (sluiceref01_size.calls (Int.tmod a0 2147483648) t108 t109 _ A6.out).mono ?_); rintro e w' ⟨rfl, ⟨nd, rfl⟩⟩; refine ⟨_, rfl, ?_⟩))
          refine bodyPost_ret (results_list (rs := [.tmp 2, .tmp 3, .tmp 4, .tmp 5]) rfl (by simp) (.tmp (.tmp (.tmp (.tmp .nil))))) rfl ?_
          exact ⟨by first | rfl | (simp; done) | (simp [*]; done), by repeat (first | exact Drawn0.refl _ | apply Drawn0.step)⟩
        · rw [if_neg c7] at H
          have c7b0 : (t108 == 0) = false := beq_eq_false_iff_ne.mpr c7
          have c7b1 : (t108 != 0) = true := bne_iff_ne.mpr c7
          have H' := Aside0.mk H
          clear H
          go_wp2_with (first | ((with_reducible refine gate_callee (f := 55) rfl ?_); refine goesL_ (some 23) rfl rfl Try.func55 (by kernel_rfl) rfl #[.int .u32 (Int.tmod a0 2147483648)] rfl (by (try simp only [List.map_toArray, List.map_cons, List.map_nil]); first | done | rfl | (simp only [List.length_drop, List.length_take]; rfl)) ?_; (with_reducible refine (sluiceref01_size.calls (Int.tmod a0 2147483648) t108 t109 _ A6.out).mono ?_); rintro e w' ⟨rfl, ⟨nd, rfl⟩⟩; refine ⟨_, rfl, ?_⟩))
          go_loopg [8, 9] kj2 (fun kq v8 v9 w' => ∃ (x8_2 : Int) (x9_2 : Int), v8 = .int .u64 x8_2 ∧ v9 = .int .i64 x9_2 ∧ Aside0 (sluiceref01_Parts.l0 kq (decide (a0 ≥ 2147483648)) x8_2 x9_2 = some (r1, r2, r3, r4)) ∧ Aside0 (kq ≤ kj2) ∧ Drawn0 w w')
          case atStart => exact ⟨(t108), (t109), (by first | rfl | (simp; done) | (simp [*]; done)), (by first | rfl | (simp; done) | (simp [*]; done)), H', ⟨Nat.le_refl _⟩, by repeat (first | exact Drawn0.refl _ | apply Drawn0.step)⟩
          case round =>
            clear H'
            try clear c1
            try clear c2
            try clear p2
            try clear c4
            try clear c4b0
            try clear c4b1
            try clear c5
            try clear c7
            try clear c7b0
            try clear c7b1
            try clear p2
            obtain ⟨x8_2, x9_2, rfl, rfl, HA, HK2, ⟨m2, rfl⟩⟩ := hrel
            cases gk with
            | zero => exact absurd HA.out (by simp [sluiceref01_Parts.l0])
            | succ k2 =>
              have H := HA.out
              clear HA
              simp only [sluiceref01_Parts.l0] at H
              by_cases c8 : (Int.tmod x8_2 2) = 0
              · rw [if_pos c8] at H
                have c8b0 : ((Int.tmod x8_2 2) == 0) = true := beq_iff_eq.mpr c8
                have c8b1 : ((Int.tmod x8_2 2) != 0) = false := bne_eq_false_iff_eq.mpr c8
                clear c8
                have H' := Aside0.mk H
                clear H
                go_wp2
                go_roundg k2
                case measure => have := HJ2.out; have := HK2.out; omega
                case rel => exact ⟨(IntKind.u64.wrap (Int.tdiv x8_2 2)), (wrap64 (x9_2 + 1)), (by first | rfl | (simp; done) | (simp [*]; done)), (by first | rfl | (simp; done) | (simp [*]; done)), H', ⟨by have := HJ2.out; have := HK2.out; omega⟩, by repeat (first | exact Drawn0.refl _ | apply Drawn0.step)⟩
              · rw [if_neg c8] at H
                have c8b0 : ((Int.tmod x8_2 2) == 0) = false := beq_eq_false_iff_ne.mpr c8
                have c8b1 : ((Int.tmod x8_2 2) != 0) = true := bne_iff_ne.mpr c8
                simp only [Option.some.injEq, Prod.mk.injEq] at H
                obtain ⟨rfl, rfl, rfl, rfl⟩ := H
                go_wp2
                refine bodyPost_ret (results_list (rs := [.tmp 2, .tmp 3, .tmp 4, .tmp 5]) rfl (by simp) (.tmp (.tmp (.tmp (.tmp .nil))))) rfl ?_
                exact ⟨by first | rfl | (simp; done) | (simp [*]; done), by repeat (first | exact Drawn0.refl _ | apply Drawn0.step)⟩

/-! ### sluiceref01_full: function 52 -/
def sluiceref01_full.l0 : Nat → Bool → Int → Int → Option (Bool × Int × Int)
  | 0, _, _, _ => none
  | k + 1, x5, x7, x9 => if x9 > 0 then (if x9 < 8388608 then (sluiceref01_full.l0 k x5 (wrap64 (x7 - 1)) (IntKind.u64.wrap (2 * x9))) else (some (x5, x9, x7))) else (some (x5, x9, x7))
def sluiceref01_full.f (k : Nat) (a0 : Int) : Option (Bool × Int × Int) := (sluiceref01_Parts.f k a0).bind fun bt110 => (sluiceref01_full.l0 k bt110.1 bt110.2.2.1 (IntKind.u64.wrap (bt110.2.1)))
theorem sluiceref01_full.mono_l : ∀ k, (∀ y0 y1 y2, LeO (sluiceref01_full.l0 k y0 y1 y2) (sluiceref01_full.l0 (k + 1) y0 y1 y2))
  | 0 => fun _ _ _ r h => by simp [sluiceref01_full.l0] at h
  | k + 1 => by
    have ih0 := sluiceref01_full.mono_l k
    · intro y0 y1 y2
      unfold sluiceref01_full.l0
      repeat' first
      | (with_reducible exact ih0 _ _ _)
      | (with_reducible exact sluiceref01_Parts.mono _ _)
      | (with_reducible exact LeO.refl _)
      | (with_reducible exact LeO.none _)
      | (with_reducible refine LeO.ite ?_ ?_)
      | (with_reducible refine LeO.bind ?_ (fun _ => ?_))
      | exact ih0 _ _ _
      | exact sluiceref01_Parts.mono _ _
      | exact LeO.none _
      | refine LeO.ite ?_ ?_
      | refine LeO.bind ?_ (fun _ => ?_)
theorem sluiceref01_full.mono : ∀ a0 k, LeO (sluiceref01_full.f k a0) (sluiceref01_full.f (k + 1) a0) := by
  intro a0 k
  have ih0 := sluiceref01_full.mono_l k
  unfold sluiceref01_full.f
  repeat' first
      | (with_reducible exact ih0 _ _ _)
      | (with_reducible exact sluiceref01_Parts.mono _ _)
      | (with_reducible exact LeO.refl _)
      | (with_reducible exact LeO.none _)
      | (with_reducible refine LeO.ite ?_ ?_)
      | (with_reducible refine LeO.bind ?_ (fun _ => ?_))
      | exact ih0 _ _ _
      | exact sluiceref01_Parts.mono _ _
      | exact LeO.none _
      | refine LeO.ite ?_ ?_
      | refine LeO.bind ?_ (fun _ => ?_)
set_option maxHeartbeats 8000000 in
set_option maxRecDepth 100000 in
theorem sluiceref01_full.calls (k : Nat) (a0 : Int) (r1 : Bool) (r2 : Int) (r3 : Int) (w : World) (h : sluiceref01_full.f k a0 = some (r1, r2, r3)) :
    Calls Try.prog 52 #[.int .u32 a0] w fun e w' => e = .returned (.tuple #[.bool r1, .int .u64 r2, .int .i64 r3]) ∧ Drawn0 w w' := by
  have H : ((sluiceref01_Parts.f k a0).bind fun bt110 => (sluiceref01_full.l0 k bt110.1 bt110.2.2.1 (IntKind.u64.wrap (bt110.2.1)))) = some (r1, r2, r3) := h
  clear h
  replace H := Option.bind_eq_some_iff.mp H
  obtain ⟨⟨t110, t111, t112, t113⟩, A20, H⟩ := H
  replace H : (sluiceref01_full.l0 k t110 t112 (IntKind.u64.wrap (t111))) = some (r1, r2, r3) := H
  have A2 := Aside0.mk A20
  clear A20
  have H' := Aside0.mk H
  clear H
  go_enter Try.func52, Try.ntmps52
  go_wp2_with (first | ((with_reducible refine gate_callee (f := 54) rfl ?_); refine goesL_ (some 12) rfl rfl Try.func54 (by kernel_rfl) rfl #[.int .u32 a0] rfl (by (try simp only [List.map_toArray, List.map_cons, List.map_nil]); first | done | rfl | (simp only [List.length_drop, List.length_take]; rfl)) ?_; (with_reducible refine (sluiceref01_Parts.calls k a0 t110 t111 t112 t113 _ A2.out).mono ?_); rintro e w' ⟨rfl, ⟨nd, rfl⟩⟩; refine ⟨_, rfl, ?_⟩))
  go_loopg [7, 9] k (fun kq v7 v9 w' => ∃ (x7_1 : Int) (x9_1 : Int), v7 = .int .i64 x7_1 ∧ v9 = .int .u64 x9_1 ∧ Aside0 (sluiceref01_full.l0 kq t110 x7_1 x9_1 = some (r1, r2, r3)) ∧ Aside0 (kq ≤ k) ∧ Drawn0 w w')
  case atStart => exact ⟨(t112), (IntKind.u64.wrap (t111)), (by first | rfl | (simp; done) | (simp [*]; done)), (by first | rfl | (simp; done) | (simp [*]; done)), H', ⟨Nat.le_refl _⟩, by repeat (first | exact Drawn0.refl _ | apply Drawn0.step)⟩
  case round =>
    clear H'
    try clear p2
    obtain ⟨x7_1, x9_1, rfl, rfl, HA, HK1, ⟨m1, rfl⟩⟩ := hrel
    cases gk with
    | zero => exact absurd HA.out (by simp [sluiceref01_full.l0])
    | succ k1 =>
      have H := HA.out
      clear HA
      simp only [sluiceref01_full.l0] at H
      by_cases c3 : x9_1 > 0
      · rw [if_pos c3] at H
        have c3b0 : decide (0 < x9_1) = true := decide_eq_true c3
        clear c3
        by_cases c4 : x9_1 < 8388608
        · rw [if_pos c4] at H
          have c4b0 : decide (x9_1 < 8388608) = true := decide_eq_true c4
          clear c4
          have H' := Aside0.mk H
          clear H
          go_wp2
          go_roundg k1
          case measure => have := HK1.out; omega
          case rel => exact ⟨(wrap64 (x7_1 - 1)), (IntKind.u64.wrap (2 * x9_1)), (by first | rfl | (simp; done) | (simp [*]; done)), (by first | rfl | (simp; done) | (simp [*]; done)), H', ⟨by have := HK1.out; omega⟩, by repeat (first | exact Drawn0.refl _ | apply Drawn0.step)⟩
        · rw [if_neg c4] at H
          have c4b0 : decide (x9_1 < 8388608) = false := decide_eq_false c4
          clear c4
          simp only [Option.some.injEq, Prod.mk.injEq] at H
          obtain ⟨rfl, rfl, rfl⟩ := H
          go_wp2
          go_ret3
          exact ⟨by first | rfl | (simp; done) | (simp [*]; done), by repeat (first | exact Drawn0.refl _ | apply Drawn0.step)⟩
      · rw [if_neg c3] at H
        have c3b0 : decide (0 < x9_1) = false := decide_eq_false c3
        clear c3
        simp only [Option.some.injEq, Prod.mk.injEq] at H
        obtain ⟨rfl, rfl, rfl⟩ := H
        go_wp2
        go_ret3
        exact ⟨by first | rfl | (simp; done) | (simp [*]; done), by repeat (first | exact Drawn0.refl _ | apply Drawn0.step)⟩

/-! ### sluiceref01_AddF: function 41 -/
mutual
def sluiceref01_AddF.j0 : Nat → Int → Int → Bool → Int → Int → Bool → Int → Int → Bool → Option (Int)
  | 0, _, _, _, _, _, _, _, _, _ => none
  | k + 1, x0, x1, x5, x6, x7, x8, x9, x10, x32 => if x32 = true then (if x5 = true then ((sluiceref01_signed.f x8 0).bind fun t120 => (some t120)) else ((sluiceref01_signed.f false 0).bind fun t121 => (some t121))) else (if x6 = 0 then (some x1) else (if x9 = 0 then (some x0) else (if x7 < x10 then (sluiceref01_AddF.j1 k x0 x1 x5 x6 x7 x8 x9 x10 true) else (if x7 = x10 then (sluiceref01_AddF.j1 k x0 x1 x5 x6 x7 x8 x9 x10 (decide (x6 < x9))) else (sluiceref01_AddF.j1 k x0 x1 x5 x6 x7 x8 x9 x10 false)))))
def sluiceref01_AddF.j1 : Nat → Int → Int → Bool → Int → Int → Bool → Int → Int → Bool → Option (Int)
  | 0, _, _, _, _, _, _, _, _, _ => none
  | k + 1, x0, x1, x5, x6, x7, x8, x9, x10, x56 => if x56 = true then ((sluiceref01_AddF.f k x1 x0).bind fun t122 => (some t122)) else (if (wrap64 (x7 - x10)) ≥ 63 then (sluiceref01_AddF.j2 k x5 x7 x8 (IntKind.u64.wrap (x6 * 549755813888)) 1) else (if 0 ≤ (wrap64 (x7 - x10)) then (if (shl .u64 (shr .u64 (IntKind.u64.wrap (x9 * 549755813888)) (wrap64 (x7 - x10))) (wrap64 (x7 - x10))) = (IntKind.u64.wrap (x9 * 549755813888)) then (sluiceref01_AddF.j2 k x5 x7 x8 (IntKind.u64.wrap (x6 * 549755813888)) (shr .u64 (IntKind.u64.wrap (x9 * 549755813888)) (wrap64 (x7 - x10)))) else (sluiceref01_AddF.j2 k x5 x7 x8 (IntKind.u64.wrap (x6 * 549755813888)) (Go.bits .or .u64 (shr .u64 (IntKind.u64.wrap (x9 * 549755813888)) (wrap64 (x7 - x10))) 1))) else (none)))
def sluiceref01_AddF.j2 : Nat → Bool → Int → Bool → Int → Int → Option (Int)
  | 0, _, _, _, _, _ => none
  | k + 1, x5, x7, x8, x11, x12 => if (x5 == x8) = true then ((sluiceref01_Round.f k x5 (IntKind.u64.wrap (x11 + x12)) (wrap64 (x7 - 39))).bind fun t123 => (some t123)) else (if x11 = x12 then (some 0) else ((sluiceref01_Round.f k x5 (IntKind.u64.wrap (x11 - x12)) (wrap64 (x7 - 39))).bind fun t124 => (some t124)))
def sluiceref01_AddF.f : Nat → Int → Int → Option (Int)
  | 0, _, _ => none
  | k + 1, a0, a1 => (sluiceref01_full.f k a0).bind fun bt114 => ((sluiceref01_full.f k a1).bind fun bt117 => (if bt114.2.1 = 0 then (sluiceref01_AddF.j0 k a0 a1 bt114.1 bt114.2.1 bt114.2.2 bt117.1 bt117.2.1 bt117.2.2 (bt117.2.1 == 0)) else (sluiceref01_AddF.j0 k a0 a1 bt114.1 bt114.2.1 bt114.2.2 bt117.1 bt117.2.1 bt117.2.2 false)))
end
theorem sluiceref01_AddF.mono_l : ∀ k, (∀ y0 y1, LeO (sluiceref01_AddF.f k y0 y1) (sluiceref01_AddF.f (k + 1) y0 y1)) ∧ (∀ y0 y1 y2 y3 y4 y5 y6 y7 y8, LeO (sluiceref01_AddF.j0 k y0 y1 y2 y3 y4 y5 y6 y7 y8) (sluiceref01_AddF.j0 (k + 1) y0 y1 y2 y3 y4 y5 y6 y7 y8)) ∧ (∀ y0 y1 y2 y3 y4 y5 y6 y7 y8, LeO (sluiceref01_AddF.j1 k y0 y1 y2 y3 y4 y5 y6 y7 y8) (sluiceref01_AddF.j1 (k + 1) y0 y1 y2 y3 y4 y5 y6 y7 y8)) ∧ (∀ y0 y1 y2 y3 y4, LeO (sluiceref01_AddF.j2 k y0 y1 y2 y3 y4) (sluiceref01_AddF.j2 (k + 1) y0 y1 y2 y3 y4))
  | 0 => ⟨fun _ _ r h => by simp [sluiceref01_AddF.f] at h, fun _ _ _ _ _ _ _ _ _ r h => by simp [sluiceref01_AddF.j0] at h, fun _ _ _ _ _ _ _ _ _ r h => by simp [sluiceref01_AddF.j1] at h, fun _ _ _ _ _ r h => by simp [sluiceref01_AddF.j2] at h⟩
  | k + 1 => by
    obtain ⟨ih0, ih1, ih2, ih3⟩ := sluiceref01_AddF.mono_l k
    refine ⟨?_, ?_, ?_, ?_⟩
    · intro y0 y1
      unfold sluiceref01_AddF.f
      repeat' first
      | (with_reducible exact ih0 _ _)
      | (with_reducible exact ih1 _ _ _ _ _ _ _ _ _)
      | (with_reducible exact ih2 _ _ _ _ _ _ _ _ _)
      | (with_reducible exact ih3 _ _ _ _ _)
      | (with_reducible exact sluiceref01_Round.mono _ _ _ _)
      | (with_reducible exact sluiceref01_full.mono _ _)
      | (with_reducible exact LeO.refl _)
      | (with_reducible exact LeO.none _)
      | (with_reducible refine LeO.ite ?_ ?_)
      | (with_reducible refine LeO.bind ?_ (fun _ => ?_))
      | exact ih0 _ _
      | exact ih1 _ _ _ _ _ _ _ _ _
      | exact ih2 _ _ _ _ _ _ _ _ _
      | exact ih3 _ _ _ _ _
      | exact sluiceref01_Round.mono _ _ _ _
      | exact sluiceref01_full.mono _ _
      | exact LeO.none _
      | refine LeO.ite ?_ ?_
      | refine LeO.bind ?_ (fun _ => ?_)
    · intro y0 y1 y2 y3 y4 y5 y6 y7 y8
      unfold sluiceref01_AddF.j0
      repeat' first
      | (with_reducible exact ih0 _ _)
      | (with_reducible exact ih1 _ _ _ _ _ _ _ _ _)
      | (with_reducible exact ih2 _ _ _ _ _ _ _ _ _)
      | (with_reducible exact ih3 _ _ _ _ _)
      | (with_reducible exact sluiceref01_Round.mono _ _ _ _)
      | (with_reducible exact sluiceref01_full.mono _ _)
      | (with_reducible exact LeO.refl _)
      | (with_reducible exact LeO.none _)
      | (with_reducible refine LeO.ite ?_ ?_)
      | (with_reducible refine LeO.bind ?_ (fun _ => ?_))
      | exact ih0 _ _
      | exact ih1 _ _ _ _ _ _ _ _ _
      | exact ih2 _ _ _ _ _ _ _ _ _
      | exact ih3 _ _ _ _ _
      | exact sluiceref01_Round.mono _ _ _ _
      | exact sluiceref01_full.mono _ _
      | exact LeO.none _
      | refine LeO.ite ?_ ?_
      | refine LeO.bind ?_ (fun _ => ?_)
    · intro y0 y1 y2 y3 y4 y5 y6 y7 y8
      unfold sluiceref01_AddF.j1
      repeat' first
      | (with_reducible exact ih0 _ _)
      | (with_reducible exact ih1 _ _ _ _ _ _ _ _ _)
      | (with_reducible exact ih2 _ _ _ _ _ _ _ _ _)
      | (with_reducible exact ih3 _ _ _ _ _)
      | (with_reducible exact sluiceref01_Round.mono _ _ _ _)
      | (with_reducible exact sluiceref01_full.mono _ _)
      | (with_reducible exact LeO.refl _)
      | (with_reducible exact LeO.none _)
      | (with_reducible refine LeO.ite ?_ ?_)
      | (with_reducible refine LeO.bind ?_ (fun _ => ?_))
      | exact ih0 _ _
      | exact ih1 _ _ _ _ _ _ _ _ _
      | exact ih2 _ _ _ _ _ _ _ _ _
      | exact ih3 _ _ _ _ _
      | exact sluiceref01_Round.mono _ _ _ _
      | exact sluiceref01_full.mono _ _
      | exact LeO.none _
      | refine LeO.ite ?_ ?_
      | refine LeO.bind ?_ (fun _ => ?_)
    · intro y0 y1 y2 y3 y4
      unfold sluiceref01_AddF.j2
      repeat' first
      | (with_reducible exact ih0 _ _)
      | (with_reducible exact ih1 _ _ _ _ _ _ _ _ _)
      | (with_reducible exact ih2 _ _ _ _ _ _ _ _ _)
      | (with_reducible exact ih3 _ _ _ _ _)
      | (with_reducible exact sluiceref01_Round.mono _ _ _ _)
      | (with_reducible exact sluiceref01_full.mono _ _)
      | (with_reducible exact LeO.refl _)
      | (with_reducible exact LeO.none _)
      | (with_reducible refine LeO.ite ?_ ?_)
      | (with_reducible refine LeO.bind ?_ (fun _ => ?_))
      | exact ih0 _ _
      | exact ih1 _ _ _ _ _ _ _ _ _
      | exact ih2 _ _ _ _ _ _ _ _ _
      | exact ih3 _ _ _ _ _
      | exact sluiceref01_Round.mono _ _ _ _
      | exact sluiceref01_full.mono _ _
      | exact LeO.none _
      | refine LeO.ite ?_ ?_
      | refine LeO.bind ?_ (fun _ => ?_)
theorem sluiceref01_AddF.mono : ∀ a0 a1 k, LeO (sluiceref01_AddF.f k a0 a1) (sluiceref01_AddF.f (k + 1) a0 a1) := by
  intro a0 a1 k
  obtain ⟨ih0, ih1, ih2, ih3⟩ := sluiceref01_AddF.mono_l k
  exact ih0 a0 a1
set_option maxHeartbeats 8000000 in
set_option maxRecDepth 100000 in
theorem sluiceref01_AddF.calls (k : Nat) : ∀ (a0 : Int) (a1 : Int) (r : Int) (w : World) (h : sluiceref01_AddF.f k a0 a1 = some r),
    Calls Try.prog 41 #[.int .u32 a0, .int .u32 a1] w fun e w' => e = .returned (.int .u32 r) ∧ Below w.heap.size w w' := by
  induction k using Nat.strongRecOn with
  | _ k ih =>
  intro a0 a1 r w h
  cases k with
  | zero => exact absurd h (by simp [sluiceref01_AddF.f])
  | succ k =>
  simp only [sluiceref01_AddF.f] at h
  have HB := Aside0.mk (Below.refl w.heap.size w)
  have H : ((sluiceref01_full.f k a0).bind fun bt114 => ((sluiceref01_full.f k a1).bind fun bt117 => (if bt114.2.1 = 0 then (sluiceref01_AddF.j0 k a0 a1 bt114.1 bt114.2.1 bt114.2.2 bt117.1 bt117.2.1 bt117.2.2 (bt117.2.1 == 0)) else (sluiceref01_AddF.j0 k a0 a1 bt114.1 bt114.2.1 bt114.2.2 bt117.1 bt117.2.1 bt117.2.2 false)))) = some r := h
  clear h
  replace H := Option.bind_eq_some_iff.mp H
  obtain ⟨⟨t114, t115, t116⟩, A30, H⟩ := H
  replace H : ((sluiceref01_full.f k a1).bind fun bt117 => (if t115 = 0 then (sluiceref01_AddF.j0 k a0 a1 t114 t115 t116 bt117.1 bt117.2.1 bt117.2.2 (bt117.2.1 == 0)) else (sluiceref01_AddF.j0 k a0 a1 t114 t115 t116 bt117.1 bt117.2.1 bt117.2.2 false))) = some r := H
  have A3 := Aside0.mk A30
  clear A30
  replace H := Option.bind_eq_some_iff.mp H
  obtain ⟨⟨t117, t118, t119⟩, A40, H⟩ := H
  replace H : (if t115 = 0 then (sluiceref01_AddF.j0 k a0 a1 t114 t115 t116 t117 t118 t119 (t118 == 0)) else (sluiceref01_AddF.j0 k a0 a1 t114 t115 t116 t117 t118 t119 false)) = some r := H
  have A4 := Aside0.mk A40
  clear A40
  have HC5 := Aside0.mk H
  clear H
  go_enter Try.func41, Try.ntmps41
  go_upto_region 3 with (first | ((with_reducible refine gate_callee (f := 52) rfl ?_); refine goesL_ (some 17) rfl rfl Try.func52 (by kernel_rfl) rfl #[.int .u32 a0] rfl (by (try simp only [List.map_toArray, List.map_cons, List.map_nil]); first | done | rfl | (simp only [List.length_drop, List.length_take]; rfl)) ?_; (with_reducible refine (sluiceref01_full.calls k a0 t114 t115 t116 _ A3.out).mono ?_); rintro e w' ⟨rfl, ⟨nd, rfl⟩⟩; refine ⟨_, rfl, ?_⟩) | ((with_reducible refine gate_callee (f := 52) rfl ?_); refine goesL_ (some 23) rfl rfl Try.func52 (by kernel_rfl) rfl #[.int .u32 a1] rfl (by (try simp only [List.map_toArray, List.map_cons, List.map_nil]); first | done | rfl | (simp only [List.length_drop, List.length_take]; rfl)) ?_; (with_reducible refine (sluiceref01_full.calls k a1 t117 t118 t119 _ A4.out).mono ?_); rintro e w' ⟨rfl, ⟨nd, rfl⟩⟩; refine ⟨_, rfl, ?_⟩))
  (try simp only [Act.put, List.setIfInBounds_toArray, List.set_cons_zero, List.set_cons_succ])
  go_cut [32] (fun v32 wc => ∃ (kq : Nat) (x32_4 : Bool), v32 = .bool x32_4 ∧ Aside0 (sluiceref01_AddF.j0 kq a0 a1 t114 t115 t116 t117 t118 t119 x32_4 = some r) ∧ Aside0 (kq ≤ k) ∧ Aside0 (Below w.heap.size w wc))
  case first =>
    have H := HC5.out
    clear HC5
    by_cases c6 : t115 = 0
    · rw [if_pos c6] at H
      have c6b0 : (t115 == 0) = true := beq_iff_eq.mpr c6
      have c6b1 : (t115 != 0) = false := bne_eq_false_iff_eq.mpr c6
      clear c6
      (first | rw [c6b0] | (simp only [i64_w, i32_w]; rw [c6b0]) | skip)
      have H' := Aside0.mk H
      clear H
      go_wp2
      go_meet
      case rel => exact ⟨_, ((t118 == 0)), (by first | rfl | (simp; done) | (simp [*]; done)), H', ⟨by first | omega | exact Nat.le_refl _⟩, ⟨by repeat (first | (with_reducible first | exact HB.out | apply below_alloc | apply pw_below_drewN | apply below_drew1) | exact HB.out)⟩⟩
    · rw [if_neg c6] at H
      have c6b0 : (t115 == 0) = false := beq_eq_false_iff_ne.mpr c6
      have c6b1 : (t115 != 0) = true := bne_iff_ne.mpr c6
      (first | rw [c6b0] | (simp only [i64_w, i32_w]; rw [c6b0]) | skip)
      have H' := Aside0.mk H
      clear H
      go_wp2
      go_meet
      case rel => exact ⟨_, (false), (by first | rfl | (simp; done) | (simp [*]; done)), H', ⟨by first | omega | exact Nat.le_refl _⟩, ⟨by repeat (first | (with_reducible first | exact HB.out | apply below_alloc | apply pw_below_drewN | apply below_drew1) | exact HB.out)⟩⟩
  case rest =>
    clear HC5
    try clear p2
    try clear c4
    try clear c5
    try clear c6
    try clear c6b0
    try clear c6b1
    obtain ⟨kq, x32_4, rfl, HA, HJ4, HB⟩ := hcut
    cases kq with
    | zero => exact absurd HA.out (by simp [sluiceref01_AddF.j0])
    | succ kj4 =>
      have H := HA.out
      clear HA
      simp only [sluiceref01_AddF.j0] at H
      by_cases c7 : x32_4 = true
      · subst c7
        have H1 : (if t114 = true then ((sluiceref01_signed.f t117 0).bind fun t120 => (some t120)) else ((sluiceref01_signed.f false 0).bind fun t121 => (some t121))) = some r := by rw [if_pos rfl] at H; exact H
        clear H
        have H := H1
        clear H1
        by_cases c8 : t114 = true
        · subst c8
          have H1 : ((sluiceref01_signed.f t117 0).bind fun t120 => (some t120)) = some r := by rw [if_pos rfl] at H; exact H
          clear H
          have H := H1
          clear H1
          replace H := Option.bind_eq_some_iff.mp H
          obtain ⟨t120, A90, H⟩ := H
          replace H : (some t120) = some r := H
          have A9 := Aside0.mk A90
          clear A90
          obtain rfl := Option.some.inj H
          go_wp2_with (first | ((with_reducible refine gate_callee (f := 45) rfl ?_); refine goesL_ (some 37) rfl rfl Try.func45 (by kernel_rfl) rfl #[.bool t117, .int .u32 0] rfl (by (try simp only [List.map_toArray, List.map_cons, List.map_nil]); first | done | rfl | (simp only [List.length_drop, List.length_take]; rfl)) ?_; (with_reducible refine (sluiceref01_signed.calls t117 0 t120 _ A9.out).mono ?_); rintro e w' ⟨rfl, ⟨nd, rfl⟩⟩; refine ⟨_, rfl, ?_⟩))
          go_ret
          exact ⟨by first | rfl | (simp [errW_none, errW_some] <;> rfl) | (simp [*, errW_none, errW_some] <;> rfl), by repeat (first | (with_reducible first | exact HB.out | apply below_alloc | apply pw_below_drewN | apply below_drew1) | exact HB.out)⟩
        · replace c8 := Bool.eq_false_iff.mpr c8
          subst c8
          have H1 : ((sluiceref01_signed.f false 0).bind fun t121 => (some t121)) = some r := by rw [if_neg (show ¬ (false = true) by decide)] at H; exact H
          clear H
          have H := H1
          clear H1
          replace H := Option.bind_eq_some_iff.mp H
          obtain ⟨t121, A100, H⟩ := H
          replace H : (some t121) = some r := H
          have A10 := Aside0.mk A100
          clear A100
          obtain rfl := Option.some.inj H
          go_wp2_with (first | ((with_reducible refine gate_callee (f := 45) rfl ?_); refine goesL_ (some 37) rfl rfl Try.func45 (by kernel_rfl) rfl #[.bool false, .int .u32 0] rfl (by (try simp only [List.map_toArray, List.map_cons, List.map_nil]); first | done | rfl | (simp only [List.length_drop, List.length_take]; rfl)) ?_; (with_reducible refine (sluiceref01_signed.calls false 0 t121 _ A10.out).mono ?_); rintro e w' ⟨rfl, ⟨nd, rfl⟩⟩; refine ⟨_, rfl, ?_⟩))
          go_ret
          exact ⟨by first | rfl | (simp [errW_none, errW_some] <;> rfl) | (simp [*, errW_none, errW_some] <;> rfl), by repeat (first | (with_reducible first | exact HB.out | apply below_alloc | apply pw_below_drewN | apply below_drew1) | exact HB.out)⟩
      · replace c7 := Bool.eq_false_iff.mpr c7
        subst c7
        have H1 : (if t115 = 0 then (some a1) else (if t118 = 0 then (some a0) else (if t116 < t119 then (sluiceref01_AddF.j1 kj4 a0 a1 t114 t115 t116 t117 t118 t119 true) else (if t116 = t119 then (sluiceref01_AddF.j1 kj4 a0 a1 t114 t115 t116 t117 t118 t119 (decide (t115 < t118))) else (sluiceref01_AddF.j1 kj4 a0 a1 t114 t115 t116 t117 t118 t119 false))))) = some r := by rw [if_neg (show ¬ (false = true) by decide)] at H; exact H
        clear H
        have H := H1
        clear H1
        by_cases c11 : t115 = 0
        · rw [if_pos c11] at H
          have c11b0 : (t115 == 0) = true := beq_iff_eq.mpr c11
          have c11b1 : (t115 != 0) = false := bne_eq_false_iff_eq.mpr c11
          clear c11
          obtain rfl := Option.some.inj H
          go_wp2
          go_ret
          exact ⟨by first | rfl | (simp [errW_none, errW_some] <;> rfl) | (simp [*, errW_none, errW_some] <;> rfl), by repeat (first | (with_reducible first | exact HB.out | apply below_alloc | apply pw_below_drewN | apply below_drew1) | exact HB.out)⟩
        · rw [if_neg c11] at H
          have c11b0 : (t115 == 0) = false := beq_eq_false_iff_ne.mpr c11
          have c11b1 : (t115 != 0) = true := bne_iff_ne.mpr c11
          by_cases c12 : t118 = 0
          · rw [if_pos c12] at H
            have c12b0 : (t118 == 0) = true := beq_iff_eq.mpr c12
            have c12b1 : (t118 != 0) = false := bne_eq_false_iff_eq.mpr c12
            clear c12
            obtain rfl := Option.some.inj H
            go_wp2
            go_ret
            exact ⟨by first | rfl | (simp [errW_none, errW_some] <;> rfl) | (simp [*, errW_none, errW_some] <;> rfl), by repeat (first | (with_reducible first | exact HB.out | apply below_alloc | apply pw_below_drewN | apply below_drew1) | exact HB.out)⟩
          · rw [if_neg c12] at H
            have c12b0 : (t118 == 0) = false := beq_eq_false_iff_ne.mpr c12
            have c12b1 : (t118 != 0) = true := bne_iff_ne.mpr c12
            have HC13 := Aside0.mk H
            clear H
            go_upto_region 9 with (fail)
            go_cut [56] (fun v56 wc => ∃ (kq : Nat) (x56_12 : Bool), v56 = .bool x56_12 ∧ Aside0 (sluiceref01_AddF.j1 kq a0 a1 t114 t115 t116 t117 t118 t119 x56_12 = some r) ∧ Aside0 (kq ≤ kj4) ∧ Aside0 (Below w.heap.size w wc))
            case first =>
              have H := HC13.out
              clear HC13
              by_cases c14 : t116 < t119
              · rw [if_pos c14] at H
                have c14b0 : decide (t116 < t119) = true := decide_eq_true c14
                clear c14
                (first | rw [c14b0] | (simp only [i64_w, i32_w]; rw [c14b0]) | skip)
                have H' := Aside0.mk H
                clear H
                go_wp2
                go_meet
                case rel => exact ⟨_, (true), (by first | rfl | (simp; done) | (simp [*]; done)), H', ⟨by have := HJ4.out; first | omega | exact Nat.le_refl _⟩, ⟨by repeat (first | (with_reducible first | exact HB.out | apply below_alloc | apply pw_below_drewN | apply below_drew1) | exact HB.out)⟩⟩
              · rw [if_neg c14] at H
                have c14b0 : decide (t116 < t119) = false := decide_eq_false c14
                clear c14
                (first | rw [c14b0] | (simp only [i64_w, i32_w]; rw [c14b0]) | skip)
                by_cases c15 : t116 = t119
                · rw [if_pos c15] at H
                  have c15b0 : (t116 == t119) = true := beq_iff_eq.mpr c15
                  have c15b1 : (t116 != t119) = false := bne_eq_false_iff_eq.mpr c15
                  clear c15
                  have H' := Aside0.mk H
                  clear H
                  go_wp2
                  go_meet
                  case rel => exact ⟨_, (decide (t115 < t118)), (by first | rfl | (simp; done) | (simp [*]; done)), H', ⟨by have := HJ4.out; first | omega | exact Nat.le_refl _⟩, ⟨by repeat (first | (with_reducible first | exact HB.out | apply below_alloc | apply pw_below_drewN | apply below_drew1) | exact HB.out)⟩⟩
                · rw [if_neg c15] at H
                  have c15b0 : (t116 == t119) = false := beq_eq_false_iff_ne.mpr c15
                  have c15b1 : (t116 != t119) = true := bne_iff_ne.mpr c15
                  have H' := Aside0.mk H
                  clear H
                  go_wp2
                  go_meet
                  case rel => exact ⟨_, (false), (by first | rfl | (simp; done) | (simp [*]; done)), H', ⟨by have := HJ4.out; first | omega | exact Nat.le_refl _⟩, ⟨by repeat (first | (with_reducible first | exact HB.out | apply below_alloc | apply pw_below_drewN | apply below_drew1) | exact HB.out)⟩⟩
            case rest =>
              clear HC13
              try clear c1
              try clear p2
              try clear c4
              try clear c5
              try clear c6
              try clear c6b0
              try clear c6b1
              try clear c7
              try clear c8
              try clear c11
              try clear c11b0
              try clear c11b1
              try clear c12
              try clear c12b0
              try clear c12b1
              try clear c14
              try clear c14b0
              try clear c15
              try clear c15b0
              try clear c15b1
              try clear p2
              obtain ⟨kq, x56_12, rfl, HA, HJ12, HB⟩ := hcut
              cases kq with
              | zero => exact absurd HA.out (by simp [sluiceref01_AddF.j1])
              | succ kj12 =>
                have H := HA.out
                clear HA
                simp only [sluiceref01_AddF.j1] at H
                by_cases c16 : x56_12 = true
                · subst c16
                  have H1 : ((sluiceref01_AddF.f kj12 a1 a0).bind fun t122 => (some t122)) = some r := by rw [if_pos rfl] at H; exact H
                  clear H
                  have H := H1
                  clear H1
                  replace H := Option.bind_eq_some_iff.mp H
                  obtain ⟨t122, A170, H⟩ := H
                  replace H : (some t122) = some r := H
                  have A17 := Aside0.mk A170
                  clear A170
                  obtain rfl := Option.some.inj H
                  go_wp2_with (first | ((with_reducible refine gate_callee (f := 41) rfl ?_); refine goesL_ (some 59) rfl rfl Try.func41 (by kernel_rfl) rfl #[.int .u32 a1, .int .u32 a0] rfl (by (try simp only [List.map_toArray, List.map_cons, List.map_nil]); first | done | rfl | (simp only [List.length_drop, List.length_take]; rfl)) ?_; (with_reducible refine (ih kj12 (by have := HJ4.out; have := HJ12.out; omega) a1 a0 t122 _ A17.out).mono ?_); rintro e w18 ⟨rfl, hb⟩; refine ⟨_, rfl, ?_⟩; have n0_ := Aside0.mk (below_step (by repeat (first | (with_reducible first | exact HB.out | apply below_alloc | apply pw_below_drewN | apply below_drew1) | exact HB.out)) hb); clear HB; have HB := n0_; clear n0_; (try clear hb); (try clear hb2); (try clear hk); (try clear hi)))
                  go_ret
                  exact ⟨by first | rfl | (simp [errW_none, errW_some] <;> rfl) | (simp [*, errW_none, errW_some] <;> rfl), by repeat (first | (with_reducible first | exact HB.out | apply below_alloc | apply pw_below_drewN | apply below_drew1) | exact HB.out)⟩
                · replace c16 := Bool.eq_false_iff.mpr c16
                  subst c16
                  have H1 : (if (wrap64 (t116 - t119)) ≥ 63 then (sluiceref01_AddF.j2 kj12 t114 t116 t117 (IntKind.u64.wrap (t115 * 549755813888)) 1) else (if 0 ≤ (wrap64 (t116 - t119)) then (if (shl .u64 (shr .u64 (IntKind.u64.wrap (t118 * 549755813888)) (wrap64 (t116 - t119))) (wrap64 (t116 - t119))) = (IntKind.u64.wrap (t118 * 549755813888)) then (sluiceref01_AddF.j2 kj12 t114 t116 t117 (IntKind.u64.wrap (t115 * 549755813888)) (shr .u64 (IntKind.u64.wrap (t118 * 549755813888)) (wrap64 (t116 - t119)))) else (sluiceref01_AddF.j2 kj12 t114 t116 t117 (IntKind.u64.wrap (t115 * 549755813888)) (Go.bits .or .u64 (shr .u64 (IntKind.u64.wrap (t118 * 549755813888)) (wrap64 (t116 - t119))) 1))) else (none))) = some r := by rw [if_neg (show ¬ (false = true) by decide)] at H; exact H
                  clear H
                  have H := H1
                  clear H1
                  have HC19 := Aside0.mk H
                  clear H
                  go_upto_if 68 with (fail)
                  go_cut [12] (fun v12 wc => ∃ (kq : Nat) (x12_18 : Int), v12 = .int .u64 x12_18 ∧ Aside0 (sluiceref01_AddF.j2 kq t114 t116 t117 (IntKind.u64.wrap (t115 * 549755813888)) x12_18 = some r) ∧ Aside0 (kq ≤ kj12) ∧ Aside0 (Below w.heap.size w wc))
                  case first =>
                    have H := HC19.out
                    clear HC19
                    by_cases c20 : (wrap64 (t116 - t119)) ≥ 63
                    · rw [if_pos c20] at H
                      have c20b0 : decide (63 ≤ (wrap64 (t116 - t119))) = true := decide_eq_true c20
                      clear c20
                      (first | rw [c20b0] | (simp only [i64_w, i32_w]; rw [c20b0]) | skip)
                      have H' := Aside0.mk H
                      clear H
                      go_wp2
                      go_meet
                      case rel => exact ⟨_, (1), (by first | rfl | (simp; done) | (simp [*]; done)), H', ⟨by have := HJ4.out; have := HJ12.out; first | omega | exact Nat.le_refl _⟩, ⟨by repeat (first | (with_reducible first | exact HB.out | apply below_alloc | apply pw_below_drewN | apply below_drew1) | exact HB.out)⟩⟩
                    · rw [if_neg c20] at H
                      have c20b0 : decide (63 ≤ (wrap64 (t116 - t119))) = false := decide_eq_false c20
                      clear c20
                      (first | rw [c20b0] | (simp only [i64_w, i32_w]; rw [c20b0]) | skip)
                      obtain ⟨ji21, hji21⟩ : ∃ j_ : Int, (wrap64 (t116 - t119)) = j_ := ⟨_, rfl⟩
                      replace H : (if 0 ≤ (ji21) then (if (shl .u64 (shr .u64 (IntKind.u64.wrap (t118 * 549755813888)) (ji21)) (ji21)) = (IntKind.u64.wrap (t118 * 549755813888)) then (sluiceref01_AddF.j2 kj12 t114 t116 t117 (IntKind.u64.wrap (t115 * 549755813888)) (shr .u64 (IntKind.u64.wrap (t118 * 549755813888)) (ji21))) else (sluiceref01_AddF.j2 kj12 t114 t116 t117 (IntKind.u64.wrap (t115 * 549755813888)) (Go.bits .or .u64 (shr .u64 (IntKind.u64.wrap (t118 * 549755813888)) (ji21)) 1))) else (none)) = some r := by first | (rw [hji21] at H; exact H) | (simp only [hji21] at H ⊢; exact H)
                      (try rw [hji21] at c20b0)
                      have hji21w : (IntKind.i64.wrap (t116 - t119)) = ji21 := (i64_w _).trans hji21
                      by_cases c22 : 0 ≤ (ji21)
                      · rw [if_pos c22] at H
                        have c22b0 := eq_true c22
                        have c22b1 : decide (0 ≤ (ji21)) = true := decide_eq_true c22
                        clear c22
                        obtain ⟨ji23, hji23⟩ : ∃ j_ : Int, (shr .u64 (IntKind.u64.wrap (t118 * 549755813888)) (ji21)) = j_ := ⟨_, rfl⟩
                        replace H : (if (shl .u64 (ji23) (ji21)) = (IntKind.u64.wrap (t118 * 549755813888)) then (sluiceref01_AddF.j2 kj12 t114 t116 t117 (IntKind.u64.wrap (t115 * 549755813888)) ji23) else (sluiceref01_AddF.j2 kj12 t114 t116 t117 (IntKind.u64.wrap (t115 * 549755813888)) (Go.bits .or .u64 (ji23) 1))) = some r := by first | (rw [hji23] at H; exact H) | (simp only [hji23] at H ⊢; exact H)
                        have hji23_ : ((IntKind.u64.wrap (t118 * 549755813888)) / 2 ^ min (ji21).toNat 64) = ji23 := hji23
                        have hji23z : (ji21) ≤ 64 → ((IntKind.u64.wrap (t118 * 549755813888)) / 2 ^ (ji21).toNat) = ji23 := shr_small hji23
                        have c24b0 := eq_true (of_decide_eq_true (by first | (with_reducible assumption) | assumption) : 0 ≤ (ji21))
                        obtain ⟨ji25, hji25⟩ : ∃ j_ : Int, (shl .u64 (ji23) (ji21)) = j_ := ⟨_, rfl⟩
                        replace H : (if (ji25) = (IntKind.u64.wrap (t118 * 549755813888)) then (sluiceref01_AddF.j2 kj12 t114 t116 t117 (IntKind.u64.wrap (t115 * 549755813888)) ji23) else (sluiceref01_AddF.j2 kj12 t114 t116 t117 (IntKind.u64.wrap (t115 * 549755813888)) (Go.bits .or .u64 (ji23) 1))) = some r := by first | (rw [hji25] at H; exact H) | (simp only [hji25] at H ⊢; exact H)
                        have hji25_ : (IntKind.u64.wrap ((ji23) * 2 ^ min (ji21).toNat 64)) = ji25 := hji25
                        have hji25z : (ji21) ≤ 64 → (IntKind.u64.wrap ((ji23) * 2 ^ (ji21).toNat)) = ji25 := shl_small hji25
                        by_cases c26 : (ji25) = (IntKind.u64.wrap (t118 * 549755813888))
                        · rw [if_pos c26] at H
                          have c26b0 : ((ji25) == (IntKind.u64.wrap (t118 * 549755813888))) = true := beq_iff_eq.mpr c26
                          have c26b1 : ((ji25) != (IntKind.u64.wrap (t118 * 549755813888))) = false := bne_eq_false_iff_eq.mpr c26
                          clear c26
                          have H' := Aside0.mk H
                          clear H
                          go_wp2
                          go_meet
                          case rel => exact ⟨_, (ji23), (by first | rfl | (simp; done) | (simp only [← hji23] <;> (first | rfl | simp)) | (simp [*]; done)), H', ⟨by have := HJ4.out; have := HJ12.out; first | omega | exact Nat.le_refl _⟩, ⟨by repeat (first | (with_reducible first | exact HB.out | apply below_alloc | apply pw_below_drewN | apply below_drew1) | exact HB.out)⟩⟩
                        · rw [if_neg c26] at H
                          have c26b0 : ((ji25) == (IntKind.u64.wrap (t118 * 549755813888))) = false := beq_eq_false_iff_ne.mpr c26
                          have c26b1 : ((ji25) != (IntKind.u64.wrap (t118 * 549755813888))) = true := bne_iff_ne.mpr c26
                          have H' := Aside0.mk H
                          clear H
                          go_wp2
                          go_meet
                          case rel => exact ⟨_, (Go.bits .or .u64 (ji23) 1), (by first | rfl | (simp; done) | (simp only [← hji23] <;> (first | rfl | simp)) | (simp [*]; done)), H', ⟨by have := HJ4.out; have := HJ12.out; first | omega | exact Nat.le_refl _⟩, ⟨by repeat (first | (with_reducible first | exact HB.out | apply below_alloc | apply pw_below_drewN | apply below_drew1) | exact HB.out)⟩⟩
                      · rw [if_neg c22] at H
                        exact absurd H (by simp)
                  case rest =>
                    clear HC19
                    try clear c1
                    try clear c2
                    try clear p2
                    try clear c4
                    try clear c5
                    try clear c6
                    try clear c6b0
                    try clear c6b1
                    try clear p6
                    try clear c7
                    try clear c8
                    try clear c11
                    try clear c11b0
                    try clear c11b1
                    try clear c12
                    try clear c12b0
                    try clear c12b1
                    try clear c14
                    try clear c14b0
                    try clear c15
                    try clear c15b0
                    try clear c15b1
                    try clear c16
                    try clear c20
                    try clear c20b0
                    try clear c22
                    try clear c22b0
                    try clear c22b1
                    try clear c24
                    try clear c24b0
                    try clear c26
                    try clear c26b0
                    try clear c26b1
                    try clear p2
                    obtain ⟨kq, x12_18, rfl, HA, HJ18, HB⟩ := hcut
                    cases kq with
                    | zero => exact absurd HA.out (by simp [sluiceref01_AddF.j2])
                    | succ kj18 =>
                      have H := HA.out
                      clear HA
                      simp only [sluiceref01_AddF.j2] at H
                      by_cases c27 : (t114 == t117) = true
                      · rw [if_pos c27] at H
                        have c27b0 : (t114 == t117) = true := c27
                        (try (have c27b1 : decide (t114 = t117) = true := by simpa using c27))
                        (try (have c27b2 : (t114 == t117) = true := by simpa using c27))
                        clear c27
                        replace H := Option.bind_eq_some_iff.mp H
                        obtain ⟨t123, A280, H⟩ := H
                        replace H : (some t123) = some r := H
                        have A28 := Aside0.mk A280
                        clear A280
                        obtain rfl := Option.some.inj H
                        go_wp2_with (first | ((with_reducible refine gate_callee (f := 18) rfl ?_); refine goesL_ (some 89) rfl rfl Try.func18 (by kernel_rfl) rfl #[.bool t114, .int .u64 (IntKind.u64.wrap ((IntKind.u64.wrap (t115 * 549755813888)) + x12_18)), .int .i64 (wrap64 (t116 - 39))] rfl (by (try simp only [List.map_toArray, List.map_cons, List.map_nil]); first | done | rfl | (simp only [List.length_drop, List.length_take]; rfl)) ?_; (with_reducible refine (sluiceref01_Round.calls kj18 t114 (IntKind.u64.wrap ((IntKind.u64.wrap (t115 * 549755813888)) + x12_18)) (wrap64 (t116 - 39)) t123 _ A28.out).mono ?_); rintro e w29 ⟨rfl, hb⟩; refine ⟨_, rfl, ?_⟩; have n0_ := Aside0.mk (below_step (by repeat (first | (with_reducible first | exact HB.out | apply below_alloc | apply pw_below_drewN | apply below_drew1) | exact HB.out)) hb); clear HB; have HB := n0_; clear n0_; (try clear hb); (try clear hb2); (try clear hk); (try clear hi)))
                        go_ret
                        exact ⟨by first | rfl | (simp [errW_none, errW_some] <;> rfl) | (simp [*, errW_none, errW_some] <;> rfl), by repeat (first | (with_reducible first | exact HB.out | apply below_alloc | apply pw_below_drewN | apply below_drew1) | exact HB.out)⟩
                      · rw [if_neg c27] at H
                        have c27b0 : (t114 == t117) = false := by simpa using c27
                        (try (have c27b1 : decide (t114 = t117) = false := by simpa using c27))
                        (try (have c27b2 : (t114 == t117) = false := by simpa using c27))
                        (try (have c27b3 : ¬ (t114 = t117) := by simpa using c27))
                        clear c27
                        by_cases c30 : (IntKind.u64.wrap (t115 * 549755813888)) = x12_18
                        · rw [if_pos c30] at H
                          have c30b0 : ((IntKind.u64.wrap (t115 * 549755813888)) == x12_18) = true := beq_iff_eq.mpr c30
                          have c30b1 : ((IntKind.u64.wrap (t115 * 549755813888)) != x12_18) = false := bne_eq_false_iff_eq.mpr c30
                          clear c30
                          obtain rfl := Option.some.inj H
                          go_wp2
                          go_ret
                          exact ⟨by first | rfl | (simp [errW_none, errW_some] <;> rfl) | (simp [*, errW_none, errW_some] <;> rfl), by repeat (first | (with_reducible first | exact HB.out | apply below_alloc | apply pw_below_drewN | apply below_drew1) | exact HB.out)⟩
                        · rw [if_neg c30] at H
                          have c30b0 : ((IntKind.u64.wrap (t115 * 549755813888)) == x12_18) = false := beq_eq_false_iff_ne.mpr c30
                          have c30b1 : ((IntKind.u64.wrap (t115 * 549755813888)) != x12_18) = true := bne_iff_ne.mpr c30
                          replace H := Option.bind_eq_some_iff.mp H
                          obtain ⟨t124, A310, H⟩ := H
                          replace H : (some t124) = some r := H
                          have A31 := Aside0.mk A310
                          clear A310
                          obtain rfl := Option.some.inj H
                          go_wp2_with (first | ((with_reducible refine gate_callee (f := 18) rfl ?_); refine goesL_ (some 99) rfl rfl Try.func18 (by kernel_rfl) rfl #[.bool t114, .int .u64 (IntKind.u64.wrap ((IntKind.u64.wrap (t115 * 549755813888)) - x12_18)), .int .i64 (wrap64 (t116 - 39))] rfl (by (try simp only [List.map_toArray, List.map_cons, List.map_nil]); first | done | rfl | (simp only [List.length_drop, List.length_take]; rfl)) ?_; (with_reducible refine (sluiceref01_Round.calls kj18 t114 (IntKind.u64.wrap ((IntKind.u64.wrap (t115 * 549755813888)) - x12_18)) (wrap64 (t116 - 39)) t124 _ A31.out).mono ?_); rintro e w32 ⟨rfl, hb⟩; refine ⟨_, rfl, ?_⟩; have n0_ := Aside0.mk (below_step (by repeat (first | (with_reducible first | exact HB.out | apply below_alloc | apply pw_below_drewN | apply below_drew1) | exact HB.out)) hb); clear HB; have HB := n0_; clear n0_; (try clear hb); (try clear hb2); (try clear hk); (try clear hi)))
                          go_ret
                          exact ⟨by first | rfl | (simp [errW_none, errW_some] <;> rfl) | (simp [*, errW_none, errW_some] <;> rfl), by repeat (first | (with_reducible first | exact HB.out | apply below_alloc | apply pw_below_drewN | apply below_drew1) | exact HB.out)⟩

/-! ### sluiceref01_NegF: function 42 -/
def sluiceref01_NegF.f (a0 : Int) : Option (Int) := some (Go.bits .xor .u32 a0 2147483648)
set_option maxHeartbeats 8000000 in
set_option maxRecDepth 100000 in
theorem sluiceref01_NegF.calls (a0 : Int) (r : Int) (w : World) (h : sluiceref01_NegF.f a0 = some r) :
    Calls Try.prog 42 #[.int .u32 a0] w fun e w' => e = .returned (.int .u32 r) ∧ Drawn0 w w' := by
  have H : (some (Go.bits .xor .u32 a0 2147483648)) = some r := h
  clear h
  obtain rfl := Option.some.inj H
  go_enter Try.func42, Try.ntmps42
  go_wp2
  go_ret
  exact ⟨by first | rfl | (simp; done) | (simp [*]; done), by repeat (first | exact Drawn0.refl _ | apply Drawn0.step)⟩

/-! ### sluiceref01_SubF: function 14 -/
def sluiceref01_SubF.f (k : Nat) (a0 : Int) (a1 : Int) : Option (Int) := (sluiceref01_NegF.f a1).bind fun t125 => ((sluiceref01_AddF.f k a0 t125).bind fun t126 => (some t126))
theorem sluiceref01_SubF.mono : ∀ a0 a1 k, LeO (sluiceref01_SubF.f k a0 a1) (sluiceref01_SubF.f (k + 1) a0 a1) := by
  intro a0 a1 k
  unfold sluiceref01_SubF.f
  repeat' first
      | (with_reducible exact sluiceref01_AddF.mono _ _ _)
      | (with_reducible exact LeO.refl _)
      | (with_reducible exact LeO.none _)
      | (with_reducible refine LeO.ite ?_ ?_)
      | (with_reducible refine LeO.bind ?_ (fun _ => ?_))
      | exact sluiceref01_AddF.mono _ _ _
      | exact LeO.none _
      | refine LeO.ite ?_ ?_
      | refine LeO.bind ?_ (fun _ => ?_)
set_option maxHeartbeats 8000000 in
set_option maxRecDepth 100000 in
theorem sluiceref01_SubF.calls (k : Nat) (a0 : Int) (a1 : Int) (r : Int) (w : World) (h : sluiceref01_SubF.f k a0 a1 = some r) :
    Calls Try.prog 14 #[.int .u32 a0, .int .u32 a1] w fun e w' => e = .returned (.int .u32 r) ∧ Below w.heap.size w w' := by
  have HB := Aside0.mk (Below.refl w.heap.size w)
  have H : ((sluiceref01_NegF.f a1).bind fun t125 => ((sluiceref01_AddF.f k a0 t125).bind fun t126 => (some t126))) = some r := h
  clear h
  replace H := Option.bind_eq_some_iff.mp H
  obtain ⟨t125, A30, H⟩ := H
  replace H : ((sluiceref01_AddF.f k a0 t125).bind fun t126 => (some t126)) = some r := H
  have A3 := Aside0.mk A30
  clear A30
  replace H := Option.bind_eq_some_iff.mp H
  obtain ⟨t126, A40, H⟩ := H
  replace H : (some t126) = some r := H
  have A4 := Aside0.mk A40
  clear A40
  obtain rfl := Option.some.inj H
  go_enter Try.func14, Try.ntmps14
  go_wp2_with (first | ((with_reducible refine gate_callee (f := 42) rfl ?_); refine goesL_ (some 7) rfl rfl Try.func42 (by kernel_rfl) rfl #[.int .u32 a1] rfl (by (try simp only [List.map_toArray, List.map_cons, List.map_nil]); first | done | rfl | (simp only [List.length_drop, List.length_take]; rfl)) ?_; (with_reducible refine (sluiceref01_NegF.calls a1 t125 _ A3.out).mono ?_); rintro e w' ⟨rfl, ⟨nd, rfl⟩⟩; refine ⟨_, rfl, ?_⟩) | ((with_reducible refine gate_callee (f := 41) rfl ?_); refine goesL_ (some 8) rfl rfl Try.func41 (by kernel_rfl) rfl #[.int .u32 a0, .int .u32 t125] rfl (by (try simp only [List.map_toArray, List.map_cons, List.map_nil]); first | done | rfl | (simp only [List.length_drop, List.length_take]; rfl)) ?_; (with_reducible refine (sluiceref01_AddF.calls k a0 t125 t126 _ A4.out).mono ?_); rintro e w5 ⟨rfl, hb⟩; refine ⟨_, rfl, ?_⟩; have n0_ := Aside0.mk (below_step (by repeat (first | (with_reducible first | exact HB.out | apply below_alloc | apply pw_below_drewN | apply below_drew1) | exact HB.out)) hb); clear HB; have HB := n0_; clear n0_; (try clear hb); (try clear hb2); (try clear hk); (try clear hi)))
  go_ret
  exact ⟨by first | rfl | (simp [errW_none, errW_some] <;> rfl) | (simp [*, errW_none, errW_some] <;> rfl), by repeat (first | (with_reducible first | exact HB.out | apply below_alloc | apply pw_below_drewN | apply below_drew1) | exact HB.out)⟩

end Go.Proofs.Ytdnofpafojjjaaa.PGrainOrder
