-- PRINTED BY print.sh 35421559b90ae4d0a3588c463048766b98c2df88dd9212a6774a882060cdf62d: not written by this session
import Derived.Test.YtdnofpafojjjaaaPGrainOrderx0
import Derived.Test.YtdnofpafojjjaaaPGrainOrderx1
import Derived.Test.YtdnofpafojjjaaaPGrainOrderx2
namespace Go.Proofs.Ytdnofpafojjjaaa.PGrainOrder
open Go.RowKit Go.Proofs.YtdnofpafojjjaaaW.PrintWords Go.Proofs.YtdnofpafojjjaaaW.PrintLast Go.Proofs.YtdnofpafojjjaaaW.PrintMore
attribute [local go_sem] max2_int min2_int max_two min_two max_three min_three max_four min_four   -- for this text's walks alone
set_option linter.unusedVariables false
set_option linter.unusedSimpArgs false

/-! ### sluicelaw01_GrainOrder: function 4 -/
mutual
def sluicelaw01_GrainOrder.j0 : Nat → Int → Int → Int → Int → Bool → Option (Bool)
  | 0, _, _, _, _, _ => none
  | k + 1, x0, x1, x5, x6, x35 => if x35 = true then (some false) else ((sluiceref01_Class.f k x0).bind fun t132 => (if t132 = 4 then (sluicelaw01_GrainOrder.j1 k x0 x1 x5 x6 true) else ((sluiceref01_Class.f k x1).bind fun t133 => (sluicelaw01_GrainOrder.j1 k x0 x1 x5 x6 (t133 == 4)))))
def sluicelaw01_GrainOrder.j1 : Nat → Int → Int → Int → Int → Bool → Option (Bool)
  | 0, _, _, _, _, _ => none
  | k + 1, x0, x1, x5, x6, x43 => if x43 = true then (some true) else ((sluiceref01_Class.f k x0).bind fun t134 => (if t134 = 3 then (sluicelaw01_GrainOrder.j2 k x0 x1 x5 x6 true) else ((sluiceref01_Class.f k x1).bind fun t135 => (sluicelaw01_GrainOrder.j2 k x0 x1 x5 x6 (t135 == 3)))))
def sluicelaw01_GrainOrder.j2 : Nat → Int → Int → Int → Int → Bool → Option (Bool)
  | 0, _, _, _, _, _ => none
  | k + 1, x0, x1, x5, x6, x51 => if x51 = true then (if x0 = x1 then (some true) else (if x0 = 4286578688 then (some ((decide (x5 < x6)) == true)) else (some ((decide (x5 < x6)) == (x1 == 2139095040))))) else ((sluiceref01_SubF.f k x0 x1).bind fun t136 => ((sluiceref01_Class.f k t136).bind fun t137 => (if t137 = 0 then (if x0 = x1 then (some true) else (if (wrap64 (x5 - x6)) = 1 then (some true) else (some ((wrap64 (x6 - x5)) == 1)))) else (some ((decide (x5 < x6)) == (decide (t136 ≥ 2147483648)))))))
end
def sluicelaw01_GrainOrder.f (k : Nat) (a0 : Int) (a1 : Int) : Option (Bool) := (grain_Rank.f a0).bind fun t127 => ((grain_Rank.f a1).bind fun t128 => ((grain_OfRank.f k t127).bind fun bt129 => ((sluicelaw01_num.f bt129.2).bind fun t131 => (if t131 = 0 then (if bt129.1 = a0 then (sluicelaw01_GrainOrder.j0 k a0 a1 t127 t128 ((t127 == t128) != (a0 == a1))) else (sluicelaw01_GrainOrder.j0 k a0 a1 t127 t128 true)) else (sluicelaw01_GrainOrder.j0 k a0 a1 t127 t128 true)))))
theorem sluicelaw01_GrainOrder.mono_l : ∀ k, (∀ y0 y1 y2 y3 y4, LeO (sluicelaw01_GrainOrder.j0 k y0 y1 y2 y3 y4) (sluicelaw01_GrainOrder.j0 (k + 1) y0 y1 y2 y3 y4)) ∧ (∀ y0 y1 y2 y3 y4, LeO (sluicelaw01_GrainOrder.j1 k y0 y1 y2 y3 y4) (sluicelaw01_GrainOrder.j1 (k + 1) y0 y1 y2 y3 y4)) ∧ (∀ y0 y1 y2 y3 y4, LeO (sluicelaw01_GrainOrder.j2 k y0 y1 y2 y3 y4) (sluicelaw01_GrainOrder.j2 (k + 1) y0 y1 y2 y3 y4))
  | 0 => ⟨fun _ _ _ _ _ r h => by simp [sluicelaw01_GrainOrder.j0] at h, fun _ _ _ _ _ r h => by simp [sluicelaw01_GrainOrder.j1] at h, fun _ _ _ _ _ r h => by simp [sluicelaw01_GrainOrder.j2] at h⟩
  | k + 1 => by
    obtain ⟨ih0, ih1, ih2⟩ := sluicelaw01_GrainOrder.mono_l k
    refine ⟨?_, ?_, ?_⟩
    · intro y0 y1 y2 y3 y4
      unfold sluicelaw01_GrainOrder.j0
      repeat' first
      | (with_reducible exact ih0 _ _ _ _ _)
      | (with_reducible exact ih1 _ _ _ _ _)
      | (with_reducible exact ih2 _ _ _ _ _)
      | (with_reducible exact grain_OfRank.mono _ _)
      | (with_reducible exact sluiceref01_Class.mono _ _)
      | (with_reducible exact sluiceref01_SubF.mono _ _ _)
      | (with_reducible exact LeO.refl _)
      | (with_reducible exact LeO.none _)
      | (with_reducible refine LeO.ite ?_ ?_)
      | (with_reducible refine LeO.bind ?_ (fun _ => ?_))
      | exact ih0 _ _ _ _ _
      | exact ih1 _ _ _ _ _
      | exact ih2 _ _ _ _ _
      | exact grain_OfRank.mono _ _
      | exact sluiceref01_Class.mono _ _
      | exact sluiceref01_SubF.mono _ _ _
      | exact LeO.none _
      | refine LeO.ite ?_ ?_
      | refine LeO.bind ?_ (fun _ => ?_)
    · intro y0 y1 y2 y3 y4
      unfold sluicelaw01_GrainOrder.j1
      repeat' first
      | (with_reducible exact ih0 _ _ _ _ _)
      | (with_reducible exact ih1 _ _ _ _ _)
      | (with_reducible exact ih2 _ _ _ _ _)
      | (with_reducible exact grain_OfRank.mono _ _)
      | (with_reducible exact sluiceref01_Class.mono _ _)
      | (with_reducible exact sluiceref01_SubF.mono _ _ _)
      | (with_reducible exact LeO.refl _)
      | (with_reducible exact LeO.none _)
      | (with_reducible refine LeO.ite ?_ ?_)
      | (with_reducible refine LeO.bind ?_ (fun _ => ?_))
      | exact ih0 _ _ _ _ _
      | exact ih1 _ _ _ _ _
      | exact ih2 _ _ _ _ _
      | exact grain_OfRank.mono _ _
      | exact sluiceref01_Class.mono _ _
      | exact sluiceref01_SubF.mono _ _ _
      | exact LeO.none _
      | refine LeO.ite ?_ ?_
      | refine LeO.bind ?_ (fun _ => ?_)
    · intro y0 y1 y2 y3 y4
      unfold sluicelaw01_GrainOrder.j2
      repeat' first
      | (with_reducible exact ih0 _ _ _ _ _)
      | (with_reducible exact ih1 _ _ _ _ _)
      | (with_reducible exact ih2 _ _ _ _ _)
      | (with_reducible exact grain_OfRank.mono _ _)
      | (with_reducible exact sluiceref01_Class.mono _ _)
      | (with_reducible exact sluiceref01_SubF.mono _ _ _)
      | (with_reducible exact LeO.refl _)
      | (with_reducible exact LeO.none _)
      | (with_reducible refine LeO.ite ?_ ?_)
      | (with_reducible refine LeO.bind ?_ (fun _ => ?_))
      | exact ih0 _ _ _ _ _
      | exact ih1 _ _ _ _ _
      | exact ih2 _ _ _ _ _
      | exact grain_OfRank.mono _ _
      | exact sluiceref01_Class.mono _ _
      | exact sluiceref01_SubF.mono _ _ _
      | exact LeO.none _
      | refine LeO.ite ?_ ?_
      | refine LeO.bind ?_ (fun _ => ?_)
theorem sluicelaw01_GrainOrder.mono : ∀ a0 a1 k, LeO (sluicelaw01_GrainOrder.f k a0 a1) (sluicelaw01_GrainOrder.f (k + 1) a0 a1) := by
  intro a0 a1 k
  obtain ⟨ih0, ih1, ih2⟩ := sluicelaw01_GrainOrder.mono_l k
  unfold sluicelaw01_GrainOrder.f
  repeat' first
      | (with_reducible exact ih0 _ _ _ _ _)
      | (with_reducible exact ih1 _ _ _ _ _)
      | (with_reducible exact ih2 _ _ _ _ _)
      | (with_reducible exact grain_OfRank.mono _ _)
      | (with_reducible exact sluiceref01_Class.mono _ _)
      | (with_reducible exact sluiceref01_SubF.mono _ _ _)
      | (with_reducible exact LeO.refl _)
      | (with_reducible exact LeO.none _)
      | (with_reducible refine LeO.ite ?_ ?_)
      | (with_reducible refine LeO.bind ?_ (fun _ => ?_))
      | exact ih0 _ _ _ _ _
      | exact ih1 _ _ _ _ _
      | exact ih2 _ _ _ _ _
      | exact grain_OfRank.mono _ _
      | exact sluiceref01_Class.mono _ _
      | exact sluiceref01_SubF.mono _ _ _
      | exact LeO.none _
      | refine LeO.ite ?_ ?_
      | refine LeO.bind ?_ (fun _ => ?_)
set_option maxHeartbeats 8000000 in
set_option maxRecDepth 100000 in
theorem sluicelaw01_GrainOrder.calls (k : Nat) (a0 : Int) (a1 : Int) (r : Bool) (w : World) (h : sluicelaw01_GrainOrder.f k a0 a1 = some r) :
    Calls Try.prog 4 #[.int .u32 a0, .int .u32 a1] w fun e w' => e = .returned (.bool r) ∧ Below w.heap.size w w' := by
  have HB := Aside0.mk (Below.refl w.heap.size w)
  have H : ((grain_Rank.f a0).bind fun t127 => ((grain_Rank.f a1).bind fun t128 => ((grain_OfRank.f k t127).bind fun bt129 => ((sluicelaw01_num.f bt129.2).bind fun t131 => (if t131 = 0 then (if bt129.1 = a0 then (sluicelaw01_GrainOrder.j0 k a0 a1 t127 t128 ((t127 == t128) != (a0 == a1))) else (sluicelaw01_GrainOrder.j0 k a0 a1 t127 t128 true)) else (sluicelaw01_GrainOrder.j0 k a0 a1 t127 t128 true)))))) = some r := h
  clear h
  replace H := Option.bind_eq_some_iff.mp H
  obtain ⟨t127, A30, H⟩ := H
  replace H : ((grain_Rank.f a1).bind fun t128 => ((grain_OfRank.f k t127).bind fun bt129 => ((sluicelaw01_num.f bt129.2).bind fun t131 => (if t131 = 0 then (if bt129.1 = a0 then (sluicelaw01_GrainOrder.j0 k a0 a1 t127 t128 ((t127 == t128) != (a0 == a1))) else (sluicelaw01_GrainOrder.j0 k a0 a1 t127 t128 true)) else (sluicelaw01_GrainOrder.j0 k a0 a1 t127 t128 true))))) = some r := H
  have A3 := Aside0.mk A30
  clear A30
  replace H := Option.bind_eq_some_iff.mp H
  obtain ⟨t128, A40, H⟩ := H
  replace H : ((grain_OfRank.f k t127).bind fun bt129 => ((sluicelaw01_num.f bt129.2).bind fun t131 => (if t131 = 0 then (if bt129.1 = a0 then (sluicelaw01_GrainOrder.j0 k a0 a1 t127 t128 ((t127 == t128) != (a0 == a1))) else (sluicelaw01_GrainOrder.j0 k a0 a1 t127 t128 true)) else (sluicelaw01_GrainOrder.j0 k a0 a1 t127 t128 true)))) = some r := H
  have A4 := Aside0.mk A40
  clear A40
  replace H := Option.bind_eq_some_iff.mp H
  obtain ⟨⟨t129, t130⟩, A50, H⟩ := H
  replace H : ((sluicelaw01_num.f t130).bind fun t131 => (if t131 = 0 then (if t129 = a0 then (sluicelaw01_GrainOrder.j0 k a0 a1 t127 t128 ((t127 == t128) != (a0 == a1))) else (sluicelaw01_GrainOrder.j0 k a0 a1 t127 t128 true)) else (sluicelaw01_GrainOrder.j0 k a0 a1 t127 t128 true))) = some r := H
  have A5 := Aside0.mk A50
  clear A50
  have HC6 := Aside0.mk H
  clear H
  go_enter Try.func4, Try.ntmps4
  go_upto_region 4 with (first | ((with_reducible refine gate_callee (f := 11) rfl ?_); refine goesL_ (some 11) rfl rfl Try.func11 (by kernel_rfl) rfl #[.int .u32 a0] rfl (by (try simp only [List.map_toArray, List.map_cons, List.map_nil]); first | done | rfl | (simp only [List.length_drop, List.length_take]; rfl)) ?_; (with_reducible refine (grain_Rank.calls a0 t127 _ A3.out).mono ?_); rintro e w' ⟨rfl, ⟨nd, rfl⟩⟩; refine ⟨_, rfl, ?_⟩) | ((with_reducible refine gate_callee (f := 11) rfl ?_); refine goesL_ (some 13) rfl rfl Try.func11 (by kernel_rfl) rfl #[.int .u32 a1] rfl (by (try simp only [List.map_toArray, List.map_cons, List.map_nil]); first | done | rfl | (simp only [List.length_drop, List.length_take]; rfl)) ?_; (with_reducible refine (grain_Rank.calls a1 t128 _ A4.out).mono ?_); rintro e w' ⟨rfl, ⟨nd, rfl⟩⟩; refine ⟨_, rfl, ?_⟩) | ((with_reducible refine gate_callee (f := 12) rfl ?_); refine goesL_ (some 16) rfl rfl Try.func12 (by kernel_rfl) rfl #[.int .i64 t127] rfl (by (try simp only [List.map_toArray, List.map_cons, List.map_nil]); first | done | rfl | (simp only [List.length_drop, List.length_take]; rfl)) ?_; (with_reducible refine (grain_OfRank.calls k t127 t129 t130 _ A5.out).mono ?_); rintro e w' ⟨rfl, ⟨nd, rfl⟩⟩; refine ⟨_, rfl, ?_⟩))
  (try simp only [Act.put, List.setIfInBounds_toArray, List.set_cons_zero, List.set_cons_succ])
  go_cut [35] (fun v35 wc => ∃ (kq : Nat) (x35_5 : Bool), v35 = .bool x35_5 ∧ Aside0 (sluicelaw01_GrainOrder.j0 kq a0 a1 t127 t128 x35_5 = some r) ∧ Aside0 (kq ≤ k) ∧ Aside0 (Below w.heap.size w wc))
  case first =>
    have H := HC6.out
    clear HC6
    replace H := Option.bind_eq_some_iff.mp H
    obtain ⟨t131, A70, H⟩ := H
    replace H : (if t131 = 0 then (if t129 = a0 then (sluicelaw01_GrainOrder.j0 k a0 a1 t127 t128 ((t127 == t128) != (a0 == a1))) else (sluicelaw01_GrainOrder.j0 k a0 a1 t127 t128 true)) else (sluicelaw01_GrainOrder.j0 k a0 a1 t127 t128 true)) = some r := H
    have A7 := Aside0.mk A70
    clear A70
    by_cases c8 : t131 = 0
    · rw [if_pos c8] at H
      have c8b0 : (t131 == 0) = true := beq_iff_eq.mpr c8
      have c8b1 : (t131 != 0) = false := bne_eq_false_iff_eq.mpr c8
      clear c8
      (first | rw [c8b0] | (simp only [i64_w, i32_w]; rw [c8b0]) | skip)
      by_cases c9 : t129 = a0
      · rw [if_pos c9] at H
        have c9b0 : (t129 == a0) = true := beq_iff_eq.mpr c9
        have c9b1 : (t129 != a0) = false := bne_eq_false_iff_eq.mpr c9
        clear c9
        have H' := Aside0.mk H
        clear H
        go_wp2_with (first | ((with_reducible refine gate_callee (f := 10) rfl ?_); refine goesL_ (some 20) rfl rfl Try.func10 (by kernel_rfl) rfl #[.int .i64 t130] rfl (by (try simp only [List.map_toArray, List.map_cons, List.map_nil]); first | done | rfl | (simp only [List.length_drop, List.length_take]; rfl)) ?_; (with_reducible refine (sluicelaw01_num.calls t130 t131 _ A7.out).mono ?_); rintro e w' ⟨rfl, ⟨nd, rfl⟩⟩; refine ⟨_, rfl, ?_⟩))
        go_meet
        case rel => exact ⟨_, (((t127 == t128) != (a0 == a1))), (by first | rfl | (simp; done) | (simp [*]; done)), H', ⟨by first | omega | exact Nat.le_refl _⟩, ⟨by repeat (first | (with_reducible first | exact HB.out | apply below_alloc | apply pw_below_drewN | apply below_drew1) | exact HB.out)⟩⟩
      · rw [if_neg c9] at H
        have c9b0 : (t129 == a0) = false := beq_eq_false_iff_ne.mpr c9
        have c9b1 : (t129 != a0) = true := bne_iff_ne.mpr c9
        have H' := Aside0.mk H
        clear H
        go_wp2_with (first | ((with_reducible refine gate_callee (f := 10) rfl ?_); refine goesL_ (some 20) rfl rfl Try.func10 (by kernel_rfl) rfl #[.int .i64 t130] rfl (by (try simp only [List.map_toArray, List.map_cons, List.map_nil]); first | done | rfl | (simp only [List.length_drop, List.length_take]; rfl)) ?_; (with_reducible refine (sluicelaw01_num.calls t130 t131 _ A7.out).mono ?_); rintro e w' ⟨rfl, ⟨nd, rfl⟩⟩; refine ⟨_, rfl, ?_⟩))
        go_meet
        case rel => exact ⟨_, (true), (by first | rfl | (simp; done) | (simp [*]; done)), H', ⟨by first | omega | exact Nat.le_refl _⟩, ⟨by repeat (first | (with_reducible first | exact HB.out | apply below_alloc | apply pw_below_drewN | apply below_drew1) | exact HB.out)⟩⟩
    · rw [if_neg c8] at H
      have c8b0 : (t131 == 0) = false := beq_eq_false_iff_ne.mpr c8
      have c8b1 : (t131 != 0) = true := bne_iff_ne.mpr c8
      (first | rw [c8b0] | (simp only [i64_w, i32_w]; rw [c8b0]) | skip)
      have H' := Aside0.mk H
      clear H
      go_wp2_with (first | ((with_reducible refine gate_callee (f := 10) rfl ?_); refine goesL_ (some 20) rfl rfl Try.func10 (by kernel_rfl) rfl #[.int .i64 t130] rfl (by (try simp only [List.map_toArray, List.map_cons, List.map_nil]); first | done | rfl | (simp only [List.length_drop, List.length_take]; rfl)) ?_; (with_reducible refine (sluicelaw01_num.calls t130 t131 _ A7.out).mono ?_); rintro e w' ⟨rfl, ⟨nd, rfl⟩⟩; refine ⟨_, rfl, ?_⟩))
      go_meet
      case rel => exact ⟨_, (true), (by first | rfl | (simp; done) | (simp [*]; done)), H', ⟨by first | omega | exact Nat.le_refl _⟩, ⟨by repeat (first | (with_reducible first | exact HB.out | apply below_alloc | apply pw_below_drewN | apply below_drew1) | exact HB.out)⟩⟩
  case rest =>
    clear HC6
    try clear c1
    try clear p2
    try clear c4
    try clear c8
    try clear c8b0
    try clear c8b1
    try clear c9
    try clear c9b0
    try clear c9b1
    obtain ⟨kq, x35_5, rfl, HA, HJ5, HB⟩ := hcut
    cases kq with
    | zero => exact absurd HA.out (by simp [sluicelaw01_GrainOrder.j0])
    | succ kj5 =>
      have H := HA.out
      clear HA
      simp only [sluicelaw01_GrainOrder.j0] at H
      by_cases c10 : x35_5 = true
      · subst c10
        have H1 : (some false) = some r := by rw [if_pos rfl] at H; exact H
        clear H
        have H := H1
        clear H1
        obtain rfl := Option.some.inj H
        go_wp2
        go_ret
        exact ⟨by first | rfl | (simp [errW_none, errW_some] <;> rfl) | (simp [*, errW_none, errW_some] <;> rfl), by repeat (first | (with_reducible first | exact HB.out | apply below_alloc | apply pw_below_drewN | apply below_drew1) | exact HB.out)⟩
      · replace c10 := Bool.eq_false_iff.mpr c10
        subst c10
        have H1 : ((sluiceref01_Class.f kj5 a0).bind fun t132 => (if t132 = 4 then (sluicelaw01_GrainOrder.j1 kj5 a0 a1 t127 t128 true) else ((sluiceref01_Class.f kj5 a1).bind fun t133 => (sluicelaw01_GrainOrder.j1 kj5 a0 a1 t127 t128 (t133 == 4))))) = some r := by rw [if_neg (show ¬ (false = true) by decide)] at H; exact H
        clear H
        have H := H1
        clear H1
        have HC11 := Aside0.mk H
        clear H
        go_upto_region 6 with (fail)
        go_cut [43] (fun v43 wc => ∃ (kq : Nat) (x43_10 : Bool), v43 = .bool x43_10 ∧ Aside0 (sluicelaw01_GrainOrder.j1 kq a0 a1 t127 t128 x43_10 = some r) ∧ Aside0 (kq ≤ kj5) ∧ Aside0 (Below w.heap.size w wc))
        case first =>
          have H := HC11.out
          clear HC11
          replace H := Option.bind_eq_some_iff.mp H
          obtain ⟨t132, A120, H⟩ := H
          replace H : (if t132 = 4 then (sluicelaw01_GrainOrder.j1 kj5 a0 a1 t127 t128 true) else ((sluiceref01_Class.f kj5 a1).bind fun t133 => (sluicelaw01_GrainOrder.j1 kj5 a0 a1 t127 t128 (t133 == 4)))) = some r := H
          have A12 := Aside0.mk A120
          clear A120
          by_cases c13 : t132 = 4
          · rw [if_pos c13] at H
            have c13b0 : (t132 == 4) = true := beq_iff_eq.mpr c13
            have c13b1 : (t132 != 4) = false := bne_eq_false_iff_eq.mpr c13
            clear c13
            (first | rw [c13b0] | (simp only [i64_w, i32_w]; rw [c13b0]) | skip)
            have H' := Aside0.mk H
            clear H
            go_wp2_with (first | ((with_reducible refine gate_callee (f := 13) rfl ?_); refine goesL_ (some 37) rfl rfl Try.func13 (by kernel_rfl) rfl #[.int .u32 a0] rfl (by (try simp only [List.map_toArray, List.map_cons, List.map_nil]); first | done | rfl | (simp only [List.length_drop, List.length_take]; rfl)) ?_; (with_reducible refine (sluiceref01_Class.calls kj5 a0 t132 _ A12.out).mono ?_); rintro e w' ⟨rfl, ⟨nd, rfl⟩⟩; refine ⟨_, rfl, ?_⟩))
            go_meet
            case rel => exact ⟨_, (true), (by first | rfl | (simp; done) | (simp [*]; done)), H', ⟨by have := HJ5.out; first | omega | exact Nat.le_refl _⟩, ⟨by repeat (first | (with_reducible first | exact HB.out | apply below_alloc | apply pw_below_drewN | apply below_drew1) | exact HB.out)⟩⟩
          · rw [if_neg c13] at H
            have c13b0 : (t132 == 4) = false := beq_eq_false_iff_ne.mpr c13
            have c13b1 : (t132 != 4) = true := bne_iff_ne.mpr c13
            (first | rw [c13b0] | (simp only [i64_w, i32_w]; rw [c13b0]) | skip)
            replace H := Option.bind_eq_some_iff.mp H
            obtain ⟨t133, A140, H⟩ := H
            replace H : (sluicelaw01_GrainOrder.j1 kj5 a0 a1 t127 t128 (t133 == 4)) = some r := H
            have A14 := Aside0.mk A140
            clear A140
            have H' := Aside0.mk H
            clear H
            go_wp2_with (first | ((with_reducible refine gate_callee (f := 13) rfl ?_); refine goesL_ (some 37) rfl rfl Try.func13 (by kernel_rfl) rfl #[.int .u32 a0] rfl (by (try simp only [List.map_toArray, List.map_cons, List.map_nil]); first | done | rfl | (simp only [List.length_drop, List.length_take]; rfl)) ?_; (with_reducible refine (sluiceref01_Class.calls kj5 a0 t132 _ A12.out).mono ?_); rintro e w' ⟨rfl, ⟨nd, rfl⟩⟩; refine ⟨_, rfl, ?_⟩) | (go_at_call 13; (with_reducible refine (sluiceref01_Class.calls kj5 a1 t133 _ A14.out).mono ?_); rintro e w' ⟨rfl, ⟨nd, rfl⟩⟩))
            go_meet
            case rel => exact ⟨_, ((t133 == 4)), (by first | rfl | (simp; done) | (simp [*]; done)), H', ⟨by have := HJ5.out; first | omega | exact Nat.le_refl _⟩, ⟨by repeat (first | (with_reducible first | exact HB.out | apply below_alloc | apply pw_below_drewN | apply below_drew1) | exact HB.out)⟩⟩
        case rest =>
          clear HC11
          try clear c1
          try clear p2
          try clear c4
          try clear c8
          try clear c8b0
          try clear c8b1
          try clear c9
          try clear c9b0
          try clear c9b1
          try clear c10
          try clear c11
          try clear c12
          try clear c13
          try clear c13b0
          try clear c13b1
          try clear p2
          obtain ⟨kq, x43_10, rfl, HA, HJ10, HB⟩ := hcut
          cases kq with
          | zero => exact absurd HA.out (by simp [sluicelaw01_GrainOrder.j1])
          | succ kj10 =>
            have H := HA.out
            clear HA
            simp only [sluicelaw01_GrainOrder.j1] at H
            by_cases c15 : x43_10 = true
            · subst c15
              have H1 : (some true) = some r := by rw [if_pos rfl] at H; exact H
              clear H
              have H := H1
              clear H1
              obtain rfl := Option.some.inj H
              go_wp2
              go_ret
              exact ⟨by first | rfl | (simp [errW_none, errW_some] <;> rfl) | (simp [*, errW_none, errW_some] <;> rfl), by repeat (first | (with_reducible first | exact HB.out | apply below_alloc | apply pw_below_drewN | apply below_drew1) | exact HB.out)⟩
            · replace c15 := Bool.eq_false_iff.mpr c15
              subst c15
              have H1 : ((sluiceref01_Class.f kj10 a0).bind fun t134 => (if t134 = 3 then (sluicelaw01_GrainOrder.j2 kj10 a0 a1 t127 t128 true) else ((sluiceref01_Class.f kj10 a1).bind fun t135 => (sluicelaw01_GrainOrder.j2 kj10 a0 a1 t127 t128 (t135 == 3))))) = some r := by rw [if_neg (show ¬ (false = true) by decide)] at H; exact H
              clear H
              have H := H1
              clear H1
              have HC16 := Aside0.mk H
              clear H
              go_upto_region 8 with (fail)
              go_cut [51] (fun v51 wc => ∃ (kq : Nat) (x51_15 : Bool), v51 = .bool x51_15 ∧ Aside0 (sluicelaw01_GrainOrder.j2 kq a0 a1 t127 t128 x51_15 = some r) ∧ Aside0 (kq ≤ kj10) ∧ Aside0 (Below w.heap.size w wc))
              case first =>
                have H := HC16.out
                clear HC16
                replace H := Option.bind_eq_some_iff.mp H
                obtain ⟨t134, A170, H⟩ := H
                replace H : (if t134 = 3 then (sluicelaw01_GrainOrder.j2 kj10 a0 a1 t127 t128 true) else ((sluiceref01_Class.f kj10 a1).bind fun t135 => (sluicelaw01_GrainOrder.j2 kj10 a0 a1 t127 t128 (t135 == 3)))) = some r := H
                have A17 := Aside0.mk A170
                clear A170
                by_cases c18 : t134 = 3
                · rw [if_pos c18] at H
                  have c18b0 : (t134 == 3) = true := beq_iff_eq.mpr c18
                  have c18b1 : (t134 != 3) = false := bne_eq_false_iff_eq.mpr c18
                  clear c18
                  (first | rw [c18b0] | (simp only [i64_w, i32_w]; rw [c18b0]) | skip)
                  have H' := Aside0.mk H
                  clear H
                  go_wp2_with (first | ((with_reducible refine gate_callee (f := 13) rfl ?_); refine goesL_ (some 45) rfl rfl Try.func13 (by kernel_rfl) rfl #[.int .u32 a0] rfl (by (try simp only [List.map_toArray, List.map_cons, List.map_nil]); first | done | rfl | (simp only [List.length_drop, List.length_take]; rfl)) ?_; (with_reducible refine (sluiceref01_Class.calls kj10 a0 t134 _ A17.out).mono ?_); rintro e w' ⟨rfl, ⟨nd, rfl⟩⟩; refine ⟨_, rfl, ?_⟩))
                  go_meet
                  case rel => exact ⟨_, (true), (by first | rfl | (simp; done) | (simp [*]; done)), H', ⟨by have := HJ5.out; have := HJ10.out; first | omega | exact Nat.le_refl _⟩, ⟨by repeat (first | (with_reducible first | exact HB.out | apply below_alloc | apply pw_below_drewN | apply below_drew1) | exact HB.out)⟩⟩
                · rw [if_neg c18] at H
                  have c18b0 : (t134 == 3) = false := beq_eq_false_iff_ne.mpr c18
                  have c18b1 : (t134 != 3) = true := bne_iff_ne.mpr c18
                  (first | rw [c18b0] | (simp only [i64_w, i32_w]; rw [c18b0]) | skip)
                  replace H := Option.bind_eq_some_iff.mp H
                  obtain ⟨t135, A190, H⟩ := H
                  replace H : (sluicelaw01_GrainOrder.j2 kj10 a0 a1 t127 t128 (t135 == 3)) = some r := H
                  have A19 := Aside0.mk A190
                  clear A190
                  have H' := Aside0.mk H
                  clear H
                  go_wp2_with (first | ((with_reducible refine gate_callee (f := 13) rfl ?_); refine goesL_ (some 45) rfl rfl Try.func13 (by kernel_rfl) rfl #[.int .u32 a0] rfl (by (try simp only [List.map_toArray, List.map_cons, List.map_nil]); first | done | rfl | (simp only [List.length_drop, List.length_take]; rfl)) ?_; (with_reducible refine (sluiceref01_Class.calls kj10 a0 t134 _ A17.out).mono ?_); rintro e w' ⟨rfl, ⟨nd, rfl⟩⟩; refine ⟨_, rfl, ?_⟩) | (go_at_call 13; (with_reducible refine (sluiceref01_Class.calls kj10 a1 t135 _ A19.out).mono ?_); rintro e w' ⟨rfl, ⟨nd, rfl⟩⟩))
                  go_meet
                  case rel => exact ⟨_, ((t135 == 3)), (by first | rfl | (simp; done) | (simp [*]; done)), H', ⟨by have := HJ5.out; have := HJ10.out; first | omega | exact Nat.le_refl _⟩, ⟨by repeat (first | (with_reducible first | exact HB.out | apply below_alloc | apply pw_below_drewN | apply below_drew1) | exact HB.out)⟩⟩
              case rest =>
                clear HC16
                try clear c1
                try clear p2
                try clear c4
                try clear c8
                try clear c8b0
                try clear c8b1
                try clear c9
                try clear c9b0
                try clear c9b1
                try clear c10
                try clear c11
                try clear c12
                try clear c13
                try clear c13b0
                try clear c13b1
                try clear c15
                try clear c18
                try clear c18b0
                try clear c18b1
                try clear p2
                obtain ⟨kq, x51_15, rfl, HA, HJ15, HB⟩ := hcut
                cases kq with
                | zero => exact absurd HA.out (by simp [sluicelaw01_GrainOrder.j2])
                | succ kj15 =>
                  have H := HA.out
                  clear HA
                  simp only [sluicelaw01_GrainOrder.j2] at H
                  by_cases c20 : x51_15 = true
                  · subst c20
                    have H1 : (if a0 = a1 then (some true) else (if a0 = 4286578688 then (some ((decide (t127 < t128)) == true)) else (some ((decide (t127 < t128)) == (a1 == 2139095040))))) = some r := by rw [if_pos rfl] at H; exact H
                    clear H
                    have H := H1
                    clear H1
                    by_cases c21 : a0 = a1
                    · rw [if_pos c21] at H
                      have c21b0 : (a0 == a1) = true := beq_iff_eq.mpr c21
                      have c21b1 : (a0 != a1) = false := bne_eq_false_iff_eq.mpr c21
                      clear c21
                      obtain rfl := Option.some.inj H
                      go_wp2
                      go_ret
                      exact ⟨by first | rfl | (simp [errW_none, errW_some] <;> rfl) | (simp [*, errW_none, errW_some] <;> rfl), by repeat (first | (with_reducible first | exact HB.out | apply below_alloc | apply pw_below_drewN | apply below_drew1) | exact HB.out)⟩
                    · rw [if_neg c21] at H
                      have c21b0 : (a0 == a1) = false := beq_eq_false_iff_ne.mpr c21
                      have c21b1 : (a0 != a1) = true := bne_iff_ne.mpr c21
                      by_cases c22 : a0 = 4286578688
                      · rw [if_pos c22] at H
                        have c22b0 : (a0 == 4286578688) = true := beq_iff_eq.mpr c22
                        have c22b1 : (a0 != 4286578688) = false := bne_eq_false_iff_eq.mpr c22
                        clear c22
                        obtain rfl := Option.some.inj H
                        go_wp2
                        go_ret
                        exact ⟨by first | rfl | (simp [errW_none, errW_some] <;> rfl) | (simp [*, errW_none, errW_some] <;> rfl), by repeat (first | (with_reducible first | exact HB.out | apply below_alloc | apply pw_below_drewN | apply below_drew1) | exact HB.out)⟩
                      · rw [if_neg c22] at H
                        have c22b0 : (a0 == 4286578688) = false := beq_eq_false_iff_ne.mpr c22
                        have c22b1 : (a0 != 4286578688) = true := bne_iff_ne.mpr c22
                        obtain rfl := Option.some.inj H
                        go_wp2
                        go_ret
                        exact ⟨by first | rfl | (simp [errW_none, errW_some] <;> rfl) | (simp [*, errW_none, errW_some] <;> rfl), by repeat (first | (with_reducible first | exact HB.out | apply below_alloc | apply pw_below_drewN | apply below_drew1) | exact HB.out)⟩
                  · replace c20 := Bool.eq_false_iff.mpr c20
                    subst c20
                    have H1 : ((sluiceref01_SubF.f kj15 a0 a1).bind fun t136 => ((sluiceref01_Class.f kj15 t136).bind fun t137 => (if t137 = 0 then (if a0 = a1 then (some true) else (if (wrap64 (t127 - t128)) = 1 then (some true) else (some ((wrap64 (t128 - t127)) == 1)))) else (some ((decide (t127 < t128)) == (decide (t136 ≥ 2147483648))))))) = some r := by rw [if_neg (show ¬ (false = true) by decide)] at H; exact H
                    clear H
                    have H := H1
                    clear H1
                    replace H := Option.bind_eq_some_iff.mp H
                    obtain ⟨t136, A230, H⟩ := H
                    replace H : ((sluiceref01_Class.f kj15 t136).bind fun t137 => (if t137 = 0 then (if a0 = a1 then (some true) else (if (wrap64 (t127 - t128)) = 1 then (some true) else (some ((wrap64 (t128 - t127)) == 1)))) else (some ((decide (t127 < t128)) == (decide (t136 ≥ 2147483648)))))) = some r := H
                    have A23 := Aside0.mk A230
                    clear A230
                    replace H := Option.bind_eq_some_iff.mp H
                    obtain ⟨t137, A240, H⟩ := H
                    replace H : (if t137 = 0 then (if a0 = a1 then (some true) else (if (wrap64 (t127 - t128)) = 1 then (some true) else (some ((wrap64 (t128 - t127)) == 1)))) else (some ((decide (t127 < t128)) == (decide (t136 ≥ 2147483648))))) = some r := H
                    have A24 := Aside0.mk A240
                    clear A240
                    by_cases c25 : t137 = 0
                    · rw [if_pos c25] at H
                      have c25b0 : (t137 == 0) = true := beq_iff_eq.mpr c25
                      have c25b1 : (t137 != 0) = false := bne_eq_false_iff_eq.mpr c25
                      clear c25
                      by_cases c26 : a0 = a1
                      · rw [if_pos c26] at H
                        have c26b0 : (a0 == a1) = true := beq_iff_eq.mpr c26
                        have c26b1 : (a0 != a1) = false := bne_eq_false_iff_eq.mpr c26
                        clear c26
                        obtain rfl := Option.some.inj H
                        go_wp2_with (first | ((with_reducible refine gate_callee (f := 14) rfl ?_); refine goesL_ (some 69) rfl rfl Try.func14 (by kernel_rfl) rfl #[.int .u32 a0, .int .u32 a1] rfl (by (try simp only [List.map_toArray, List.map_cons, List.map_nil]); first | done | rfl | (simp only [List.length_drop, List.length_take]; rfl)) ?_; (with_reducible refine (sluiceref01_SubF.calls kj15 a0 a1 t136 _ A23.out).mono ?_); rintro e w27 ⟨rfl, hb⟩; refine ⟨_, rfl, ?_⟩; have n0_ := Aside0.mk (below_step (by repeat (first | (with_reducible first | exact HB.out | apply below_alloc | apply pw_below_drewN | apply below_drew1) | exact HB.out)) hb); clear HB; have HB := n0_; clear n0_; (try clear hb); (try clear hb2); (try clear hk); (try clear hi)) | ((with_reducible refine gate_callee (f := 13) rfl ?_); refine goesL_ (some 71) rfl rfl Try.func13 (by kernel_rfl) rfl #[.int .u32 t136] rfl (by (try simp only [List.map_toArray, List.map_cons, List.map_nil]); first | done | rfl | (simp only [List.length_drop, List.length_take]; rfl)) ?_; (with_reducible refine (sluiceref01_Class.calls kj15 t136 t137 _ A24.out).mono ?_); rintro e w' ⟨rfl, ⟨nd, rfl⟩⟩; refine ⟨_, rfl, ?_⟩))
                        go_ret
                        exact ⟨by first | rfl | (simp [errW_none, errW_some] <;> rfl) | (simp [*, errW_none, errW_some] <;> rfl), by repeat (first | (with_reducible first | exact HB.out | apply below_alloc | apply pw_below_drewN | apply below_drew1) | exact HB.out)⟩
                      · rw [if_neg c26] at H
                        have c26b0 : (a0 == a1) = false := beq_eq_false_iff_ne.mpr c26
                        have c26b1 : (a0 != a1) = true := bne_iff_ne.mpr c26
                        by_cases c28 : (wrap64 (t127 - t128)) = 1
                        · rw [if_pos c28] at H
                          have c28b0 : ((wrap64 (t127 - t128)) == 1) = true := beq_iff_eq.mpr c28
                          have c28b1 : ((wrap64 (t127 - t128)) != 1) = false := bne_eq_false_iff_eq.mpr c28
                          clear c28
                          obtain rfl := Option.some.inj H
                          go_wp2_with (first | ((with_reducible refine gate_callee (f := 14) rfl ?_); refine goesL_ (some 69) rfl rfl Try.func14 (by kernel_rfl) rfl #[.int .u32 a0, .int .u32 a1] rfl (by (try simp only [List.map_toArray, List.map_cons, List.map_nil]); first | done | rfl | (simp only [List.length_drop, List.length_take]; rfl)) ?_; (with_reducible refine (sluiceref01_SubF.calls kj15 a0 a1 t136 _ A23.out).mono ?_); rintro e w29 ⟨rfl, hb⟩; refine ⟨_, rfl, ?_⟩; have n0_ := Aside0.mk (below_step (by repeat (first | (with_reducible first | exact HB.out | apply below_alloc | apply pw_below_drewN | apply below_drew1) | exact HB.out)) hb); clear HB; have HB := n0_; clear n0_; (try clear hb); (try clear hb2); (try clear hk); (try clear hi)) | ((with_reducible refine gate_callee (f := 13) rfl ?_); refine goesL_ (some 71) rfl rfl Try.func13 (by kernel_rfl) rfl #[.int .u32 t136] rfl (by (try simp only [List.map_toArray, List.map_cons, List.map_nil]); first | done | rfl | (simp only [List.length_drop, List.length_take]; rfl)) ?_; (with_reducible refine (sluiceref01_Class.calls kj15 t136 t137 _ A24.out).mono ?_); rintro e w' ⟨rfl, ⟨nd, rfl⟩⟩; refine ⟨_, rfl, ?_⟩))
                          go_ret
                          exact ⟨by first | rfl | (simp [errW_none, errW_some] <;> rfl) | (simp [*, errW_none, errW_some] <;> rfl), by repeat (first | (with_reducible first | exact HB.out | apply below_alloc | apply pw_below_drewN | apply below_drew1) | exact HB.out)⟩
                        · rw [if_neg c28] at H
                          have c28b0 : ((wrap64 (t127 - t128)) == 1) = false := beq_eq_false_iff_ne.mpr c28
                          have c28b1 : ((wrap64 (t127 - t128)) != 1) = true := bne_iff_ne.mpr c28
                          obtain rfl := Option.some.inj H
                          go_wp2_with (first | ((with_reducible refine gate_callee (f := 14) rfl ?_); refine goesL_ (some 69) rfl rfl Try.func14 (by kernel_rfl) rfl #[.int .u32 a0, .int .u32 a1] rfl (by (try simp only [List.map_toArray, List.map_cons, List.map_nil]); first | done | rfl | (simp only [List.length_drop, List.length_take]; rfl)) ?_; (with_reducible refine (sluiceref01_SubF.calls kj15 a0 a1 t136 _ A23.out).mono ?_); rintro e w30 ⟨rfl, hb⟩; refine ⟨_, rfl, ?_⟩; have n0_ := Aside0.mk (below_step (by repeat (first | (with_reducible first | exact HB.out | apply below_alloc | apply pw_below_drewN | apply below_drew1) | exact HB.out)) hb); clear HB; have HB := n0_; clear n0_; (try clear hb); (try clear hb2); (try clear hk); (try clear hi)) | ((with_reducible refine gate_callee (f := 13) rfl ?_); refine goesL_ (some 71) rfl rfl Try.func13 (by kernel_rfl) rfl #[.int .u32 t136] rfl (by (try simp only [List.map_toArray, List.map_cons, List.map_nil]); first | done | rfl | (simp only [List.length_drop, List.length_take]; rfl)) ?_; (with_reducible refine (sluiceref01_Class.calls kj15 t136 t137 _ A24.out).mono ?_); rintro e w' ⟨rfl, ⟨nd, rfl⟩⟩; refine ⟨_, rfl, ?_⟩))
                          go_ret
                          exact ⟨by first | rfl | (simp [errW_none, errW_some] <;> rfl) | (simp [*, errW_none, errW_some] <;> rfl), by repeat (first | (with_reducible first | exact HB.out | apply below_alloc | apply pw_below_drewN | apply below_drew1) | exact HB.out)⟩
                    · rw [if_neg c25] at H
                      have c25b0 : (t137 == 0) = false := beq_eq_false_iff_ne.mpr c25
                      have c25b1 : (t137 != 0) = true := bne_iff_ne.mpr c25
                      obtain rfl := Option.some.inj H
                      go_wp2_with (first | ((with_reducible refine gate_callee (f := 14) rfl ?_); refine goesL_ (some 69) rfl rfl Try.func14 (by kernel_rfl) rfl #[.int .u32 a0, .int .u32 a1] rfl (by (try simp only [List.map_toArray, List.map_cons, List.map_nil]); first | done | rfl | (simp only [List.length_drop, List.length_take]; rfl)) ?_; (with_reducible refine (sluiceref01_SubF.calls kj15 a0 a1 t136 _ A23.out).mono ?_); rintro e w31 ⟨rfl, hb⟩; refine ⟨_, rfl, ?_⟩; have n0_ := Aside0.mk (below_step (by repeat (first | (with_reducible first | exact HB.out | apply below_alloc | apply pw_below_drewN | apply below_drew1) | exact HB.out)) hb); clear HB; have HB := n0_; clear n0_; (try clear hb); (try clear hb2); (try clear hk); (try clear hi)) | ((with_reducible refine gate_callee (f := 13) rfl ?_); refine goesL_ (some 71) rfl rfl Try.func13 (by kernel_rfl) rfl #[.int .u32 t136] rfl (by (try simp only [List.map_toArray, List.map_cons, List.map_nil]); first | done | rfl | (simp only [List.length_drop, List.length_take]; rfl)) ?_; (with_reducible refine (sluiceref01_Class.calls kj15 t136 t137 _ A24.out).mono ?_); rintro e w' ⟨rfl, ⟨nd, rfl⟩⟩; refine ⟨_, rfl, ?_⟩))
                      go_ret
                      exact ⟨by first | rfl | (simp [errW_none, errW_some] <;> rfl) | (simp [*, errW_none, errW_some] <;> rfl), by repeat (first | (with_reducible first | exact HB.out | apply below_alloc | apply pw_below_drewN | apply below_drew1) | exact HB.out)⟩

/-- THE ONE PURE STATEMENT of sluicelaw01_GrainOrder: yours. -/
def sluicelaw01_GrainOrder.Pure : Prop := ∀ (a0 : Int) (a1 : Int), (Lit.int .u32 a0).wf = true → (Lit.int .u32 a1).wf = true → ∃ k, sluicelaw01_GrainOrder.f k a0 a1 = some true
theorem sluicelaw01_GrainOrder.walk (P : sluicelaw01_GrainOrder.Pure) (a0 : Int) (a1 : Int) (w : World) (w0 : (Lit.int .u32 a0).wf = true) (w1 : (Lit.int .u32 a1).wf = true) :
    Calls Try.prog 4 #[.int .u32 a0, .int .u32 a1] w fun e w' => e = .returned (.bool true) ∧ Below w.heap.size w w' := by
  obtain ⟨k, h⟩ := P a0 a1 w0 w1
  refine (sluicelaw01_GrainOrder.calls k a0 a1 true w h).mono ?_
  rintro e w' ⟨rfl, hd⟩
  exact ⟨rfl, hd⟩

end Go.Proofs.Ytdnofpafojjjaaa.PGrainOrder
