/- What the functions that the statement GrainRounds reaches come to, and that the given program's calls come to it; written by this session's program printx.py (wip/tpl), which runs the kit's print over the translation with additions of its own. No printed file. Conditions: as each theorem says. -/
import Derived.Test.YtdnofpafojjjaaaQGrainRoundsx0
import Derived.Test.YtdnofpafojjjaaaQGrainRoundsx1
namespace Go.Proofs.Ytdnofpafojjjaaa.QGrainRounds
open Go.RowKit Go.Proofs.YtdnofpafojjjaaaW.PrintWords Go.Proofs.YtdnofpafojjjaaaW.PrintLast Go.Proofs.YtdnofpafojjjaaaW.PrintMore
attribute [local go_sem] max2_int min2_int max_two min_two max_three min_three max_four min_four   -- for this text's walks alone
set_option linter.unusedVariables false
set_option linter.unusedSimpArgs false

/-! ### sluiceref01_Round: function 18 -/
mutual
def sluiceref01_Round.j0 : Nat → Bool → Int → Int → Bool → Option (Int)
  | 0, _, _, _, _ => none
  | k + 1, x0, x1, x2, x20 => if x20 = true then ((sluiceref01_signed.f x0 0).bind fun t104 => (some t104)) else (if x2 > 200 then ((sluiceref01_signed.f x0 2139095040).bind fun t105 => (some t105)) else (sluiceref01_Round.l0 k x0 x1 x2 x2 x1))
def sluiceref01_Round.l0 : Nat → Bool → Int → Int → Int → Int → Option (Int)
  | 0, _, _, _, _, _ => none
  | k + 1, x0, x1, x2, x7, x8 => if x8 > 1 then (sluiceref01_Round.l0 k x0 x1 x2 (wrap64 (x7 + 1)) (IntKind.u64.wrap (Int.tdiv x8 2))) else (if (wrap64 ((mx (wrap64 (x7 - 23)) (-149)) - x2)) ≤ 0 then (if 0 ≤ (wrap64 (-(wrap64 ((mx (wrap64 (x7 - 23)) (-149)) - x2)))) then (sluiceref01_Round.j2 k x0 (mx (wrap64 (x7 - 23)) (-149)) (shl .u64 x1 (wrap64 (-(wrap64 ((mx (wrap64 (x7 - 23)) (-149)) - x2))))) 0 0) else (none)) else (if (wrap64 ((mx (wrap64 (x7 - 23)) (-149)) - x2)) ≤ 64 then (if (wrap64 ((mx (wrap64 (x7 - 23)) (-149)) - x2)) < 64 then (if 0 ≤ (wrap64 ((mx (wrap64 (x7 - 23)) (-149)) - x2)) then (if 0 ≤ (wrap64 ((wrap64 ((mx (wrap64 (x7 - 23)) (-149)) - x2)) - 1)) then (sluiceref01_Round.j2 k x0 (mx (wrap64 (x7 - 23)) (-149)) (shr .u64 x1 (wrap64 ((mx (wrap64 (x7 - 23)) (-149)) - x2))) (IntKind.u64.wrap (x1 - (shl .u64 (shr .u64 x1 (wrap64 ((mx (wrap64 (x7 - 23)) (-149)) - x2))) (wrap64 ((mx (wrap64 (x7 - 23)) (-149)) - x2))))) (shl .u64 1 (wrap64 ((wrap64 ((mx (wrap64 (x7 - 23)) (-149)) - x2)) - 1)))) else (none)) else (none)) else (if 0 ≤ (wrap64 ((wrap64 ((mx (wrap64 (x7 - 23)) (-149)) - x2)) - 1)) then (sluiceref01_Round.j2 k x0 (mx (wrap64 (x7 - 23)) (-149)) 0 x1 (shl .u64 1 (wrap64 ((wrap64 ((mx (wrap64 (x7 - 23)) (-149)) - x2)) - 1)))) else (none))) else (sluiceref01_Round.j2 k x0 (mx (wrap64 (x7 - 23)) (-149)) 0 0 0)))
def sluiceref01_Round.j2 : Nat → Bool → Int → Int → Int → Int → Option (Int)
  | 0, _, _, _, _, _ => none
  | k + 1, x0, x9, x10, x11, x12 => if x12 > 0 then (if x11 > x12 then (sluiceref01_Round.j3 k x0 x9 x10 true) else (if x11 = x12 then (sluiceref01_Round.j3 k x0 x9 x10 ((Int.tmod x10 2) == 1)) else (sluiceref01_Round.j3 k x0 x9 x10 false))) else (sluiceref01_Round.j3 k x0 x9 x10 false)
def sluiceref01_Round.j3 : Nat → Bool → Int → Int → Bool → Option (Int)
  | 0, _, _, _, _ => none
  | k + 1, x0, x9, x10, x81 => if x81 = true then (if x9 > (-149) then ((sluiceref01_signed.f x0 ((mn (IntKind.u64.wrap ((IntKind.u64.wrap ((IntKind.u64.wrap ((IntKind.u64.wrap (wrap64 (x9 + 150))) * 8388608)) + (IntKind.u64.wrap (x10 + 1)))) - 8388608)) 2139095040) % 4294967296)).bind fun t106 => (some t106)) else ((sluiceref01_signed.f x0 ((mn (IntKind.u64.wrap (x10 + 1)) 2139095040) % 4294967296)).bind fun t107 => (some t107))) else (if x9 > (-149) then ((sluiceref01_signed.f x0 ((mn (IntKind.u64.wrap ((IntKind.u64.wrap ((IntKind.u64.wrap ((IntKind.u64.wrap (wrap64 (x9 + 150))) * 8388608)) + x10)) - 8388608)) 2139095040) % 4294967296)).bind fun t108 => (some t108)) else ((sluiceref01_signed.f x0 ((mn x10 2139095040) % 4294967296)).bind fun t109 => (some t109)))
end
def sluiceref01_Round.f (k : Nat) (a0 : Bool) (a1 : Int) (a2 : Int) : Option (Int) := if a1 = 0 then (sluiceref01_Round.j0 k a0 a1 a2 true) else (sluiceref01_Round.j0 k a0 a1 a2 (decide (a2 < (-300))))
theorem sluiceref01_Round.mono_l : ∀ k, (∀ y0 y1 y2 y3, LeO (sluiceref01_Round.j0 k y0 y1 y2 y3) (sluiceref01_Round.j0 (k + 1) y0 y1 y2 y3)) ∧ (∀ y0 y1 y2 y3 y4, LeO (sluiceref01_Round.l0 k y0 y1 y2 y3 y4) (sluiceref01_Round.l0 (k + 1) y0 y1 y2 y3 y4)) ∧ (∀ y0 y1 y2 y3 y4, LeO (sluiceref01_Round.j2 k y0 y1 y2 y3 y4) (sluiceref01_Round.j2 (k + 1) y0 y1 y2 y3 y4)) ∧ (∀ y0 y1 y2 y3, LeO (sluiceref01_Round.j3 k y0 y1 y2 y3) (sluiceref01_Round.j3 (k + 1) y0 y1 y2 y3))
  | 0 => ⟨fun _ _ _ _ r h => by simp [sluiceref01_Round.j0] at h, fun _ _ _ _ _ r h => by simp [sluiceref01_Round.l0] at h, fun _ _ _ _ _ r h => by simp [sluiceref01_Round.j2] at h, fun _ _ _ _ r h => by simp [sluiceref01_Round.j3] at h⟩
  | k + 1 => by
    obtain ⟨ih0, ih1, ih2, ih3⟩ := sluiceref01_Round.mono_l k
    refine ⟨?_, ?_, ?_, ?_⟩
    · intro y0 y1 y2 y3
      unfold sluiceref01_Round.j0
      repeat' first
      | (with_reducible exact ih0 _ _ _ _)
      | (with_reducible exact ih1 _ _ _ _ _)
      | (with_reducible exact ih2 _ _ _ _ _)
      | (with_reducible exact ih3 _ _ _ _)
      | (with_reducible exact LeO.refl _)
      | (with_reducible exact LeO.none _)
      | (with_reducible refine LeO.ite ?_ ?_)
      | (with_reducible refine LeO.bind ?_ (fun _ => ?_))
      | exact ih0 _ _ _ _
      | exact ih1 _ _ _ _ _
      | exact ih2 _ _ _ _ _
      | exact ih3 _ _ _ _
      | exact LeO.none _
      | refine LeO.ite ?_ ?_
      | refine LeO.bind ?_ (fun _ => ?_)
    · intro y0 y1 y2 y3 y4
      unfold sluiceref01_Round.l0
      repeat' first
      | (with_reducible exact ih0 _ _ _ _)
      | (with_reducible exact ih1 _ _ _ _ _)
      | (with_reducible exact ih2 _ _ _ _ _)
      | (with_reducible exact ih3 _ _ _ _)
      | (with_reducible exact LeO.refl _)
      | (with_reducible exact LeO.none _)
      | (with_reducible refine LeO.ite ?_ ?_)
      | (with_reducible refine LeO.bind ?_ (fun _ => ?_))
      | exact ih0 _ _ _ _
      | exact ih1 _ _ _ _ _
      | exact ih2 _ _ _ _ _
      | exact ih3 _ _ _ _
      | exact LeO.none _
      | refine LeO.ite ?_ ?_
      | refine LeO.bind ?_ (fun _ => ?_)
    · intro y0 y1 y2 y3 y4
      unfold sluiceref01_Round.j2
      repeat' first
      | (with_reducible exact ih0 _ _ _ _)
      | (with_reducible exact ih1 _ _ _ _ _)
      | (with_reducible exact ih2 _ _ _ _ _)
      | (with_reducible exact ih3 _ _ _ _)
      | (with_reducible exact LeO.refl _)
      | (with_reducible exact LeO.none _)
      | (with_reducible refine LeO.ite ?_ ?_)
      | (with_reducible refine LeO.bind ?_ (fun _ => ?_))
      | exact ih0 _ _ _ _
      | exact ih1 _ _ _ _ _
      | exact ih2 _ _ _ _ _
      | exact ih3 _ _ _ _
      | exact LeO.none _
      | refine LeO.ite ?_ ?_
      | refine LeO.bind ?_ (fun _ => ?_)
    · intro y0 y1 y2 y3
      unfold sluiceref01_Round.j3
      repeat' first
      | (with_reducible exact ih0 _ _ _ _)
      | (with_reducible exact ih1 _ _ _ _ _)
      | (with_reducible exact ih2 _ _ _ _ _)
      | (with_reducible exact ih3 _ _ _ _)
      | (with_reducible exact LeO.refl _)
      | (with_reducible exact LeO.none _)
      | (with_reducible refine LeO.ite ?_ ?_)
      | (with_reducible refine LeO.bind ?_ (fun _ => ?_))
      | exact ih0 _ _ _ _
      | exact ih1 _ _ _ _ _
      | exact ih2 _ _ _ _ _
      | exact ih3 _ _ _ _
      | exact LeO.none _
      | refine LeO.ite ?_ ?_
      | refine LeO.bind ?_ (fun _ => ?_)
theorem sluiceref01_Round.mono : ∀ a0 a1 a2 k, LeO (sluiceref01_Round.f k a0 a1 a2) (sluiceref01_Round.f (k + 1) a0 a1 a2) := by
  intro a0 a1 a2 k
  obtain ⟨ih0, ih1, ih2, ih3⟩ := sluiceref01_Round.mono_l k
  unfold sluiceref01_Round.f
  repeat' first
      | (with_reducible exact ih0 _ _ _ _)
      | (with_reducible exact ih1 _ _ _ _ _)
      | (with_reducible exact ih2 _ _ _ _ _)
      | (with_reducible exact ih3 _ _ _ _)
      | (with_reducible exact LeO.refl _)
      | (with_reducible exact LeO.none _)
      | (with_reducible refine LeO.ite ?_ ?_)
      | (with_reducible refine LeO.bind ?_ (fun _ => ?_))
      | exact ih0 _ _ _ _
      | exact ih1 _ _ _ _ _
      | exact ih2 _ _ _ _ _
      | exact ih3 _ _ _ _
      | exact LeO.none _
      | refine LeO.ite ?_ ?_
      | refine LeO.bind ?_ (fun _ => ?_)
set_option maxHeartbeats 8000000 in
set_option maxRecDepth 100000 in
theorem sluiceref01_Round.calls (k : Nat) (a0 : Bool) (a1 : Int) (a2 : Int) (r : Int) (w : World) (h : sluiceref01_Round.f k a0 a1 a2 = some r) :
    Calls Try.prog 18 #[.bool a0, .int .u64 a1, .int .i64 a2] w fun e w' => e = .returned (.int .u32 r) ∧ Below w.heap.size w w' := by
  have HB := Aside0.mk (Below.refl w.heap.size w)
  have H : (if a1 = 0 then (sluiceref01_Round.j0 k a0 a1 a2 true) else (sluiceref01_Round.j0 k a0 a1 a2 (decide (a2 < (-300))))) = some r := h
  clear h
  have HC4 := Aside0.mk H
  clear H
  go_enter Try.func18, Try.ntmps18
  go_upto_region 1 with (fail)
  go_cut [20] (fun v20 wc => ∃ (kq : Nat) (x20_3 : Bool), v20 = .bool x20_3 ∧ Aside0 (sluiceref01_Round.j0 kq a0 a1 a2 x20_3 = some r) ∧ Aside0 (kq ≤ k) ∧ Aside0 (Below w.heap.size w wc))
  case first =>
    have H := HC4.out
    clear HC4
    by_cases c5 : a1 = 0
    · rw [if_pos c5] at H
      have c5b0 : (a1 == 0) = true := beq_iff_eq.mpr c5
      have c5b1 : (a1 != 0) = false := bne_eq_false_iff_eq.mpr c5
      clear c5
      (first | rw [c5b0] | (simp only [i64_w, i32_w]; rw [c5b0]) | skip)
      have H' := Aside0.mk H
      clear H
      go_wp2
      go_meet
      case rel => exact ⟨_, (true), (by first | rfl | (simp; done) | (simp [*]; done)), H', ⟨by first | omega | exact Nat.le_refl _⟩, ⟨by repeat (first | (with_reducible first | exact HB.out | apply below_alloc | apply pw_below_drewN | apply below_drew1) | exact HB.out)⟩⟩
    · rw [if_neg c5] at H
      have c5b0 : (a1 == 0) = false := beq_eq_false_iff_ne.mpr c5
      have c5b1 : (a1 != 0) = true := bne_iff_ne.mpr c5
      (first | rw [c5b0] | (simp only [i64_w, i32_w]; rw [c5b0]) | skip)
      have H' := Aside0.mk H
      clear H
      go_wp2
      go_meet
      case rel => exact ⟨_, (decide (a2 < (-300))), (by first | rfl | (simp; done) | (simp [*]; done)), H', ⟨by first | omega | exact Nat.le_refl _⟩, ⟨by repeat (first | (with_reducible first | exact HB.out | apply below_alloc | apply pw_below_drewN | apply below_drew1) | exact HB.out)⟩⟩
  case rest =>
    clear HC4
    try clear c1
    try clear p2
    try clear c5
    try clear c5b0
    try clear c5b1
    obtain ⟨kq, x20_3, rfl, HA, HJ3, HB⟩ := hcut
    cases kq with
    | zero => exact absurd HA.out (by simp [sluiceref01_Round.j0])
    | succ kj3 =>
      have H := HA.out
      clear HA
      simp only [sluiceref01_Round.j0] at H
      by_cases c6 : x20_3 = true
      · subst c6
        have H1 : ((sluiceref01_signed.f a0 0).bind fun t104 => (some t104)) = some r := by rw [if_pos rfl] at H; exact H
        clear H
        have H := H1
        clear H1
        replace H := Option.bind_eq_some_iff.mp H
        obtain ⟨t104, A70, H⟩ := H
        replace H : (some t104) = some r := H
        have A7 := Aside0.mk A70
        clear A70
        obtain rfl := Option.some.inj H
        go_wp2_with (first | ((with_reducible refine gate_callee (f := 45) rfl ?_); refine goesL_ (some 22) rfl rfl Try.func45 (by kernel_rfl) rfl #[.bool a0, .int .u32 0] rfl (by (try simp only [List.map_toArray, List.map_cons, List.map_nil]); first | done | rfl | (simp only [List.length_drop, List.length_take]; rfl)) ?_; (with_reducible refine (sluiceref01_signed.calls a0 0 t104 _ A7.out).mono ?_); rintro e w' ⟨rfl, ⟨nd, rfl⟩⟩; refine ⟨_, rfl, ?_⟩))
        go_ret
        exact ⟨by first | rfl | (simp [errW_none, errW_some] <;> rfl) | (simp [*, errW_none, errW_some] <;> rfl), by repeat (first | (with_reducible first | exact HB.out | apply below_alloc | apply pw_below_drewN | apply below_drew1) | exact HB.out)⟩
      · replace c6 := Bool.eq_false_iff.mpr c6
        subst c6
        have H1 : (if a2 > 200 then ((sluiceref01_signed.f a0 2139095040).bind fun t105 => (some t105)) else (sluiceref01_Round.l0 kj3 a0 a1 a2 a2 a1)) = some r := by rw [if_neg (show ¬ (false = true) by decide)] at H; exact H
        clear H
        have H := H1
        clear H1
        by_cases c8 : a2 > 200
        · rw [if_pos c8] at H
          have c8b0 : decide (200 < a2) = true := decide_eq_true c8
          clear c8
          replace H := Option.bind_eq_some_iff.mp H
          obtain ⟨t105, A90, H⟩ := H
          replace H : (some t105) = some r := H
          have A9 := Aside0.mk A90
          clear A90
          obtain rfl := Option.some.inj H
          go_wp2_with (first | ((with_reducible refine gate_callee (f := 45) rfl ?_); refine goesL_ (some 26) rfl rfl Try.func45 (by kernel_rfl) rfl #[.bool a0, .int .u32 2139095040] rfl (by (try simp only [List.map_toArray, List.map_cons, List.map_nil]); first | done | rfl | (simp only [List.length_drop, List.length_take]; rfl)) ?_; (with_reducible refine (sluiceref01_signed.calls a0 2139095040 t105 _ A9.out).mono ?_); rintro e w' ⟨rfl, ⟨nd, rfl⟩⟩; refine ⟨_, rfl, ?_⟩))
          go_ret
          exact ⟨by first | rfl | (simp [errW_none, errW_some] <;> rfl) | (simp [*, errW_none, errW_some] <;> rfl), by repeat (first | (with_reducible first | exact HB.out | apply below_alloc | apply pw_below_drewN | apply below_drew1) | exact HB.out)⟩
        · rw [if_neg c8] at H
          have c8b0 : decide (200 < a2) = false := decide_eq_false c8
          clear c8
          have H' := Aside0.mk H
          clear H
          go_wp2
          go_loopg [7, 8] kj3 (fun kq v7 v8 w' => ∃ (x7_2 : Int) (x8_2 : Int), v7 = .int .i64 x7_2 ∧ v8 = .int .u64 x8_2 ∧ Aside0 (sluiceref01_Round.l0 kq a0 a1 a2 x7_2 x8_2 = some r) ∧ Aside0 (kq ≤ kj3) ∧ Aside0 (Below w.heap.size w w'))
          case atStart => exact ⟨(a2), (a1), (by first | rfl | (simp; done) | (simp [*]; done)), (by first | rfl | (simp; done) | (simp [*]; done)), H', ⟨Nat.le_refl _⟩, ⟨by repeat (first | (with_reducible first | exact HB.out | apply below_alloc | apply pw_below_drewN | apply below_drew1) | exact HB.out)⟩⟩
          case round =>
            clear H'
            try clear c1
            try clear p2
            try clear c4
            try clear c5
            try clear c5b0
            try clear c5b1
            try clear c6
            try clear c8
            try clear c8b0
            try clear p2
            obtain ⟨x7_2, x8_2, rfl, rfl, HA, HK2, HB⟩ := hrel
            cases gk with
            | zero => exact absurd HA.out (by simp [sluiceref01_Round.l0])
            | succ k2 =>
              have H := HA.out
              clear HA
              simp only [sluiceref01_Round.l0] at H
              by_cases c10 : x8_2 > 1
              · rw [if_pos c10] at H
                have c10b0 : decide (1 < x8_2) = true := decide_eq_true c10
                clear c10
                have H' := Aside0.mk H
                clear H
                go_wp2
                go_roundg k2
                case measure => have := HJ3.out; have := HK2.out; omega
                case rel => exact ⟨(wrap64 (x7_2 + 1)), (IntKind.u64.wrap (Int.tdiv x8_2 2)), (by first | rfl | (simp; done) | (simp [*]; done)), (by first | rfl | (simp; done) | (simp [*]; done)), H', ⟨by have := HJ3.out; have := HK2.out; omega⟩, ⟨by repeat (first | (with_reducible first | exact HB.out | apply below_alloc | apply pw_below_drewN | apply below_drew1) | exact HB.out)⟩⟩
              · rw [if_neg c10] at H
                have c10b0 : decide (1 < x8_2) = false := decide_eq_false c10
                clear c10
                obtain ⟨ji11, hji11⟩ : ∃ j_ : Int, (mx (wrap64 (x7_2 - 23)) (-149)) = j_ := ⟨_, rfl⟩
                replace H : (if (wrap64 ((ji11) - a2)) ≤ 0 then (if 0 ≤ (wrap64 (-(wrap64 ((ji11) - a2)))) then (sluiceref01_Round.j2 k2 a0 ji11 (shl .u64 a1 (wrap64 (-(wrap64 ((ji11) - a2))))) 0 0) else (none)) else (if (wrap64 ((ji11) - a2)) ≤ 64 then (if (wrap64 ((ji11) - a2)) < 64 then (if 0 ≤ (wrap64 ((ji11) - a2)) then (if 0 ≤ (wrap64 ((wrap64 ((ji11) - a2)) - 1)) then (sluiceref01_Round.j2 k2 a0 ji11 (shr .u64 a1 (wrap64 ((ji11) - a2))) (IntKind.u64.wrap (a1 - (shl .u64 (shr .u64 a1 (wrap64 ((ji11) - a2))) (wrap64 ((ji11) - a2))))) (shl .u64 1 (wrap64 ((wrap64 ((ji11) - a2)) - 1)))) else (none)) else (none)) else (if 0 ≤ (wrap64 ((wrap64 ((ji11) - a2)) - 1)) then (sluiceref01_Round.j2 k2 a0 ji11 0 a1 (shl .u64 1 (wrap64 ((wrap64 ((ji11) - a2)) - 1)))) else (none))) else (sluiceref01_Round.j2 k2 a0 ji11 0 0 0))) = some r := by first | (rw [hji11] at H; exact H) | (simp only [hji11] at H ⊢; exact H)
                have hji11_ : (if (wrap64 (x7_2 - 23)) < (-149) then (-149) else (wrap64 (x7_2 - 23))) = ji11 := hji11
                have HC12 := Aside0.mk H
                clear H
                go_upto_block 2 with (fail)
                go_cut [10, 11, 12] (fun v10 v11 v12 wc => ∃ (kq : Nat) (x10_11 : Int) (x11_11 : Int) (x12_11 : Int), v10 = .int .u64 x10_11 ∧ v11 = .int .u64 x11_11 ∧ v12 = .int .u64 x12_11 ∧ Aside0 (sluiceref01_Round.j2 kq a0 ji11 x10_11 x11_11 x12_11 = some r) ∧ Aside0 (kq ≤ k2) ∧ Aside0 (Below w.heap.size w wc))
                case first =>
                  have H := HC12.out
                  clear HC12
                  by_cases c13 : (wrap64 ((ji11) - a2)) ≤ 0
                  · rw [if_pos c13] at H
                    have c13b0 : decide ((wrap64 ((ji11) - a2)) ≤ 0) = true := decide_eq_true c13
                    clear c13
                    (first | rw [c13b0] | (simp only [i64_w, i32_w]; rw [c13b0]) | skip)
                    obtain ⟨ji14, hji14⟩ : ∃ j_ : Int, (wrap64 (-(wrap64 ((ji11) - a2)))) = j_ := ⟨_, rfl⟩
                    replace H : (if 0 ≤ (ji14) then (sluiceref01_Round.j2 k2 a0 ji11 (shl .u64 a1 (ji14)) 0 0) else (none)) = some r := by first | (rw [hji14] at H; exact H) | (simp only [hji14] at H ⊢; exact H)
                    have hji14w : (IntKind.i64.wrap (-(wrap64 ((ji11) - a2)))) = ji14 := (i64_w _).trans hji14
                    by_cases c15 : 0 ≤ (ji14)
                    · rw [if_pos c15] at H
                      have c15b0 := eq_true c15
                      have c15b1 : decide (0 ≤ (ji14)) = true := decide_eq_true c15
                      clear c15
                      obtain ⟨ji16, hji16⟩ : ∃ j_ : Int, (shl .u64 a1 (ji14)) = j_ := ⟨_, rfl⟩
                      replace H : (sluiceref01_Round.j2 k2 a0 ji11 ji16 0 0) = some r := by first | (rw [hji16] at H; exact H) | (simp only [hji16] at H ⊢; exact H)
                      have hji16_ : (IntKind.u64.wrap (a1 * 2 ^ min (ji14).toNat 64)) = ji16 := hji16
                      have hji16z : (ji14) ≤ 64 → (IntKind.u64.wrap (a1 * 2 ^ (ji14).toNat)) = ji16 := shl_small hji16
                      have H' := Aside0.mk H
                      clear H
                      go_wp2
                      go_meet
                      case rel => exact ⟨_, (ji16), (0), (0), (by first | rfl | (simp; done) | (simp only [← hji16] <;> (first | rfl | simp)) | (simp [*]; done)), (by first | rfl | (simp; done) | (simp [*]; done)), (by first | rfl | (simp; done) | (simp [*]; done)), H', ⟨by have := HJ3.out; have := HK2.out; first | omega | exact Nat.le_refl _⟩, ⟨by repeat (first | (with_reducible first | exact HB.out | apply below_alloc | apply pw_below_drewN | apply below_drew1) | exact HB.out)⟩⟩
                    · rw [if_neg c15] at H
                      exact absurd H (by simp)
                  · rw [if_neg c13] at H
                    have c13b0 : decide ((wrap64 ((ji11) - a2)) ≤ 0) = false := decide_eq_false c13
                    clear c13
                    (first | rw [c13b0] | (simp only [i64_w, i32_w]; rw [c13b0]) | skip)
                    by_cases c17 : (wrap64 ((ji11) - a2)) ≤ 64
                    · rw [if_pos c17] at H
                      have c17b0 : decide ((wrap64 ((ji11) - a2)) ≤ 64) = true := decide_eq_true c17
                      clear c17
                      by_cases c18 : (wrap64 ((ji11) - a2)) < 64
                      · rw [if_pos c18] at H
                        have c18b0 : decide ((wrap64 ((ji11) - a2)) < 64) = true := decide_eq_true c18
                        clear c18
                        obtain ⟨ji19, hji19⟩ : ∃ j_ : Int, (wrap64 ((ji11) - a2)) = j_ := ⟨_, rfl⟩
                        replace H : (if 0 ≤ (ji19) then (if 0 ≤ (wrap64 ((ji19) - 1)) then (sluiceref01_Round.j2 k2 a0 ji11 (shr .u64 a1 (ji19)) (IntKind.u64.wrap (a1 - (shl .u64 (shr .u64 a1 (ji19)) (ji19)))) (shl .u64 1 (wrap64 ((ji19) - 1)))) else (none)) else (none)) = some r := by first | (rw [hji19] at H; exact H) | (simp only [hji19] at H ⊢; exact H)
                        (try rw [hji19] at c13b0)
                        (try rw [hji19] at c17b0)
                        (try rw [hji19] at c18b0)
                        have hji19w : (IntKind.i64.wrap ((ji11) - a2)) = ji19 := (i64_w _).trans hji19
                        by_cases c20 : 0 ≤ (ji19)
                        · rw [if_pos c20] at H
                          have c20b0 := eq_true c20
                          have c20b1 : decide (0 ≤ (ji19)) = true := decide_eq_true c20
                          clear c20
                          obtain ⟨ji21, hji21⟩ : ∃ j_ : Int, (shr .u64 a1 (ji19)) = j_ := ⟨_, rfl⟩
                          replace H : (if 0 ≤ (wrap64 ((ji19) - 1)) then (sluiceref01_Round.j2 k2 a0 ji11 ji21 (IntKind.u64.wrap (a1 - (shl .u64 (ji21) (ji19)))) (shl .u64 1 (wrap64 ((ji19) - 1)))) else (none)) = some r := by first | (rw [hji21] at H; exact H) | (simp only [hji21] at H ⊢; exact H)
                          have hji21_ : (a1 / 2 ^ min (ji19).toNat 64) = ji21 := hji21
                          have hji21z : (ji19) ≤ 64 → (a1 / 2 ^ (ji19).toNat) = ji21 := shr_small hji21
                          have c22b0 := eq_true (of_decide_eq_true (by first | (with_reducible assumption) | assumption) : 0 ≤ (ji19))
                          obtain ⟨ji23, hji23⟩ : ∃ j_ : Int, (shl .u64 (ji21) (ji19)) = j_ := ⟨_, rfl⟩
                          replace H : (if 0 ≤ (wrap64 ((ji19) - 1)) then (sluiceref01_Round.j2 k2 a0 ji11 ji21 (IntKind.u64.wrap (a1 - (ji23))) (shl .u64 1 (wrap64 ((ji19) - 1)))) else (none)) = some r := by first | (rw [hji23] at H; exact H) | (simp only [hji23] at H ⊢; exact H)
                          have hji23_ : (IntKind.u64.wrap ((ji21) * 2 ^ min (ji19).toNat 64)) = ji23 := hji23
                          have hji23z : (ji19) ≤ 64 → (IntKind.u64.wrap ((ji21) * 2 ^ (ji19).toNat)) = ji23 := shl_small hji23
                          obtain ⟨ji24, hji24⟩ : ∃ j_ : Int, (wrap64 ((ji19) - 1)) = j_ := ⟨_, rfl⟩
                          replace H : (if 0 ≤ (ji24) then (sluiceref01_Round.j2 k2 a0 ji11 ji21 (IntKind.u64.wrap (a1 - (ji23))) (shl .u64 1 (ji24))) else (none)) = some r := by first | (rw [hji24] at H; exact H) | (simp only [hji24] at H ⊢; exact H)
                          have hji24w : (IntKind.i64.wrap ((ji19) - 1)) = ji24 := (i64_w _).trans hji24
                          by_cases c25 : 0 ≤ (ji24)
                          · rw [if_pos c25] at H
                            have c25b0 := eq_true c25
                            have c25b1 : decide (0 ≤ (ji24)) = true := decide_eq_true c25
                            clear c25
                            obtain ⟨ji26, hji26⟩ : ∃ j_ : Int, (shl .u64 1 (ji24)) = j_ := ⟨_, rfl⟩
                            replace H : (sluiceref01_Round.j2 k2 a0 ji11 ji21 (IntKind.u64.wrap (a1 - (ji23))) ji26) = some r := by first | (rw [hji26] at H; exact H) | (simp only [hji26] at H ⊢; exact H)
                            have hji26_ : (IntKind.u64.wrap (1 * 2 ^ min (ji24).toNat 64)) = ji26 := hji26
                            have hji26z : (ji24) ≤ 64 → (IntKind.u64.wrap (1 * 2 ^ (ji24).toNat)) = ji26 := shl_small hji26
                            have hji26u : (IntKind.u64.wrap (2 ^ min (ji24).toNat 64)) = ji26 := by have h_ := hji26_; rw [Int.one_mul] at h_; exact h_
                            have hji26v : (ji24) ≤ 64 → (IntKind.u64.wrap (2 ^ (ji24).toNat)) = ji26 := fun hle_ => by have h_ := hji26z hle_; rw [Int.one_mul] at h_; exact h_
                            have H' := Aside0.mk H
                            clear H
                            go_wp2
                            go_meet
                            case rel => exact ⟨_, (ji21), (IntKind.u64.wrap (a1 - (ji23))), (ji26), (by first | rfl | (simp; done) | (simp only [← hji21] <;> (first | rfl | simp)) | (simp [*]; done)), (by first | rfl | (simp; done) | (simp only [← hji23] <;> (first | rfl | simp)) | (simp [*]; done)), (by first | rfl | (simp; done) | (simp only [← hji26] <;> (first | rfl | simp)) | (simp [*]; done)), H', ⟨by have := HJ3.out; have := HK2.out; first | omega | exact Nat.le_refl _⟩, ⟨by repeat (first | (with_reducible first | exact HB.out | apply below_alloc | apply pw_below_drewN | apply below_drew1) | exact HB.out)⟩⟩
                          · rw [if_neg c25] at H
                            exact absurd H (by simp)
                        · rw [if_neg c20] at H
                          exact absurd H (by simp)
                      · rw [if_neg c18] at H
                        have c18b0 : decide ((wrap64 ((ji11) - a2)) < 64) = false := decide_eq_false c18
                        clear c18
                        obtain ⟨ji27, hji27⟩ : ∃ j_ : Int, (wrap64 ((wrap64 ((ji11) - a2)) - 1)) = j_ := ⟨_, rfl⟩
                        replace H : (if 0 ≤ (ji27) then (sluiceref01_Round.j2 k2 a0 ji11 0 a1 (shl .u64 1 (ji27))) else (none)) = some r := by first | (rw [hji27] at H; exact H) | (simp only [hji27] at H ⊢; exact H)
                        have hji27w : (IntKind.i64.wrap ((wrap64 ((ji11) - a2)) - 1)) = ji27 := (i64_w _).trans hji27
                        by_cases c28 : 0 ≤ (ji27)
                        · rw [if_pos c28] at H
                          have c28b0 := eq_true c28
                          have c28b1 : decide (0 ≤ (ji27)) = true := decide_eq_true c28
                          clear c28
                          obtain ⟨ji29, hji29⟩ : ∃ j_ : Int, (shl .u64 1 (ji27)) = j_ := ⟨_, rfl⟩
                          replace H : (sluiceref01_Round.j2 k2 a0 ji11 0 a1 ji29) = some r := by first | (rw [hji29] at H; exact H) | (simp only [hji29] at H ⊢; exact H)
                          have hji29_ : (IntKind.u64.wrap (1 * 2 ^ min (ji27).toNat 64)) = ji29 := hji29
                          have hji29z : (ji27) ≤ 64 → (IntKind.u64.wrap (1 * 2 ^ (ji27).toNat)) = ji29 := shl_small hji29
                          have hji29u : (IntKind.u64.wrap (2 ^ min (ji27).toNat 64)) = ji29 := by have h_ := hji29_; rw [Int.one_mul] at h_; exact h_
                          have hji29v : (ji27) ≤ 64 → (IntKind.u64.wrap (2 ^ (ji27).toNat)) = ji29 := fun hle_ => by have h_ := hji29z hle_; rw [Int.one_mul] at h_; exact h_
                          have H' := Aside0.mk H
                          clear H
                          go_wp2
                          go_meet
                          case rel => exact ⟨_, (0), (a1), (ji29), (by first | rfl | (simp; done) | (simp [*]; done)), (by first | rfl | (simp; done) | (simp [*]; done)), (by first | rfl | (simp; done) | (simp only [← hji29] <;> (first | rfl | simp)) | (simp [*]; done)), H', ⟨by have := HJ3.out; have := HK2.out; first | omega | exact Nat.le_refl _⟩, ⟨by repeat (first | (with_reducible first | exact HB.out | apply below_alloc | apply pw_below_drewN | apply below_drew1) | exact HB.out)⟩⟩
                        · rw [if_neg c28] at H
                          exact absurd H (by simp)
                    · rw [if_neg c17] at H
                      have c17b0 : decide ((wrap64 ((ji11) - a2)) ≤ 64) = false := decide_eq_false c17
                      clear c17
                      have H' := Aside0.mk H
                      clear H
                      go_wp2
                      go_meet
                      case rel => exact ⟨_, (0), (0), (0), (by first | rfl | (simp; done) | (simp [*]; done)), (by first | rfl | (simp; done) | (simp [*]; done)), (by first | rfl | (simp; done) | (simp [*]; done)), H', ⟨by have := HJ3.out; have := HK2.out; first | omega | exact Nat.le_refl _⟩, ⟨by repeat (first | (with_reducible first | exact HB.out | apply below_alloc | apply pw_below_drewN | apply below_drew1) | exact HB.out)⟩⟩
                case rest =>
                  clear HC12
                  try clear c1
                  try clear c2
                  try clear p2
                  try clear c4
                  try clear c5
                  try clear c5b0
                  try clear c5b1
                  try clear c6
                  try clear p6
                  try clear c8
                  try clear c8b0
                  try clear c10
                  try clear c10b0
                  try clear c13
                  try clear c13b0
                  try clear c15
                  try clear c15b0
                  try clear c15b1
                  try clear c17
                  try clear c17b0
                  try clear c18
                  try clear c18b0
                  try clear c20
                  try clear c20b0
                  try clear c20b1
                  try clear c22
                  try clear c22b0
                  try clear c25
                  try clear c25b0
                  try clear c25b1
                  try clear c28
                  try clear c28b0
                  try clear c28b1
                  try clear p2
                  obtain ⟨kq, x10_11, x11_11, x12_11, rfl, rfl, rfl, HA, HJ11, HB⟩ := hcut
                  cases kq with
                  | zero => exact absurd HA.out (by simp [sluiceref01_Round.j2])
                  | succ kj11 =>
                    have H := HA.out
                    clear HA
                    simp only [sluiceref01_Round.j2] at H
                    have HC30 := Aside0.mk H
                    clear H
                    go_upto_region 23 with (fail)
                    go_cut [81] (fun v81 wc => ∃ (kq : Nat) (x81_29 : Bool), v81 = .bool x81_29 ∧ Aside0 (sluiceref01_Round.j3 kq a0 ji11 x10_11 x81_29 = some r) ∧ Aside0 (kq ≤ kj11) ∧ Aside0 (Below w.heap.size w wc))
                    case first =>
                      have H := HC30.out
                      clear HC30
                      by_cases c31 : x12_11 > 0
                      · rw [if_pos c31] at H
                        have c31b0 : decide (0 < x12_11) = true := decide_eq_true c31
                        clear c31
                        (first | rw [c31b0] | (simp only [i64_w, i32_w]; rw [c31b0]) | skip)
                        by_cases c32 : x11_11 > x12_11
                        · rw [if_pos c32] at H
                          have c32b0 : decide (x12_11 < x11_11) = true := decide_eq_true c32
                          clear c32
                          have H' := Aside0.mk H
                          clear H
                          go_wp2
                          go_meet
                          case rel => exact ⟨_, (true), (by first | rfl | (simp; done) | (simp [*]; done)), H', ⟨by have := HJ3.out; have := HK2.out; have := HJ11.out; first | omega | exact Nat.le_refl _⟩, ⟨by repeat (first | (with_reducible first | exact HB.out | apply below_alloc | apply pw_below_drewN | apply below_drew1) | exact HB.out)⟩⟩
                        · rw [if_neg c32] at H
                          have c32b0 : decide (x12_11 < x11_11) = false := decide_eq_false c32
                          clear c32
                          by_cases c33 : x11_11 = x12_11
                          · rw [if_pos c33] at H
                            have c33b0 : (x11_11 == x12_11) = true := beq_iff_eq.mpr c33
                            have c33b1 : (x11_11 != x12_11) = false := bne_eq_false_iff_eq.mpr c33
                            clear c33
                            have H' := Aside0.mk H
                            clear H
                            go_wp2
                            go_meet
                            case rel => exact ⟨_, (((Int.tmod x10_11 2) == 1)), (by first | rfl | (simp; done) | (simp [*]; done)), H', ⟨by have := HJ3.out; have := HK2.out; have := HJ11.out; first | omega | exact Nat.le_refl _⟩, ⟨by repeat (first | (with_reducible first | exact HB.out | apply below_alloc | apply pw_below_drewN | apply below_drew1) | exact HB.out)⟩⟩
                          · rw [if_neg c33] at H
                            have c33b0 : (x11_11 == x12_11) = false := beq_eq_false_iff_ne.mpr c33
                            have c33b1 : (x11_11 != x12_11) = true := bne_iff_ne.mpr c33
                            have H' := Aside0.mk H
                            clear H
                            go_wp2
                            go_meet
                            case rel => exact ⟨_, (false), (by first | rfl | (simp; done) | (simp [*]; done)), H', ⟨by have := HJ3.out; have := HK2.out; have := HJ11.out; first | omega | exact Nat.le_refl _⟩, ⟨by repeat (first | (with_reducible first | exact HB.out | apply below_alloc | apply pw_below_drewN | apply below_drew1) | exact HB.out)⟩⟩
                      · rw [if_neg c31] at H
                        have c31b0 : decide (0 < x12_11) = false := decide_eq_false c31
                        clear c31
                        (first | rw [c31b0] | (simp only [i64_w, i32_w]; rw [c31b0]) | skip)
                        have H' := Aside0.mk H
                        clear H
                        go_wp2
                        go_meet
                        case rel => exact ⟨_, (false), (by first | rfl | (simp; done) | (simp [*]; done)), H', ⟨by have := HJ3.out; have := HK2.out; have := HJ11.out; first | omega | exact Nat.le_refl _⟩, ⟨by repeat (first | (with_reducible first | exact HB.out | apply below_alloc | apply pw_below_drewN | apply below_drew1) | exact HB.out)⟩⟩
                    case rest =>
                      clear HC30
                      try clear c1
                      try clear c2
                      try clear p2
                      try clear c3
                      try clear c4
                      try clear c5
                      try clear c5b0
                      try clear c5b1
                      try clear c6
                      try clear p6
                      try clear c8
                      try clear c8b0
                      try clear c10
                      try clear c10b0
                      try clear c13
                      try clear c13b0
                      try clear c15
                      try clear c15b0
                      try clear c15b1
                      try clear c17
                      try clear c17b0
                      try clear c18
                      try clear c18b0
                      try clear c20
                      try clear c20b0
                      try clear c20b1
                      try clear c22
                      try clear c22b0
                      try clear c25
                      try clear c25b0
                      try clear c25b1
                      try clear c28
                      try clear c28b0
                      try clear c28b1
                      try clear c31
                      try clear c31b0
                      try clear c32
                      try clear c32b0
                      try clear c33
                      try clear c33b0
                      try clear c33b1
                      try clear p2
                      try clear p6
                      obtain ⟨kq, x81_29, rfl, HA, HJ29, HB⟩ := hcut
                      cases kq with
                      | zero => exact absurd HA.out (by simp [sluiceref01_Round.j3])
                      | succ kj29 =>
                        have H := HA.out
                        clear HA
                        simp only [sluiceref01_Round.j3] at H
                        by_cases c34 : x81_29 = true
                        · subst c34
                          have H1 : (if ji11 > (-149) then ((sluiceref01_signed.f a0 ((mn (IntKind.u64.wrap ((IntKind.u64.wrap ((IntKind.u64.wrap ((IntKind.u64.wrap (wrap64 (ji11 + 150))) * 8388608)) + (IntKind.u64.wrap (x10_11 + 1)))) - 8388608)) 2139095040) % 4294967296)).bind fun t106 => (some t106)) else ((sluiceref01_signed.f a0 ((mn (IntKind.u64.wrap (x10_11 + 1)) 2139095040) % 4294967296)).bind fun t107 => (some t107))) = some r := by rw [if_pos rfl] at H; exact H
                          clear H
                          have H := H1
                          clear H1
                          by_cases c35 : ji11 > (-149)
                          · rw [if_pos c35] at H
                            have c35b0 : decide ((-149) < ji11) = true := decide_eq_true c35
                            clear c35
                            obtain ⟨ji36, hji36⟩ : ∃ j_ : Int, (mn (IntKind.u64.wrap ((IntKind.u64.wrap ((IntKind.u64.wrap ((IntKind.u64.wrap (wrap64 (ji11 + 150))) * 8388608)) + (IntKind.u64.wrap (x10_11 + 1)))) - 8388608)) 2139095040) = j_ := ⟨_, rfl⟩
                            replace H : ((sluiceref01_signed.f a0 ((ji36) % 4294967296)).bind fun t106 => (some t106)) = some r := by first | (rw [hji36] at H; exact H) | (simp only [hji36] at H ⊢; exact H)
                            have hji36_ : (if 2139095040 < (IntKind.u64.wrap ((IntKind.u64.wrap ((IntKind.u64.wrap ((IntKind.u64.wrap (wrap64 (ji11 + 150))) * 8388608)) + (IntKind.u64.wrap (x10_11 + 1)))) - 8388608)) then 2139095040 else (IntKind.u64.wrap ((IntKind.u64.wrap ((IntKind.u64.wrap ((IntKind.u64.wrap (wrap64 (ji11 + 150))) * 8388608)) + (IntKind.u64.wrap (x10_11 + 1)))) - 8388608))) = ji36 := hji36
                            replace H := Option.bind_eq_some_iff.mp H
                            obtain ⟨t106, A370, H⟩ := H
                            replace H : (some t106) = some r := H
                            have A37 := Aside0.mk A370
                            clear A370
                            obtain rfl := Option.some.inj H
                            go_wp2_with (first | ((with_reducible refine gate_callee (f := 45) rfl ?_); refine goesL_ (some 98) rfl rfl Try.func45 (by kernel_rfl) rfl #[.bool a0, .int .u32 ((ji36) % 4294967296)] rfl (by (try simp only [List.map_toArray, List.map_cons, List.map_nil]); first | done | (simp only [hji36]; rfl) | rfl | (simp only [List.length_drop, List.length_take]; rfl)) ?_; (with_reducible refine (sluiceref01_signed.calls a0 ((ji36) % 4294967296) t106 _ A37.out).mono ?_); rintro e w' ⟨rfl, ⟨nd, rfl⟩⟩; refine ⟨_, rfl, ?_⟩))
                            go_ret
                            exact ⟨by first | rfl | (simp [errW_none, errW_some] <;> rfl) | (simp only [← hji11, ← hji36]; first | rfl | (simp [errW_none, errW_some] <;> rfl)) | (simp [*, errW_none, errW_some] <;> rfl), by repeat (first | (with_reducible first | exact HB.out | apply below_alloc | apply pw_below_drewN | apply below_drew1) | exact HB.out)⟩
                          · rw [if_neg c35] at H
                            have c35b0 : decide ((-149) < ji11) = false := decide_eq_false c35
                            clear c35
                            obtain ⟨ji38, hji38⟩ : ∃ j_ : Int, (mn (IntKind.u64.wrap (x10_11 + 1)) 2139095040) = j_ := ⟨_, rfl⟩
                            replace H : ((sluiceref01_signed.f a0 ((ji38) % 4294967296)).bind fun t107 => (some t107)) = some r := by first | (rw [hji38] at H; exact H) | (simp only [hji38] at H ⊢; exact H)
                            have hji38_ : (if 2139095040 < (IntKind.u64.wrap (x10_11 + 1)) then 2139095040 else (IntKind.u64.wrap (x10_11 + 1))) = ji38 := hji38
                            replace H := Option.bind_eq_some_iff.mp H
                            obtain ⟨t107, A390, H⟩ := H
                            replace H : (some t107) = some r := H
                            have A39 := Aside0.mk A390
                            clear A390
                            obtain rfl := Option.some.inj H
                            go_wp2_with (first | ((with_reducible refine gate_callee (f := 45) rfl ?_); refine goesL_ (some 98) rfl rfl Try.func45 (by kernel_rfl) rfl #[.bool a0, .int .u32 ((ji38) % 4294967296)] rfl (by (try simp only [List.map_toArray, List.map_cons, List.map_nil]); first | done | (simp only [hji38]; rfl) | rfl | (simp only [List.length_drop, List.length_take]; rfl)) ?_; (with_reducible refine (sluiceref01_signed.calls a0 ((ji38) % 4294967296) t107 _ A39.out).mono ?_); rintro e w' ⟨rfl, ⟨nd, rfl⟩⟩; refine ⟨_, rfl, ?_⟩))
                            go_ret
                            exact ⟨by first | rfl | (simp [errW_none, errW_some] <;> rfl) | (simp only [← hji11, ← hji38]; first | rfl | (simp [errW_none, errW_some] <;> rfl)) | (simp [*, errW_none, errW_some] <;> rfl), by repeat (first | (with_reducible first | exact HB.out | apply below_alloc | apply pw_below_drewN | apply below_drew1) | exact HB.out)⟩
                        · replace c34 := Bool.eq_false_iff.mpr c34
                          subst c34
                          have H1 : (if ji11 > (-149) then ((sluiceref01_signed.f a0 ((mn (IntKind.u64.wrap ((IntKind.u64.wrap ((IntKind.u64.wrap ((IntKind.u64.wrap (wrap64 (ji11 + 150))) * 8388608)) + x10_11)) - 8388608)) 2139095040) % 4294967296)).bind fun t108 => (some t108)) else ((sluiceref01_signed.f a0 ((mn x10_11 2139095040) % 4294967296)).bind fun t109 => (some t109))) = some r := by rw [if_neg (show ¬ (false = true) by decide)] at H; exact H
                          clear H
                          have H := H1
                          clear H1
                          by_cases c40 : ji11 > (-149)
                          · rw [if_pos c40] at H
                            have c40b0 : decide ((-149) < ji11) = true := decide_eq_true c40
                            clear c40
                            obtain ⟨ji41, hji41⟩ : ∃ j_ : Int, (mn (IntKind.u64.wrap ((IntKind.u64.wrap ((IntKind.u64.wrap ((IntKind.u64.wrap (wrap64 (ji11 + 150))) * 8388608)) + x10_11)) - 8388608)) 2139095040) = j_ := ⟨_, rfl⟩
                            replace H : ((sluiceref01_signed.f a0 ((ji41) % 4294967296)).bind fun t108 => (some t108)) = some r := by first | (rw [hji41] at H; exact H) | (simp only [hji41] at H ⊢; exact H)
                            have hji41_ : (if 2139095040 < (IntKind.u64.wrap ((IntKind.u64.wrap ((IntKind.u64.wrap ((IntKind.u64.wrap (wrap64 (ji11 + 150))) * 8388608)) + x10_11)) - 8388608)) then 2139095040 else (IntKind.u64.wrap ((IntKind.u64.wrap ((IntKind.u64.wrap ((IntKind.u64.wrap (wrap64 (ji11 + 150))) * 8388608)) + x10_11)) - 8388608))) = ji41 := hji41
                            replace H := Option.bind_eq_some_iff.mp H
                            obtain ⟨t108, A420, H⟩ := H
                            replace H : (some t108) = some r := H
                            have A42 := Aside0.mk A420
                            clear A420
                            obtain rfl := Option.some.inj H
                            go_wp2_with (first | ((with_reducible refine gate_callee (f := 45) rfl ?_); refine goesL_ (some 98) rfl rfl Try.func45 (by kernel_rfl) rfl #[.bool a0, .int .u32 ((ji41) % 4294967296)] rfl (by (try simp only [List.map_toArray, List.map_cons, List.map_nil]); first | done | (simp only [hji41]; rfl) | rfl | (simp only [List.length_drop, List.length_take]; rfl)) ?_; (with_reducible refine (sluiceref01_signed.calls a0 ((ji41) % 4294967296) t108 _ A42.out).mono ?_); rintro e w' ⟨rfl, ⟨nd, rfl⟩⟩; refine ⟨_, rfl, ?_⟩))
                            go_ret
                            exact ⟨by first | rfl | (simp [errW_none, errW_some] <;> rfl) | (simp only [← hji11, ← hji41]; first | rfl | (simp [errW_none, errW_some] <;> rfl)) | (simp [*, errW_none, errW_some] <;> rfl), by repeat (first | (with_reducible first | exact HB.out | apply below_alloc | apply pw_below_drewN | apply below_drew1) | exact HB.out)⟩
                          · rw [if_neg c40] at H
                            have c40b0 : decide ((-149) < ji11) = false := decide_eq_false c40
                            clear c40
                            obtain ⟨ji43, hji43⟩ : ∃ j_ : Int, (mn x10_11 2139095040) = j_ := ⟨_, rfl⟩
                            replace H : ((sluiceref01_signed.f a0 ((ji43) % 4294967296)).bind fun t109 => (some t109)) = some r := by first | (rw [hji43] at H; exact H) | (simp only [hji43] at H ⊢; exact H)
                            have hji43_ : (if 2139095040 < x10_11 then 2139095040 else x10_11) = ji43 := hji43
                            replace H := Option.bind_eq_some_iff.mp H
                            obtain ⟨t109, A440, H⟩ := H
                            replace H : (some t109) = some r := H
                            have A44 := Aside0.mk A440
                            clear A440
                            obtain rfl := Option.some.inj H
                            go_wp2_with (first | ((with_reducible refine gate_callee (f := 45) rfl ?_); refine goesL_ (some 98) rfl rfl Try.func45 (by kernel_rfl) rfl #[.bool a0, .int .u32 ((ji43) % 4294967296)] rfl (by (try simp only [List.map_toArray, List.map_cons, List.map_nil]); first | done | (simp only [hji43]; rfl) | rfl | (simp only [List.length_drop, List.length_take]; rfl)) ?_; (with_reducible refine (sluiceref01_signed.calls a0 ((ji43) % 4294967296) t109 _ A44.out).mono ?_); rintro e w' ⟨rfl, ⟨nd, rfl⟩⟩; refine ⟨_, rfl, ?_⟩))
                            go_ret
                            exact ⟨by first | rfl | (simp [errW_none, errW_some] <;> rfl) | (simp only [← hji11, ← hji43]; first | rfl | (simp [errW_none, errW_some] <;> rfl)) | (simp [*, errW_none, errW_some] <;> rfl), by repeat (first | (with_reducible first | exact HB.out | apply below_alloc | apply pw_below_drewN | apply below_drew1) | exact HB.out)⟩

/-! ### sluicelaw01_GrainRounds: function 6 -/
def sluicelaw01_GrainRounds.f (k : Nat) (a0 : Bool) (a1 : Int) (a2 : Int) : Option (Bool) := (grain_Round.f k a0 a1 a2).bind fun t110 => ((sluiceref01_Round.f k a0 a1 a2).bind fun t111 => (some (t110 == t111)))
theorem sluicelaw01_GrainRounds.mono : ∀ a0 a1 a2 k, LeO (sluicelaw01_GrainRounds.f k a0 a1 a2) (sluicelaw01_GrainRounds.f (k + 1) a0 a1 a2) := by
  intro a0 a1 a2 k
  unfold sluicelaw01_GrainRounds.f
  repeat' first
      | (with_reducible exact grain_Round.mono _ _ _ _)
      | (with_reducible exact sluiceref01_Round.mono _ _ _ _)
      | (with_reducible exact LeO.refl _)
      | (with_reducible exact LeO.none _)
      | (with_reducible refine LeO.ite ?_ ?_)
      | (with_reducible refine LeO.bind ?_ (fun _ => ?_))
      | exact grain_Round.mono _ _ _ _
      | exact sluiceref01_Round.mono _ _ _ _
      | exact LeO.none _
      | refine LeO.ite ?_ ?_
      | refine LeO.bind ?_ (fun _ => ?_)
set_option maxHeartbeats 8000000 in
set_option maxRecDepth 100000 in
theorem sluicelaw01_GrainRounds.calls (k : Nat) (a0 : Bool) (a1 : Int) (a2 : Int) (r : Bool) (w : World) (h : sluicelaw01_GrainRounds.f k a0 a1 a2 = some r) :
    Calls Try.prog 6 #[.bool a0, .int .u64 a1, .int .i64 a2] w fun e w' => e = .returned (.bool r) ∧ Below w.heap.size w w' := by
  have HB := Aside0.mk (Below.refl w.heap.size w)
  have H : ((grain_Round.f k a0 a1 a2).bind fun t110 => ((sluiceref01_Round.f k a0 a1 a2).bind fun t111 => (some (t110 == t111)))) = some r := h
  clear h
  replace H := Option.bind_eq_some_iff.mp H
  obtain ⟨t110, A40, H⟩ := H
  replace H : ((sluiceref01_Round.f k a0 a1 a2).bind fun t111 => (some (t110 == t111))) = some r := H
  have A4 := Aside0.mk A40
  clear A40
  replace H := Option.bind_eq_some_iff.mp H
  obtain ⟨t111, A50, H⟩ := H
  replace H : (some (t110 == t111)) = some r := H
  have A5 := Aside0.mk A50
  clear A50
  obtain rfl := Option.some.inj H
  go_enter Try.func6, Try.ntmps6
  go_wp2_with (first | ((with_reducible refine gate_callee (f := 17) rfl ?_); refine goesL_ (some 10) rfl rfl Try.func17 (by kernel_rfl) rfl #[.bool a0, .int .u64 a1, .int .i64 a2] rfl (by (try simp only [List.map_toArray, List.map_cons, List.map_nil]); first | done | rfl | (simp only [List.length_drop, List.length_take]; rfl)) ?_; (with_reducible refine (grain_Round.calls k a0 a1 a2 t110 _ A4.out).mono ?_); rintro e w6 ⟨rfl, hb⟩; refine ⟨_, rfl, ?_⟩; have n0_ := Aside0.mk (below_step (by repeat (first | (with_reducible first | exact HB.out | apply below_alloc | apply pw_below_drewN | apply below_drew1) | exact HB.out)) hb); clear HB; have HB := n0_; clear n0_; (try clear hb); (try clear hb2); (try clear hk); (try clear hi)) | ((with_reducible refine gate_callee (f := 18) rfl ?_); refine goesL_ (some 14) rfl rfl Try.func18 (by kernel_rfl) rfl #[.bool a0, .int .u64 a1, .int .i64 a2] rfl (by (try simp only [List.map_toArray, List.map_cons, List.map_nil]); first | done | rfl | (simp only [List.length_drop, List.length_take]; rfl)) ?_; (with_reducible refine (sluiceref01_Round.calls k a0 a1 a2 t111 _ A5.out).mono ?_); rintro e w7 ⟨rfl, hb⟩; refine ⟨_, rfl, ?_⟩; have n0_ := Aside0.mk (below_step (by repeat (first | (with_reducible first | exact HB.out | apply below_alloc | apply pw_below_drewN | apply below_drew1) | exact HB.out)) hb); clear HB; have HB := n0_; clear n0_; (try clear hb); (try clear hb2); (try clear hk); (try clear hi)))
  go_ret
  exact ⟨by first | rfl | (simp [errW_none, errW_some] <;> rfl) | (simp [*, errW_none, errW_some] <;> rfl), by repeat (first | (with_reducible first | exact HB.out | apply below_alloc | apply pw_below_drewN | apply below_drew1) | exact HB.out)⟩

/-- THE ONE PURE STATEMENT of sluicelaw01_GrainRounds: yours. -/
def sluicelaw01_GrainRounds.Pure : Prop := ∀ (a0 : Bool) (a1 : Int) (a2 : Int), (Lit.int .u64 a1).wf = true → (Lit.int .i64 a2).wf = true → ∃ k, sluicelaw01_GrainRounds.f k a0 a1 a2 = some true
theorem sluicelaw01_GrainRounds.walk (P : sluicelaw01_GrainRounds.Pure) (a0 : Bool) (a1 : Int) (a2 : Int) (w : World) (w1 : (Lit.int .u64 a1).wf = true) (w2 : (Lit.int .i64 a2).wf = true) :
    Calls Try.prog 6 #[.bool a0, .int .u64 a1, .int .i64 a2] w fun e w' => e = .returned (.bool true) ∧ Below w.heap.size w w' := by
  obtain ⟨k, h⟩ := P a0 a1 a2 w1 w2
  refine (sluicelaw01_GrainRounds.calls k a0 a1 a2 true w h).mono ?_
  rintro e w' ⟨rfl, hd⟩
  exact ⟨rfl, hd⟩

end Go.Proofs.Ytdnofpafojjjaaa.QGrainRounds
