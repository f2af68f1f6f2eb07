-- PRINTED BY print.sh 35421559b90ae4d0a3588c463048766b98c2df88dd9212a6774a882060cdf62d: not written by this session
import Derived.Test.YtdnofpafojjjaaaPGrainNamesx0
namespace Go.Proofs.Ytdnofpafojjjaaa.PGrainNames
open Go.RowKit Go.Proofs.YtdnofpafojjjaaaW.PrintWords Go.Proofs.YtdnofpafojjjaaaW.PrintLast Go.Proofs.YtdnofpafojjjaaaW.PrintMore
attribute [local go_sem] max2_int min2_int max_two min_two max_three min_three max_four min_four   -- for this text's walks alone
set_option linter.unusedVariables false
set_option linter.unusedSimpArgs false

/-! ### sluicelaw01_num: function 10 -/
def sluicelaw01_num.f (a0 : Int) : Option (Int) := some a0
set_option maxHeartbeats 8000000 in
set_option maxRecDepth 100000 in
theorem sluicelaw01_num.calls (a0 : Int) (r : Int) (w : World) (h : sluicelaw01_num.f a0 = some r) :
    Calls Try.prog 10 #[.int .i64 a0] w fun e w' => e = .returned (.int .i64 r) ∧ Drawn0 w w' := by
  have H : (some a0) = some r := h
  clear h
  obtain rfl := Option.some.inj H
  go_enter Try.func10, Try.ntmps10
  go_wp2
  go_ret
  exact ⟨by first | rfl | (simp; done) | (simp [*]; done), by repeat (first | exact Drawn0.refl _ | apply Drawn0.step)⟩

/-! ### sluicelaw01_GrainNames: function 3 -/
def sluicelaw01_GrainNames.j0 : Nat → Bool → Option (Bool)
  | 0, _ => none
  | k + 1, x12 => if x12 = true then (some false) else (some true)
def sluicelaw01_GrainNames.f (k : Nat)  : Option (Bool) := (sluicelaw01_num.f 10).bind fun t101 => (if t101 = 10 then ((sluicelaw01_num.f 16).bind fun t102 => (sluicelaw01_GrainNames.j0 k (t102 != 16))) else (sluicelaw01_GrainNames.j0 k true))
theorem sluicelaw01_GrainNames.mono_l : ∀ k, (∀ y0, LeO (sluicelaw01_GrainNames.j0 k y0) (sluicelaw01_GrainNames.j0 (k + 1) y0))
  | 0 => fun _ r h => by simp [sluicelaw01_GrainNames.j0] at h
  | k + 1 => by
    have ih0 := sluicelaw01_GrainNames.mono_l k
    · intro y0
      unfold sluicelaw01_GrainNames.j0
      repeat' first
      | (with_reducible exact ih0 _)
      | (with_reducible exact LeO.refl _)
      | (with_reducible exact LeO.none _)
      | (with_reducible refine LeO.ite ?_ ?_)
      | (with_reducible refine LeO.bind ?_ (fun _ => ?_))
      | exact ih0 _
      | exact LeO.none _
      | refine LeO.ite ?_ ?_
      | refine LeO.bind ?_ (fun _ => ?_)
theorem sluicelaw01_GrainNames.mono : ∀ k, LeO (sluicelaw01_GrainNames.f k ) (sluicelaw01_GrainNames.f (k + 1) ) := by
  intro  k
  have ih0 := sluicelaw01_GrainNames.mono_l k
  unfold sluicelaw01_GrainNames.f
  repeat' first
      | (with_reducible exact ih0 _)
      | (with_reducible exact LeO.refl _)
      | (with_reducible exact LeO.none _)
      | (with_reducible refine LeO.ite ?_ ?_)
      | (with_reducible refine LeO.bind ?_ (fun _ => ?_))
      | exact ih0 _
      | exact LeO.none _
      | refine LeO.ite ?_ ?_
      | refine LeO.bind ?_ (fun _ => ?_)
set_option maxHeartbeats 8000000 in
set_option maxRecDepth 100000 in
theorem sluicelaw01_GrainNames.calls (k : Nat)  (r : Bool) (w : World) (h : sluicelaw01_GrainNames.f k  = some r) :
    Calls Try.prog 3 #[] w fun e w' => e = .returned (.bool r) ∧ Drawn0 w w' := by
  have H : ((sluicelaw01_num.f 10).bind fun t101 => (if t101 = 10 then ((sluicelaw01_num.f 16).bind fun t102 => (sluicelaw01_GrainNames.j0 k (t102 != 16))) else (sluicelaw01_GrainNames.j0 k true))) = some r := h
  clear h
  have HC1 := Aside0.mk H
  clear H
  go_enter Try.func3, Try.ntmps3
  go_upto_region 3 with (fail)
  go_cut [12] (fun v12 wc => ∃ (kq : Nat) (x12_0 : Bool), v12 = .bool x12_0 ∧ Aside0 (sluicelaw01_GrainNames.j0 kq x12_0 = some r) ∧ Aside0 (kq ≤ k) ∧ Drawn0 w wc)
  case first =>
    have H := HC1.out
    clear HC1
    replace H := Option.bind_eq_some_iff.mp H
    obtain ⟨t101, A20, H⟩ := H
    replace H : (if t101 = 10 then ((sluicelaw01_num.f 16).bind fun t102 => (sluicelaw01_GrainNames.j0 k (t102 != 16))) else (sluicelaw01_GrainNames.j0 k true)) = some r := H
    have A2 := Aside0.mk A20
    clear A20
    by_cases c3 : t101 = 10
    · rw [if_pos c3] at H
      have c3b0 : (t101 == 10) = true := beq_iff_eq.mpr c3
      have c3b1 : (t101 != 10) = false := bne_eq_false_iff_eq.mpr c3
      clear c3
      (first | rw [c3b0] | (simp only [i64_w, i32_w]; rw [c3b0]) | skip)
      replace H := Option.bind_eq_some_iff.mp H
      obtain ⟨t102, A40, H⟩ := H
      replace H : (sluicelaw01_GrainNames.j0 k (t102 != 16)) = some r := H
      have A4 := Aside0.mk A40
      clear A40
      have H' := Aside0.mk H
      clear H
      go_wp2_with (first | (go_at_call 10; (with_reducible refine (sluicelaw01_num.calls 10 t101 _ A2.out).mono ?_); rintro e w' ⟨rfl, ⟨nd, rfl⟩⟩) | (go_at_call 10; (with_reducible refine (sluicelaw01_num.calls 16 t102 _ A4.out).mono ?_); rintro e w' ⟨rfl, ⟨nd, rfl⟩⟩))
      go_meet
      case rel => exact ⟨_, ((t102 != 16)), (by first | rfl | (simp; done) | (simp [*]; done)), H', ⟨by first | omega | exact Nat.le_refl _⟩, by repeat (first | exact Drawn0.refl _ | apply Drawn0.step)⟩
    · rw [if_neg c3] at H
      have c3b0 : (t101 == 10) = false := beq_eq_false_iff_ne.mpr c3
      have c3b1 : (t101 != 10) = true := bne_iff_ne.mpr c3
      (first | rw [c3b0] | (simp only [i64_w, i32_w]; rw [c3b0]) | skip)
      have H' := Aside0.mk H
      clear H
      go_wp2_with (first | (go_at_call 10; (with_reducible refine (sluicelaw01_num.calls 10 t101 _ A2.out).mono ?_); rintro e w' ⟨rfl, ⟨nd, rfl⟩⟩))
      go_meet
      case rel => exact ⟨_, (true), (by first | rfl | (simp; done) | (simp [*]; done)), H', ⟨by first | omega | exact Nat.le_refl _⟩, by repeat (first | exact Drawn0.refl _ | apply Drawn0.step)⟩
  case rest =>
    clear HC1
    try clear p2
    try clear c3
    try clear c3b0
    try clear c3b1
    obtain ⟨kq, x12_0, rfl, HA, HJ0, ⟨mc0, rfl⟩⟩ := hcut
    cases kq with
    | zero => exact absurd HA.out (by simp [sluicelaw01_GrainNames.j0])
    | succ kj0 =>
      have H := HA.out
      clear HA
      simp only [sluicelaw01_GrainNames.j0] at H
      by_cases c5 : x12_0 = true
      · subst c5
        have H1 : (some false) = some r := by rw [if_pos rfl] at H; exact H
        clear H
        have H := H1
        clear H1
        obtain rfl := Option.some.inj H
        go_wp2
        go_ret
        exact ⟨by first | rfl | (simp; done) | (simp [*]; done), by repeat (first | exact Drawn0.refl _ | apply Drawn0.step)⟩
      · replace c5 := Bool.eq_false_iff.mpr c5
        subst c5
        have H1 : (some true) = some r := by rw [if_neg (show ¬ (false = true) by decide)] at H; exact H
        clear H
        have H := H1
        clear H1
        obtain rfl := Option.some.inj H
        go_wp2
        go_ret
        exact ⟨by first | rfl | (simp; done) | (simp [*]; done), by repeat (first | exact Drawn0.refl _ | apply Drawn0.step)⟩

/-- THE ONE PURE STATEMENT of sluicelaw01_GrainNames: yours. -/
def sluicelaw01_GrainNames.Pure : Prop := ∃ k, sluicelaw01_GrainNames.f k  = some true
theorem sluicelaw01_GrainNames.walk (P : sluicelaw01_GrainNames.Pure)  (w : World)  :
    Calls Try.prog 3 #[] w fun e w' => e = .returned (.bool true) ∧ Below w.heap.size w w' := by
  obtain ⟨k, h⟩ := P  
  refine (sluicelaw01_GrainNames.calls k  true w h).mono ?_
  rintro e w' ⟨rfl, hd⟩
  exact ⟨rfl, hd.below⟩

end Go.Proofs.Ytdnofpafojjjaaa.PGrainNames
