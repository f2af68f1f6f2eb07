/- What the functions that the statement Get reaches come to, and that the given program's calls come to it; written by this session's program printx.py (wip/tpl), which runs the kit's print over the translation with additions of its own. No printed file. Conditions: as each theorem says. -/
import Derived.Test.YtnmhfcfojbfikaaQGetx0
namespace Go.Proofs.Ytnmhfcfojbfikaa.QGet
open Go.RowKit Go.Proofs.YtnmhfcfojbfikaaW.PrintWords Go.Proofs.YtnmhfcfojbfikaaW.PrintLast Go.Proofs.YtnmhfcfojbfikaaW.PrintMore
attribute [local go_sem] max2_int min2_int max_two min_two max_three min_three max_four min_four   -- for this text's walks alone
set_option linter.unusedVariables false
set_option linter.unusedSimpArgs false

/-! ### grain_span: function 106 -/
/-- What span hands back, as a value. -/
def grain_span.v (A : Option Addr) (n c : Nat) (at_ width : Int) : Value :=
  if 1 ≤ width ∧ width ≤ 8 then (if 0 ≤ at_ ∧ at_ ≤ n ∧ width ≤ n - at_ then .tuple #[.slice (A.map (·.add at_.toNat)) width.toNat (c - at_.toNat), .int .i64 0] else .tuple #[.slice none 0 0, .int .i64 10]) else .tuple #[.slice none 0 0, .int .i64 11]
def grain_span.f (a0 : Int) : Option Int := some a0
set_option maxHeartbeats 2000000 in
set_option maxRecDepth 100000 in
theorem grain_span.calls (A : Option Addr) (n c : Nat) (at_ width : Int) (w : World) (hc : n ≤ c) (hn : n ≤ 9223372036854775807) (ha0 : -9223372036854775808 ≤ at_) (ha1 : at_ < 9223372036854775808) :
    Calls Try.prog 106 #[.slice A n c, .int .i64 at_, .int .i64 width] w fun e w' => e = .returned (grain_span.v A n c at_ width) ∧ Drawn0 w w' := by
  unfold grain_span.v
  by_cases c1 : width < 1
  · have b1 : decide (width < 1) = true := decide_eq_true c1
    rw [if_neg (by omega)]
    go_enter Try.func106, Try.ntmps106
    go_wp2
    go_ret2
    exact ⟨rfl, by repeat (first | exact Drawn0.refl _ | apply Drawn0.step)⟩
  · have b1 : decide (width < 1) = false := decide_eq_false c1
    by_cases c2 : width > 8
    · have b2 : decide (width > 8) = true := decide_eq_true c2
      rw [if_neg (by omega)]
      go_enter Try.func106, Try.ntmps106
      go_wp2
      go_ret2
      exact ⟨rfl, by repeat (first | exact Drawn0.refl _ | apply Drawn0.step)⟩
    · have b2 : decide (width > 8) = false := decide_eq_false c2
      rw [if_pos (by omega)]
      by_cases c3 : at_ < 0
      · have b3 : decide (at_ < 0) = true := decide_eq_true c3
        rw [if_neg (by omega)]
        go_enter Try.func106, Try.ntmps106
        go_wp2
        go_ret2
        exact ⟨rfl, by repeat (first | exact Drawn0.refl _ | apply Drawn0.step)⟩
      · have b3 : decide (at_ < 0) = false := decide_eq_false c3
        by_cases c4 : at_ > (n : Int)
        · have b4 : decide (at_ > (n : Int)) = true := decide_eq_true c4
          rw [if_neg (by omega)]
          go_enter Try.func106, Try.ntmps106
          go_wp2
          go_ret2
          exact ⟨rfl, by repeat (first | exact Drawn0.refl _ | apply Drawn0.step)⟩
        · have b4 : decide (at_ > (n : Int)) = false := decide_eq_false c4
          have e5 : wrap64 ((n : Int) - at_) = (n : Int) - at_ := by unfold wrap64; omega
          by_cases c5 : (n : Int) - at_ < width
          · have b5 : decide (wrap64 ((n : Int) - at_) < width) = true := by rw [e5]; exact decide_eq_true c5
            clear e5
            rw [if_neg (by omega)]
            go_enter Try.func106, Try.ntmps106
            go_wp2
            go_ret2
            exact ⟨rfl, by repeat (first | exact Drawn0.refl _ | apply Drawn0.step)⟩
          · have b5 : decide (wrap64 ((n : Int) - at_) < width) = false := by rw [e5]; exact decide_eq_false c5
            clear e5
            rw [if_pos (by omega)]
            have e6 : wrap64 (at_ + width) = at_ + width := by unfold wrap64; omega
            have hcut := cut_mid (P := Try.prog) 44 5 .i64 .i64 Try.underlying44 (i := (Try.prog.info? 5).get (by kernel_rfl)) (by kernel_rfl) 1 (by kernel_rfl) A n c at_ (at_ + width) (by omega) (by omega) (by omega) hc
            rw [if_neg (show ¬ c = at_.toNat by omega), Nat.mul_one] at hcut
            rw [show width.toNat = (at_ + width).toNat - at_.toNat by omega]
            rw [← e6] at hcut
            clear e6
            go_enter Try.func106, Try.ntmps106
            go_wp2
            go_ret2
            exact ⟨rfl, by repeat (first | exact Drawn0.refl _ | apply Drawn0.step)⟩
theorem grain_span.ok (A : Option Addr) (n c : Nat) (at_ width : Int) (w : World) (hc : n ≤ c) (hn : n ≤ 9223372036854775807) (h1 : 1 ≤ width) (h2 : width ≤ 8) (h3 : 0 ≤ at_) (h4 : at_ ≤ (n : Int)) (h5 : width ≤ (n : Int) - at_) :
    Calls Try.prog 106 #[.slice A n c, .int .i64 at_, .int .i64 width] w fun e w' => e = .returned (.tuple #[.slice (A.map (·.add at_.toNat)) width.toNat (c - at_.toNat), .int .i64 0]) ∧ Drawn0 w w' := by
  have := grain_span.calls A n c at_ width w hc hn (by omega) (by omega)
  unfold grain_span.v at this
  rw [if_pos ⟨h1, h2⟩, if_pos ⟨h3, h4, h5⟩] at this
  exact this
theorem grain_span.short (A : Option Addr) (n c : Nat) (at_ width : Int) (w : World) (hc : n ≤ c) (hn : n ≤ 9223372036854775807) (h1 : 1 ≤ width) (h2 : width ≤ 8) (ha0 : -9223372036854775808 ≤ at_) (ha1 : at_ < 9223372036854775808) (h3 : ¬ (0 ≤ at_ ∧ at_ ≤ (n : Int) ∧ width ≤ (n : Int) - at_)) :
    Calls Try.prog 106 #[.slice A n c, .int .i64 at_, .int .i64 width] w fun e w' => e = .returned (.tuple #[.slice none 0 0, .int .i64 10]) ∧ Drawn0 w w' := by
  have := grain_span.calls A n c at_ width w hc hn ha0 ha1
  unfold grain_span.v at this
  rw [if_pos ⟨h1, h2⟩, if_neg h3] at this
  exact this
theorem grain_span.wide (A : Option Addr) (n c : Nat) (at_ width : Int) (w : World) (hc : n ≤ c) (hn : n ≤ 9223372036854775807) (h1 : ¬ (1 ≤ width ∧ width ≤ 8)) (ha0 : -9223372036854775808 ≤ at_) (ha1 : at_ < 9223372036854775808) :
    Calls Try.prog 106 #[.slice A n c, .int .i64 at_, .int .i64 width] w fun e w' => e = .returned (.tuple #[.slice none 0 0, .int .i64 11]) ∧ Drawn0 w w' := by
  have := grain_span.calls A n c at_ width w hc hn ha0 ha1
  unfold grain_span.v at this
  rw [if_neg h1] at this
  exact this

end Go.Proofs.Ytnmhfcfojbfikaa.QGet
