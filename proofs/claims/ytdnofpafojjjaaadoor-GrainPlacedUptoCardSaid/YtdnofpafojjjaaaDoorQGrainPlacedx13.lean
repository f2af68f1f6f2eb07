/- What the functions that the statement GrainPlaced reaches come to, and that the given program's calls come to it; written by this session's program printx.py (wip/tpl), which runs the kit's print over the translation with additions of its own. No printed file. Conditions: as each theorem says. -/
import Derived.Test.YtdnofpafojjjaaaDoorQGrainPlacedx0
namespace Go.Proofs.YtdnofpafojjjaaaDoor.QGrainPlaced
open Go.RowKit Go.Proofs.YtdnofpafojjjaaaDoorW.PrintWords Go.Proofs.YtdnofpafojjjaaaDoorW.PrintLast Go.Proofs.YtdnofpafojjjaaaDoorW.PrintMore
attribute [local go_sem] max2_int min2_int max_two min_two max_three min_three max_four min_four   -- for this text's walks alone
set_option linter.unusedVariables false
set_option linter.unusedSimpArgs false

/-! ### grain_Total: function 30 -/
/-- What the two words come to. -/
def grain_Total.go : List Int → Int → Int → Int × Int
  | [], hi, lo => (hi, lo)
  | x :: r, hi, lo => grain_Total.go r ((hi + IntKind.u64.wrap (x / 9223372036854775808) + (lo + IntKind.u64.wrap x) / 18446744073709551616) % 18446744073709551616) ((lo + IntKind.u64.wrap x) % 18446744073709551616)
def grain_Total.fin (p : Int × Int) : Int × Int := if p.1 = IntKind.u64.wrap (wrap64 p.2 / 9223372036854775808) then (wrap64 p.2, 0) else (0, 13)
def grain_Total.f (l0 : List Int) : Option (Int × Int) := if l0.length ≤ 140737488355328 then some (grain_Total.fin (grain_Total.go l0 0 0)) else none
theorem grain_Total.u64w (n : Int) : 0 ≤ IntKind.u64.wrap n ∧ IntKind.u64.wrap n < 18446744073709551616 := by
  have : IntKind.u64.wrap n = n % 18446744073709551616 := by simp [IntKind.wrap, IntKind.bits, IntKind.signed]
  omega
theorem grain_Total.drop_cons (l : List Int) (i : Nat) (h : i < l.length) : l.drop i = rd l i :: l.drop (i + 1) := by
  have h2 : rd l (i : Int) = l[i] := by simp [rd, List.getD, h]
  rw [h2]
  exact List.drop_eq_getElem_cons h
theorem grain_Total.add64 (x y c : Int) (hx : 0 ≤ x) (hy : 0 ≤ y) (hc0 : 0 ≤ c) (hc : c ≤ 1) (w : World) : (callFunc 43 #[.int .u64 x, .int .u64 y, .int .u64 c]).run Tryd.prog w =
    .ok (.value (.tuple #[.int .u64 ((x + y + c) % 18446744073709551616), .int .u64 ((x + y + c) / 18446744073709551616)])) w := by
  rw [run_callFunc_extern Tryd.func43 (by kernel_rfl) (by kernel_rfl) (by kernel_rfl) (e := add64Entry) (by kernel_rfl), run_add64 x y c hx hy hc0 hc]
  rfl
theorem grain_Total.add64_0 (x y : Int) (hx : 0 ≤ x) (hy : 0 ≤ y) (w : World) : (callFunc 43 #[.int .u64 x, .int .u64 y, .int .u64 0]).run Tryd.prog w =
    .ok (.value (.tuple #[.int .u64 ((x + y) % 18446744073709551616), .int .u64 ((x + y) / 18446744073709551616)])) w := by
  simpa using grain_Total.add64 x y 0 hx hy (Int.le_refl 0) (by decide) w
set_option maxHeartbeats 2000000 in
set_option maxRecDepth 100000 in
theorem grain_Total.calls (A0 : Option Addr) (c0 : Nat) (l0 : List Int) (r1 : Int) (r2 : Int) (w : World) (hr0 : Kd.C (Kd.int .i64) w A0 l0.length l0) (hc0 : l0.length ≤ c0) (h : grain_Total.f l0 = some (r1, r2)) :
    Calls Tryd.prog 30 #[.slice A0 l0.length c0] w fun e w' => e = .returned (.tuple #[.int .i64 r1, .int .i64 r2]) ∧ Drawn0 w w' := by
  have HR0 := Aside0.mk hr0
  have HC0 := Aside0.mk hc0
  clear hr0 hc0
  have hlen : l0.length ≤ 140737488355328 := by
    unfold grain_Total.f at h
    split at h
    · assumption
    · cases h
  have HH : Aside0 (grain_Total.fin (grain_Total.go l0 0 0) = (r1, r2)) := by
    unfold grain_Total.f at h
    rw [if_pos hlen] at h
    exact Aside0.mk (Option.some.inj h)
  clear h
  go_enter Tryd.func30, Tryd.ntmps30
  go_wp2
  go_loopg [4, 5, 11] l0.length (fun kq v4 v5 v11 w' => ∃ (hi lo : Int) (i : Nat), v4 = .int .u64 hi ∧ v5 = .int .u64 lo ∧ v11 = .int .i64 i ∧ Aside0 (kq + i = l0.length) ∧ Aside0 (grain_Total.go (l0.drop i) hi lo = grain_Total.go l0 0 0) ∧ 0 ≤ hi ∧ hi < 18446744073709551616 ∧ 0 ≤ lo ∧ lo < 18446744073709551616 ∧ Drawn0 w w')
  case atStart => exact ⟨0, 0, 0, rfl, rfl, rfl, ⟨rfl⟩, ⟨rfl⟩, by decide, by decide, by decide, by decide, Drawn0.refl _⟩
  case round =>
    obtain ⟨hi, lo, i, rfl, rfl, rfl, HK, HG, hh0, hh1, hl0, hl1, ⟨m1, rfl⟩⟩ := hrel
    by_cases hlt : i < l0.length
    · have hgi : (i : Int) < (l0.length : Int) := by omega
      obtain ⟨ad, e1, hx⟩ := Kd.at_int HR0.out (i : Int) (by omega) hgi
      cases e1
      rw [Int.toNat_natCast] at hx
      have HS := Aside0.mk (grain_Total.drop_cons l0 i hlt)
      generalize hX : rd l0 (i : Int) = X at *
      clear hX
      have y1 := (grain_Total.u64w X).1
      have y2 := (grain_Total.u64w (X / 9223372036854775808)).1
      have y3 := (grain_Total.u64w X).2
      have k0 : 0 ≤ (lo + IntKind.u64.wrap X) / 18446744073709551616 := by omega
      have k1 : (lo + IntKind.u64.wrap X) / 18446744073709551616 ≤ 1 := by omega
      go_wp2_with (first | simp only [grain_Total.add64_0 lo (IntKind.u64.wrap X) hl0 y1] | simp only [grain_Total.add64 hi (IntKind.u64.wrap (X / 9223372036854775808)) ((lo + IntKind.u64.wrap X) / 18446744073709551616) hh0 y2 k0 k1])
      have hgk : 0 < gk := by have := HK.out; omega
      have HK' := Aside0.mk (show gk - 1 + (i + 1) = l0.length by have := HK.out; omega)
      have HG' : Aside0 (grain_Total.go (l0.drop (i + 1)) ((hi + IntKind.u64.wrap (X / 9223372036854775808) + (lo + IntKind.u64.wrap X) / 18446744073709551616) % 18446744073709551616) ((lo + IntKind.u64.wrap X) % 18446744073709551616) = grain_Total.go l0 0 0) := by
        have h1 := HG.out
        rw [HS.out, grain_Total.go] at h1
        exact ⟨h1⟩
      clear HK HG HS
      go_roundg (gk - 1)
      case measure => omega
      case rel => exact ⟨_, _, i + 1, rfl, rfl, (by first | rfl | (simp; done)), HK', HG', by omega, by omega, by omega, by omega, by repeat (first | exact Drawn0.refl _ | apply Drawn0.step)⟩
    · have hi_ : i = l0.length := by have := HK.out; omega
      have H : grain_Total.fin (hi, lo) = (r1, r2) := by
        have h1 := HG.out
        rw [hi_, List.drop_length, grain_Total.go] at h1
        rw [h1]
        exact HH.out
      have hge : ¬ ((i : Int) < (l0.length : Int)) := by omega
      clear hi_ HK HG HH
      unfold grain_Total.fin at H
      simp only at H
      by_cases c : hi = IntKind.u64.wrap (wrap64 lo / 9223372036854775808)
      · have cb : (hi == IntKind.u64.wrap (wrap64 lo / 9223372036854775808)) = true := beq_iff_eq.mpr c
        have cb1 : (hi != IntKind.u64.wrap (wrap64 lo / 9223372036854775808)) = false := bne_eq_false_iff_eq.mpr c
        rw [if_pos c] at H
        clear c
        obtain ⟨rfl, rfl⟩ := Prod.mk.inj H
        clear H
        go_wp2
        go_ret2
        exact ⟨by first | rfl | (simp; done) | (simp [*]; done), by repeat (first | exact Drawn0.refl _ | apply Drawn0.step)⟩
      · have cb : (hi == IntKind.u64.wrap (wrap64 lo / 9223372036854775808)) = false := beq_eq_false_iff_ne.mpr c
        have cb1 : (hi != IntKind.u64.wrap (wrap64 lo / 9223372036854775808)) = true := bne_iff_ne.mpr c
        rw [if_neg c] at H
        clear c
        obtain ⟨rfl, rfl⟩ := Prod.mk.inj H
        clear H
        go_wp2
        go_ret2
        exact ⟨by first | rfl | (simp; done) | (simp [*]; done), by repeat (first | exact Drawn0.refl _ | apply Drawn0.step)⟩

end Go.Proofs.YtdnofpafojjjaaaDoor.QGrainPlaced
