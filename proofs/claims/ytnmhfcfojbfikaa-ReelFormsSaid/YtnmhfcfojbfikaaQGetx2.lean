/- What the functions that the statement Get reaches come to, and that the given program's calls come to it; written by this session's program printx.py (wip/tpl), which runs the kit's print over the translation with additions of its own. No printed file. Conditions: as each theorem says. -/
import Derived.Test.YtnmhfcfojbfikaaQGetx0
import Derived.Test.YtnmhfcfojbfikaaQGetx1
namespace Go.Proofs.Ytnmhfcfojbfikaa.QGet
open Go.RowKit Go.Proofs.YtnmhfcfojbfikaaW.PrintWords Go.Proofs.YtnmhfcfojbfikaaW.PrintLast Go.Proofs.YtnmhfcfojbfikaaW.PrintMore
attribute [local go_sem] max2_int min2_int max_two min_two max_three min_three max_four min_four   -- for this text's walks alone
set_option linter.unusedVariables false
set_option linter.unusedSimpArgs false

/-! ### grain_Get: function 104 -/
/-- The number that i bytes from at_ on make. -/
def grain_Get.go (l : List Int) (at_ : Int) : Nat → Int
  | 0 => 0
  | i + 1 => Go.bits .or .u64 (grain_Get.go l at_ i) (IntKind.u64.wrap (IntKind.u64.wrap (rd l (at_ + i)) * 2 ^ (8 * i)))
def grain_Get.f (l0 : List Int) (a1 : Int) (a2 : Int) : Option (Int × Int) :=
  if -9223372036854775808 ≤ a1 ∧ a1 < 9223372036854775808 then (if 1 ≤ a2 ∧ a2 ≤ 8 then (if 0 ≤ a1 ∧ a1 ≤ (l0.length : Int) ∧ a2 ≤ (l0.length : Int) - a1 then some (grain_Get.go l0 a1 a2.toNat, 0) else some (0, 10)) else some (0, 11)) else none
set_option maxHeartbeats 2000000 in
set_option maxRecDepth 100000 in
theorem grain_Get.calls (A0 : Option Addr) (c0 : Nat) (l0 : List Int) (a1 : Int) (a2 : Int) (r1 : Int) (r2 : Int) (w : World) (hr0 : Kd.C (Kd.int .u8) w A0 l0.length l0) (hc0 : l0.length ≤ c0) (h : grain_Get.f l0 a1 a2 = some (r1, r2)) :
    Calls Try.prog 104 #[.slice A0 l0.length c0, .int .i64 a1, .int .i64 a2] w fun e w' => e = .returned (.tuple #[.int .u64 r1, .int .i64 r2]) ∧ Drawn0 w w' := by
  have hm := hr0.2.1
  have HR0 := Aside0.mk hr0
  clear hr0
  unfold grain_Get.f at h
  by_cases c0_ : -9223372036854775808 ≤ a1 ∧ a1 < 9223372036854775808
  case neg => rw [if_neg c0_] at h; cases h
  rw [if_pos c0_] at h
  obtain ⟨ha0, ha1⟩ := c0_
  by_cases c1 : 1 ≤ a2 ∧ a2 ≤ 8
  · rw [if_pos c1] at h
    by_cases c2 : 0 ≤ a1 ∧ a1 ≤ (l0.length : Int) ∧ a2 ≤ (l0.length : Int) - a1
    · rw [if_pos c2] at h
      obtain ⟨rfl, rfl⟩ := Prod.mk.inj (Option.some.inj h)
      clear h
      have hsp := fun w => grain_span.ok A0 l0.length c0 a1 a2 w hc0 hm c1.1 c1.2 c2.1 c2.2.1 c2.2.2
      obtain ⟨n2, rfl⟩ : ∃ n2 : Nat, a2 = n2 := ⟨a2.toNat, by omega⟩
      rw [Int.toNat_natCast] at hsp ⊢
      go_enter Try.func104, Try.ntmps104
      go_wp2_with (first | ((with_reducible refine gate_callee (f := 106) rfl ?_); refine goesL_ (some 16) rfl rfl Try.func106 (by kernel_rfl) rfl #[.slice A0 l0.length c0, .int .i64 a1, .int .i64 (n2 : Int)] rfl (by (try simp only [List.map_toArray, List.map_cons, List.map_nil]); first | done | rfl) ?_; (with_reducible refine (hsp _).mono ?_); rintro e w' ⟨rfl, ⟨nd, rfl⟩⟩; refine ⟨_, rfl, ?_⟩))
      go_loopg [10, 24] n2 (fun kq v10 v24 w' => ∃ (i : Nat), v10 = .int .u64 (grain_Get.go l0 a1 i) ∧ v24 = .int .i64 i ∧ Aside0 (kq + i = n2) ∧ Drawn0 w w')
      case atStart => exact ⟨0, rfl, rfl, ⟨rfl⟩, by repeat (first | exact Drawn0.refl _ | apply Drawn0.step)⟩
      case round =>
        obtain ⟨i, rfl, rfl, HK, ⟨m1, rfl⟩⟩ := hrel
        by_cases hlt : i < n2
        · have hgi : (i : Int) < (n2 : Int) := by omega
          have h8 : (i : Int) < 8 := by omega
          obtain ⟨ad, e1, hx⟩ := Kd.at_int HR0.out (a1 + (i : Int)) (by omega) (by omega)
          cases e1
          have ha : ad.add (a1 + (i : Int)).toNat = (ad.add a1.toNat).add i := by
            rw [show (a1 + (i : Int)).toNat = a1.toNat + i by omega, Go.Proofs.YtnmhfcfojbfikaaW.PrintWords.add_add]
          rw [ha] at hx
          clear ha
          have HS : Aside0 (grain_Get.go l0 a1 (i + 1) = Go.bits .or .u64 (grain_Get.go l0 a1 i) (IntKind.u64.wrap (IntKind.u64.wrap (rd l0 (a1 + (i : Int))) * 2 ^ (8 * i)))) := ⟨rfl⟩
          generalize hX : rd l0 (a1 + (i : Int)) = X at *
          clear hX
          generalize hG : grain_Get.go l0 a1 i = G at *
          clear hG
          go_wp2
          have HK' := Aside0.mk (show gk - 1 + (i + 1) = n2 by have := HK.out; omega)
          have hgk : 0 < gk := by have := HK.out; omega
          clear HK
          go_roundg (gk - 1)
          case measure => omega
          case rel => exact ⟨i + 1, (by rw [HS.out]), (by first | rfl | (simp; done)), HK', by repeat (first | exact Drawn0.refl _ | apply Drawn0.step)⟩
        · have hi_ : i = n2 := by have := HK.out; omega
          subst hi_
          go_wp2
          go_ret2
          exact ⟨by first | rfl | (simp; done) | (simp [*]; done), by repeat (first | exact Drawn0.refl _ | apply Drawn0.step)⟩
    · rw [if_neg c2] at h
      obtain ⟨rfl, rfl⟩ := Prod.mk.inj (Option.some.inj h)
      clear h
      have hsp := fun w => grain_span.short A0 l0.length c0 a1 a2 w hc0 hm c1.1 c1.2 ha0 ha1 c2
      go_enter Try.func104, Try.ntmps104
      go_wp2_with (first | ((with_reducible refine gate_callee (f := 106) rfl ?_); refine goesL_ (some 16) rfl rfl Try.func106 (by kernel_rfl) rfl #[.slice A0 l0.length c0, .int .i64 a1, .int .i64 a2] rfl (by (try simp only [List.map_toArray, List.map_cons, List.map_nil]); first | done | rfl) ?_; (with_reducible refine (hsp _).mono ?_); rintro e w' ⟨rfl, ⟨nd, rfl⟩⟩; refine ⟨_, rfl, ?_⟩))
      go_ret2
      exact ⟨rfl, by repeat (first | exact Drawn0.refl _ | apply Drawn0.step)⟩
  · rw [if_neg c1] at h
    obtain ⟨rfl, rfl⟩ := Prod.mk.inj (Option.some.inj h)
    clear h
    have hsp := fun w => grain_span.wide A0 l0.length c0 a1 a2 w hc0 hm c1 ha0 ha1
    go_enter Try.func104, Try.ntmps104
    go_wp2_with (first | ((with_reducible refine gate_callee (f := 106) rfl ?_); refine goesL_ (some 16) rfl rfl Try.func106 (by kernel_rfl) rfl #[.slice A0 l0.length c0, .int .i64 a1, .int .i64 a2] rfl (by (try simp only [List.map_toArray, List.map_cons, List.map_nil]); first | done | rfl) ?_; (with_reducible refine (hsp _).mono ?_); rintro e w' ⟨rfl, ⟨nd, rfl⟩⟩; refine ⟨_, rfl, ?_⟩))
    go_ret2
    exact ⟨rfl, by repeat (first | exact Drawn0.refl _ | apply Drawn0.step)⟩

end Go.Proofs.Ytnmhfcfojbfikaa.QGet
