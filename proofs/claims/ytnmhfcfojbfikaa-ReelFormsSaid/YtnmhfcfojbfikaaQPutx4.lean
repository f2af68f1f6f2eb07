/- What the functions that the statement Put reaches come to, and that the given program's calls come to it; written by this session's program printx.py (wip/tpl), which runs the kit's print over the translation with additions of its own. No printed file. Conditions: as each theorem says. -/
import Derived.Test.YtnmhfcfojbfikaaQPutx0
import Derived.Test.YtnmhfcfojbfikaaQPutx1
import Derived.Test.YtnmhfcfojbfikaaQPutx2
import Derived.Test.YtnmhfcfojbfikaaQPutx3
namespace Go.Proofs.Ytnmhfcfojbfikaa.QPut
open Go.RowKit Go.Proofs.YtnmhfcfojbfikaaW.PrintWords Go.Proofs.YtnmhfcfojbfikaaW.PrintLast Go.Proofs.YtnmhfcfojbfikaaW.PrintMore
attribute [local go_sem] max2_int min2_int max_two min_two max_three min_three max_four min_four   -- for this text's walks alone
set_option linter.unusedVariables false
set_option linter.unusedSimpArgs false

/-! ### grain_Put: function 103 -/
/-- The row behind Put, and its error. -/
def grain_Put.f (xs : List Int) (at_ width v : Int) : List Int × Int :=
  if 1 ≤ width ∧ width ≤ 8 then (if 0 ≤ at_ ∧ at_ ≤ (xs.length : Int) ∧ width ≤ (xs.length : Int) - at_ then (if v < 2 ^ (8 * width.toNat) then (grain_lay.go at_.toNat v xs width.toNat, 0) else (xs, 12)) else (xs, 10)) else (xs, 11)
set_option maxHeartbeats 4000000 in
set_option maxRecDepth 100000 in
theorem grain_Put.calls (P0_ : Nat → Prop) (g c : Nat) (xs : List Int) (at_ width v : Int) (kL : Nat) (L : Int) (w0 w : World) (hB : Below w0.heap.size w0 w) (hR : Kd.R (Kd.int .u8) 5 w w0.heap.size P0_ (.slice (some ⟨g, 0, none⟩) (xs.length + 2) c) (xs ++ Mark.two)) (ha0 : -9223372036854775808 ≤ at_) (ha1 : at_ < 9223372036854775808) (hv : 0 ≤ v) (hv1 : v < 18446744073709551616) (hL : bits_Len64.f kL v = some L) (hLf : ∀ m : Nat, L ≤ (m : Int) ↔ v < 2 ^ m) :
    Calls Try.prog 103 #[.slice (some ⟨g, 0, none⟩) xs.length c, .int .i64 at_, .int .i64 width, .int .u64 v] w fun e w' => e = .returned (.int .i64 (grain_Put.f xs at_ width v).2) ∧ Kd.R (Kd.int .u8) 5 w' w0.heap.size P0_ (.slice (some ⟨g, 0, none⟩) (xs.length + 2) c) ((grain_Put.f xs at_ width v).1 ++ Mark.two) ∧ Below w0.heap.size w0 w' := by
  obtain ⟨_, hc0, hC⟩ := Kd.R_reads' hR
  have hm := hC.2.1
  rw [Mark.len2] at hm
  have hc : xs.length ≤ c := by omega
  have HO := Aside0.mk hR
  have HB := Aside0.mk hB
  clear hR hC hB
  have HL := Aside0.mk hL
  clear hL
  have hv0_ := hv
  have hv1_ := hv1
  unfold grain_Put.f
  by_cases c1 : 1 ≤ width ∧ width ≤ 8
  · rw [if_pos c1]
    by_cases c2 : 0 ≤ at_ ∧ at_ ≤ (xs.length : Int) ∧ width ≤ (xs.length : Int) - at_
    · rw [if_pos c2]
      have hsp := fun w => grain_span.ok (some ⟨g, 0, none⟩) xs.length c at_ width w hc (by omega) c1.1 c1.2 c2.1 c2.2.1 c2.2.2
      obtain ⟨m, rfl⟩ : ∃ m : Nat, width = m := ⟨width.toNat, by omega⟩
      obtain ⟨a, rfl⟩ : ∃ a : Nat, at_ = a := ⟨at_.toNat, by omega⟩
      obtain ⟨c11, c12⟩ := c1
      obtain ⟨_, c22, c23⟩ := c2
      clear ha0 ha1
      simp only [Int.toNat_natCast] at hsp ⊢
      have hadr : ((some (⟨g, 0, none⟩ : Addr)).map (·.add a)) = some ⟨g, a, none⟩ := by simp [Addr.add] <;> omega
      simp only [hadr] at hsp
      clear hadr
      have hw8 : wrap64 (8 * (m : Int)) = 8 * (m : Int) := by unfold wrap64; omega
      have hLm := hLf (8 * m)
      clear hLf
      by_cases c3 : v < 2 ^ (8 * m)
      · simp only [if_pos c3]
        have b1 : decide (L > 8 * (m : Int)) = false := decide_eq_false (by have := hLm.mpr c3; omega)
        have b2 : decide (L > wrap64 (8 * (m : Int))) = false := by rw [hw8]; exact b1
        clear c3 hLm
        go_enter Try.func103, Try.ntmps103
        go_wp2_with (first | ((with_reducible refine gate_callee (f := 106) rfl ?_); refine goesL_ (some 15) rfl rfl Try.func106 (by kernel_rfl) rfl #[.slice (some ⟨g, 0, none⟩) xs.length c, .int .i64 (a : Int), .int .i64 (m : Int)] rfl (by (try simp only [List.map_toArray, List.map_cons, List.map_nil]); first | done | rfl) ?_; (with_reducible refine (hsp _).mono ?_); rintro e w' ⟨rfl, ⟨nd, rfl⟩⟩; refine ⟨_, rfl, ?_⟩) | ((with_reducible refine gate_callee (f := 107) rfl ?_); refine goesL_ (some 24) rfl rfl Try.func107 (by kernel_rfl) rfl #[.int .u64 v] rfl (by (try simp only [List.map_toArray, List.map_cons, List.map_nil]); first | done | rfl) ?_; (with_reducible refine (bits_Len64.calls kL v L _ HL.out).mono ?_); rintro e w' ⟨rfl, ⟨nd, rfl⟩⟩; refine ⟨_, rfl, ?_⟩) | ((with_reducible refine gate_callee (f := 108) rfl ?_); refine goesL_ (some 30) rfl rfl Try.func108 (by kernel_rfl) rfl #[.slice (some ⟨g, a, none⟩) m (c - a), .int .u64 v] rfl (by (try simp only [List.map_toArray, List.map_cons, List.map_nil]); first | done | rfl) ?_; (with_reducible refine (grain_lay.calls P0_ g (xs.length + 2) c a m (c - a) v (xs ++ Mark.two) w0 _ ?sB ?sR (by rw [Mark.len2]; omega) (by omega) (by omega) ?v0 ?v1).mono ?_); (case sB => exact (by repeat (first | (with_reducible first | exact HB.out | apply below_alloc | apply pw_below_drewN | apply below_drew1) | exact HB.out))); (case sR => exact (by (with_reducible repeat (first | apply Kd.R_alloc | apply Kd.R_drewN | apply Kd.R_drew)); exact HO.out)); (case v0 => exact hv0_); (case v1 => exact hv1_); rintro e w' ⟨rfl, hR1, hB1⟩; have n0_ := Aside0.mk hR1; have n1_ := Aside0.mk hB1; clear hR1 hB1 HO HB; have HO := n0_; have HB := n1_; clear n0_ n1_; refine ⟨_, rfl, ?_⟩))
        go_ret
        exact ⟨rfl, (by have h_ := HO.out; rw [grain_lay.app _ _ _ _ _ (by omega)] at h_; (with_reducible repeat (first | apply Kd.R_alloc | apply Kd.R_drewN | apply Kd.R_drew)); exact h_), by repeat (first | (with_reducible first | exact HB.out | apply below_alloc | apply pw_below_drewN | apply below_drew1) | exact HB.out)⟩
      · simp only [if_neg c3]
        have b1 : decide (L > 8 * (m : Int)) = true := decide_eq_true (by have := fun h => c3 (hLm.mp h); omega)
        have b2 : decide (L > wrap64 (8 * (m : Int))) = true := by rw [hw8]; exact b1
        clear c3 hLm
        go_enter Try.func103, Try.ntmps103
        go_wp2_with (first | ((with_reducible refine gate_callee (f := 106) rfl ?_); refine goesL_ (some 15) rfl rfl Try.func106 (by kernel_rfl) rfl #[.slice (some ⟨g, 0, none⟩) xs.length c, .int .i64 (a : Int), .int .i64 (m : Int)] rfl (by (try simp only [List.map_toArray, List.map_cons, List.map_nil]); first | done | rfl) ?_; (with_reducible refine (hsp _).mono ?_); rintro e w' ⟨rfl, ⟨nd, rfl⟩⟩; refine ⟨_, rfl, ?_⟩) | ((with_reducible refine gate_callee (f := 107) rfl ?_); refine goesL_ (some 24) rfl rfl Try.func107 (by kernel_rfl) rfl #[.int .u64 v] rfl (by (try simp only [List.map_toArray, List.map_cons, List.map_nil]); first | done | rfl) ?_; (with_reducible refine (bits_Len64.calls kL v L _ HL.out).mono ?_); rintro e w' ⟨rfl, ⟨nd, rfl⟩⟩; refine ⟨_, rfl, ?_⟩))
        go_ret
        exact ⟨rfl, (by (with_reducible repeat (first | apply Kd.R_alloc | apply Kd.R_drewN | apply Kd.R_drew)); exact HO.out), by repeat (first | (with_reducible first | exact HB.out | apply below_alloc | apply pw_below_drewN | apply below_drew1) | exact HB.out)⟩
    · rw [if_neg c2]
      have hsp := fun w => grain_span.short (some ⟨g, 0, none⟩) xs.length c at_ width w hc (by omega) c1.1 c1.2 ha0 ha1 c2
      clear c2 hLf
      go_enter Try.func103, Try.ntmps103
      go_wp2_with (first | ((with_reducible refine gate_callee (f := 106) rfl ?_); refine goesL_ (some 15) rfl rfl Try.func106 (by kernel_rfl) rfl #[.slice (some ⟨g, 0, none⟩) xs.length c, .int .i64 at_, .int .i64 width] rfl (by (try simp only [List.map_toArray, List.map_cons, List.map_nil]); first | done | rfl) ?_; (with_reducible refine (hsp _).mono ?_); rintro e w' ⟨rfl, ⟨nd, rfl⟩⟩; refine ⟨_, rfl, ?_⟩))
      go_ret
      exact ⟨rfl, (by (with_reducible repeat (first | apply Kd.R_alloc | apply Kd.R_drewN | apply Kd.R_drew)); exact HO.out), by repeat (first | (with_reducible first | exact HB.out | apply below_alloc | apply pw_below_drewN | apply below_drew1) | exact HB.out)⟩
  · rw [if_neg c1]
    have hsp := fun w => grain_span.wide (some ⟨g, 0, none⟩) xs.length c at_ width w hc (by omega) c1 ha0 ha1
    clear c1 hLf
    go_enter Try.func103, Try.ntmps103
    go_wp2_with (first | ((with_reducible refine gate_callee (f := 106) rfl ?_); refine goesL_ (some 15) rfl rfl Try.func106 (by kernel_rfl) rfl #[.slice (some ⟨g, 0, none⟩) xs.length c, .int .i64 at_, .int .i64 width] rfl (by (try simp only [List.map_toArray, List.map_cons, List.map_nil]); first | done | rfl) ?_; (with_reducible refine (hsp _).mono ?_); rintro e w' ⟨rfl, ⟨nd, rfl⟩⟩; refine ⟨_, rfl, ?_⟩))
    go_ret
    exact ⟨rfl, (by (with_reducible repeat (first | apply Kd.R_alloc | apply Kd.R_drewN | apply Kd.R_drew)); exact HO.out), by repeat (first | (with_reducible first | exact HB.out | apply below_alloc | apply pw_below_drewN | apply below_drew1) | exact HB.out)⟩

end Go.Proofs.Ytnmhfcfojbfikaa.QPut
