/- loom's table. Conditions: as each theorem says. -/
import Derived.Test.YtcpcpmojallcdaaLcS
namespace Go.Proofs.Ytcpcpmojallcdaa.QLoomChecks
open Go.RowKit Go.Proofs.YtcpcpmojallcdaaW.PrintWords Go.Proofs.YtcpcpmojallcdaaW.PrintLast Go.Proofs.YtcpcpmojallcdaaW.PrintMore
set_option linter.unusedVariables false
set_option linter.unusedSimpArgs false
set_option maxHeartbeats 8000000 in
set_option maxRecDepth 100000 in
theorem specs_low (a0 : Int) (r1 : ByteArray) (r2 r3 : Int) (r4 r5 : ByteArray) (r6 : Bool) (w : World) (h : loom_specs.f a0 = some (r1, r2, r3, r4, r5, r6)) (ha : 0 ≤ a0 ∧ a0 < 35) :
  Calls Try.prog 19 #[.int .i64 a0] w fun e w' => e = .returned (.agg #[.string r1, .int .i64 r2, .int .i64 r3, .string r4, .string r5, .bool r6]) ∧ Below w.heap.size w w' := by
 have HS := Aside0.mk (heap_alloc_new w (.cells #[.string ⟨#[]⟩, .int .i64 0, .int .i64 0, .string ⟨#[]⟩, .string ⟨#[]⟩, .bool false] 59))
 have hc : a0 = 0 ∨ a0 = 1 ∨ a0 = 2 ∨ a0 = 3 ∨ a0 = 4 ∨ a0 = 5 ∨ a0 = 6 ∨ a0 = 7 ∨ a0 = 8 ∨ a0 = 9 ∨ a0 = 10 ∨ a0 = 11 ∨ a0 = 12 ∨ a0 = 13 ∨ a0 = 14 ∨ a0 = 15 ∨ a0 = 16 ∨ a0 = 17 ∨ a0 = 18 ∨ a0 = 19 ∨ a0 = 20 ∨ a0 = 21 ∨ a0 = 22 ∨ a0 = 23 ∨ a0 = 24 ∨ a0 = 25 ∨ a0 = 26 ∨ a0 = 27 ∨ a0 = 28 ∨ a0 = 29 ∨ a0 = 30 ∨ a0 = 31 ∨ a0 = 32 ∨ a0 = 33 ∨ a0 = 34 := by omega
 clear ha
 rcases hc with rfl | rfl | rfl | rfl | rfl | rfl | rfl | rfl | rfl | rfl | rfl | rfl | rfl | rfl | rfl | rfl | rfl | rfl | rfl | rfl | rfl | rfl | rfl | rfl | rfl | rfl | rfl | rfl | rfl | rfl | rfl | rfl | rfl | rfl | rfl
 all_goals
  have h2 := (show loom_specs.f _ = some _ from rfl).symm.trans h
  simp only [Option.some.injEq, Prod.mk.injEq] at h2
  obtain ⟨rfl, rfl, rfl, rfl, rfl, rfl⟩ := h2
  clear h
  go_enter Try.func19, Try.ntmps19
  go_wp2
  refine bodyPost_ret (results_cell_row rfl _ _ w.heap.size 59 _ (0, 0) _ ?_ (heap_alloc_new w _) Try.underlying59 rfl (by kernel_rfl)) rfl ?_
  ·rfl
  ·exact ⟨rfl, below_alloc (Below.refl _ _) _⟩
set_option maxHeartbeats 8000000 in
set_option maxRecDepth 100000 in
theorem loom_specs.calls (a0 : Int) (r1 : ByteArray) (r2 r3 : Int) (r4 r5 : ByteArray) (r6 : Bool) (w : World) (h : loom_specs.f a0 = some (r1, r2, r3, r4, r5, r6)) :
  Calls Try.prog 19 #[.int .i64 a0] w fun e w' => e = .returned (.agg #[.string r1, .int .i64 r2, .int .i64 r3, .string r4, .string r5, .bool r6]) ∧ Below w.heap.size w w' := by
 have ha : 0 ≤ a0 ∧ a0 < 69 := by
  by_cases c : 0 ≤ a0 ∧ a0 < 69
  ·exact c
  ·unfold loom_specs.f at h
   rw [if_neg c] at h
   cases h
 by_cases c : a0 < 35
 ·exact specs_low a0 r1 r2 r3 r4 r5 r6 w h ⟨ha.1, c⟩
 have HM := Aside0.mk (fun W => loom_more.calls a0 r1 r2 r3 r4 r5 r6 W h ⟨by omega, ha.2⟩)
 have HS := Aside0.mk (heap_alloc_new w (.cells #[.string ⟨#[]⟩, .int .i64 0, .int .i64 0, .string ⟨#[]⟩, .string ⟨#[]⟩, .bool false] 59))
 have c0 : (a0 == 0) = false := beq_eq_false_iff_ne.mpr (by omega)
 have c1 : (a0 == 1) = false := beq_eq_false_iff_ne.mpr (by omega)
 have c2 : (a0 == 2) = false := beq_eq_false_iff_ne.mpr (by omega)
 have c3 : (a0 == 3) = false := beq_eq_false_iff_ne.mpr (by omega)
 have c4 : (a0 == 4) = false := beq_eq_false_iff_ne.mpr (by omega)
 have c5 : (a0 == 5) = false := beq_eq_false_iff_ne.mpr (by omega)
 have c6 : (a0 == 6) = false := beq_eq_false_iff_ne.mpr (by omega)
 have c7 : (a0 == 7) = false := beq_eq_false_iff_ne.mpr (by omega)
 have c8 : (a0 == 8) = false := beq_eq_false_iff_ne.mpr (by omega)
 have c9 : (a0 == 9) = false := beq_eq_false_iff_ne.mpr (by omega)
 have c10 : (a0 == 10) = false := beq_eq_false_iff_ne.mpr (by omega)
 have c11 : (a0 == 11) = false := beq_eq_false_iff_ne.mpr (by omega)
 have c12 : (a0 == 12) = false := beq_eq_false_iff_ne.mpr (by omega)
 have c13 : (a0 == 13) = false := beq_eq_false_iff_ne.mpr (by omega)
 have c14 : (a0 == 14) = false := beq_eq_false_iff_ne.mpr (by omega)
 have c15 : (a0 == 15) = false := beq_eq_false_iff_ne.mpr (by omega)
 have c16 : (a0 == 16) = false := beq_eq_false_iff_ne.mpr (by omega)
 have c17 : (a0 == 17) = false := beq_eq_false_iff_ne.mpr (by omega)
 have c18 : (a0 == 18) = false := beq_eq_false_iff_ne.mpr (by omega)
 have c19 : (a0 == 19) = false := beq_eq_false_iff_ne.mpr (by omega)
 have c20 : (a0 == 20) = false := beq_eq_false_iff_ne.mpr (by omega)
 have c21 : (a0 == 21) = false := beq_eq_false_iff_ne.mpr (by omega)
 have c22 : (a0 == 22) = false := beq_eq_false_iff_ne.mpr (by omega)
 have c23 : (a0 == 23) = false := beq_eq_false_iff_ne.mpr (by omega)
 have c24 : (a0 == 24) = false := beq_eq_false_iff_ne.mpr (by omega)
 have c25 : (a0 == 25) = false := beq_eq_false_iff_ne.mpr (by omega)
 have c26 : (a0 == 26) = false := beq_eq_false_iff_ne.mpr (by omega)
 have c27 : (a0 == 27) = false := beq_eq_false_iff_ne.mpr (by omega)
 have c28 : (a0 == 28) = false := beq_eq_false_iff_ne.mpr (by omega)
 have c29 : (a0 == 29) = false := beq_eq_false_iff_ne.mpr (by omega)
 have c30 : (a0 == 30) = false := beq_eq_false_iff_ne.mpr (by omega)
 have c31 : (a0 == 31) = false := beq_eq_false_iff_ne.mpr (by omega)
 have c32 : (a0 == 32) = false := beq_eq_false_iff_ne.mpr (by omega)
 have c33 : (a0 == 33) = false := beq_eq_false_iff_ne.mpr (by omega)
 have c34 : (a0 == 34) = false := beq_eq_false_iff_ne.mpr (by omega)
 clear h ha c
 have hs59 : (#[.string ⟨#[]⟩, .int .i64 0, .int .i64 0, .string ⟨#[]⟩, .string ⟨#[]⟩, .bool false] : Array Value).size = (#[.string r1, .int .i64 r2, .int .i64 r3, .string r4, .string r5, .bool r6] : Array Value).size := rfl
 have hone : (#[.string r1, .int .i64 r2, .int .i64 r3, .string r4, .string r5, .bool r6] : Array Value).all (·.oneCell') = true := by simp [Value.oneCell']
 go_enter Try.func19, Try.ntmps19
 go_wp2_with (first | (go_at_call 36; (with_reducible refine (HM.out _).mono ?_); rintro e w5 ⟨rfl, hb⟩; have n0_ := Aside0.mk ((hb.block _ (blk_lt HS.out)).trans HS.out); have HB5 := Aside0.mk (below_then (below_alloc (Below.refl w.heap.size w) (.cells #[.string ⟨#[]⟩, .int .i64 0, .int .i64 0, .string ⟨#[]⟩, .string ⟨#[]⟩, .bool false] 59)) (by rw [World.size_alloc]; omega) hb); clear HS hb; have HS := n0_; clear n0_) | ((with_reducible refine wpList_store_row rfl 59 (.tmp 2) (.tmp 110) rfl w.heap.size #[.string r1, .int .i64 r2, .int .i64 r3, .string r4, .string r5, .bool r6] rfl rfl 59 _ HS.out (by kernel_rfl) hs59 hone ?_)))
 refine bodyPost_ret (results_cell_row rfl _ _ w.heap.size 59 _ (0, 0) _ ?_ (setRow_heap _ w.heap.size _ _ 59 (0, 0) HS.out) Try.underlying59 rfl (by kernel_rfl)) rfl ?_
 ·rfl
 ·exact ⟨rfl, below_setRow HB5.out (Nat.le_refl _) _⟩
end Go.Proofs.Ytcpcpmojallcdaa.QLoomChecks
