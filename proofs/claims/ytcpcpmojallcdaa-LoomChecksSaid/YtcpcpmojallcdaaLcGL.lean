/- LoomChecks: NanQ MayQ. Conditions: as each theorem says. -/
import Derived.Test.YtcpcpmojallcdaaLcQ
import Derived.Test.YtcpcpmojallcdaaLcGA
import Derived.Test.YtcpcpmojallcdaaLcGI
namespace Go.Proofs.Ytcpcpmojallcdaa.QLoomChecks
open Go.RowKit Go.Proofs.YtcpcpmojallcdaaW.PrintWords Go.Proofs.YtcpcpmojallcdaaW.PrintLast Go.Proofs.YtcpcpmojallcdaaW.PrintMore
set_option linter.unusedVariables false
set_option linter.unusedSimpArgs false
section NanQ
theorem order_self (d : Ieee.Datum) : (d.order d == some .eq) = !d.isNaN := by
 cases d with
 | nan s f => rfl
 | infinity s => cases s <;> rfl
 | number s m i =>
  unfold Ieee.Datum.order
  simp [Ieee.Datum.isNaN, compare, compareOfLessAndEq]
theorem nan_read (u : Nat) : ((FloatKind.f32.format).read u).isNaN = decide (2139095040 < u % 2147483648) := by
 have h1 : FloatKind.f32.format.signWeight = 2147483648 := by decide
 have h2 : FloatKind.f32.format.binade = 8388608 := by decide
 have h3 : FloatKind.f32.format.infRung = 2139095040 := by decide
 unfold Ieee.Format.read
 simp only [h1, h2, h3]
 by_cases a : u % 2147483648 < 8388608
 ·rw [if_pos a, decide_eq_false (by omega)]
  rfl
 rw [if_neg a]
 by_cases b : u % 2147483648 < 2139095040
 ·rw [if_pos b, decide_eq_false (by omega)]
  rfl
 rw [if_neg b]
 by_cases c : u % 2147483648 = 2139095040
 ·rw [if_pos c, decide_eq_false (by omega)]
  rfl
 rw [if_neg c, decide_eq_true (by omega)]
 rfl
theorem nanB_val (u : Nat) : nanB (u : Int) = decide (2139095040 < u % 2147483648) := by
 unfold nanB Op.floatEq Ieee.Format.order
 rw [Int.toNat_natCast, order_self, nan_read, Bool.not_not]
theorem class_j (k : Nat) (f e : Int) (b : Bool) : ∃ t, sluiceref01_Class.j0 (k + 1) f e b = some t ∧ (t == 4) = b := by
 have hd : sluiceref01_Class.j0 (k + 1) f e b = if b = true then some 4 else (if e = 255 then (some 3) else (if e = 0 then (if f = 0 then (some 0) else (some 1)) else (some 2))) := rfl
 rw [hd]
 cases b with
 | true => exact ⟨4, by rw [if_pos rfl], rfl⟩
 | false =>
  rw [if_neg (by decide)]
  by_cases h1 : e = 255
  ·exact ⟨3, by rw [if_pos h1], rfl⟩
  rw [if_neg h1]
  by_cases h2 : e = 0
  ·rw [if_pos h2]
   by_cases h3 : f = 0
   ·exact ⟨0, by rw [if_pos h3], rfl⟩
   exact ⟨1, by rw [if_neg h3], rfl⟩
  exact ⟨2, by rw [if_neg h2], rfl⟩
theorem NaN_val (u : Int) (h0 : 0 ≤ u) (h1 : u < 4294967296) : sluiceref11_NaN.f 20 u = some (nanB u) := by
 obtain ⟨n, rfl⟩ : ∃ n : Nat, u = (n : Int) := ⟨u.toNat, by omega⟩
 unfold sluiceref11_NaN.f sluiceref01_Class.f
 have e1 : Int.tmod ((n : Int) / 8388608) 256 = (((n / 8388608) % 256 : Nat) : Int) := by
  rw [Int.tmod_eq_emod_of_nonneg (by omega)]
  omega
 have e2 : Int.tmod (n : Int) 8388608 = ((n % 8388608 : Nat) : Int) := by
  rw [Int.tmod_eq_emod_of_nonneg (by omega)]
  omega
 rw [e1, e2, nanB_val]
 by_cases c : (((n / 8388608) % 256 : Nat) : Int) = 255
 ·rw [if_pos c]
  obtain ⟨t, ht, hb⟩ := class_j 19 ((n % 8388608 : Nat) : Int) (((n / 8388608) % 256 : Nat) : Int) (((n % 8388608 : Nat) : Int) != 0)
  rw [ht, Option.bind_some, hb]
  congr 1
  by_cases d : n % 8388608 = 0
  ·rw [decide_eq_false (by omega), bne_eq_false_iff_eq.mpr (by omega)]
  rw [decide_eq_true (by omega), bne_iff_ne.mpr (by omega)]
 rw [if_neg c]
 obtain ⟨t, ht, hb⟩ := class_j 19 ((n % 8388608 : Nat) : Int) (((n / 8388608) % 256 : Nat) : Int) false
 rw [ht, Option.bind_some, hb, decide_eq_false (by omega)]
theorem NaNR (u : Int) (h0 : 0 ≤ u) (h1 : u < 4294967296) (w : World) : Calls Try.prog 48 #[.int .u32 u] w fun e w' => e = .returned (.bool (nanB u)) ∧ Drawn0 w w' := sluiceref11_NaN.calls 20 u _ w (NaN_val u h0 h1)
theorem plainQ_val (k : Int) : sluiceref11_plain.f k = some (plainB k) := by
 unfold sluiceref11_plain.f plainB
 by_cases h1 : k = 1
 ·subst h1; rfl
 by_cases h2 : k = 2
 ·subst h2; rfl
 rw [if_neg h1, if_neg h2]
 congr 1
 by_cases h3 : k = 3
 ·subst h3; rfl
 rw [beq_eq_false_iff_ne.mpr h3]
 by_cases h4 : 1 ≤ k
 ·rw [decide_eq_false (show ¬ k ≤ 3 by omega), Bool.and_false]
 rw [decide_eq_false h4, Bool.false_and]
end NanQ
section MayQ
set_option maxHeartbeats 8000000 in
set_option maxRecDepth 100000 in
theorem mayQR (words s0 s1 s2 s3 s4 s5 s6 s7 g0 g1 g2 g3 g4 g5 g6 g7 t0 t1 t2 t3 ma mb sa na sb nb : Int) (both : Bool) (h0 h1 h2 h3 h4 : Value) (op n : Nat) (a : Int) (w : World) (hop : op < 69) (hws : (runP [s0, s1, s2, s3, s4, s5, s6, s7]).2 = true) (hwg : (runP [g0, g1, g2, g3, g4, g5, g6, g7]).2 = true) :
  Calls Try.prog 29 #[.agg #[.int .i64 words, .int .i64 s0, .int .i64 s1, .int .i64 s2, .int .i64 s3, .int .i64 s4, .int .i64 s5, .int .i64 s6, .int .i64 s7, .int .i64 g0, .int .i64 g1, .int .i64 g2, .int .i64 g3, .int .i64 g4, .int .i64 g5, .int .i64 g6, .int .i64 g7, .int .i64 t0, .int .i64 t1, .int .i64 t2, .int .i64 t3, .int .i64 ma, .int .i64 mb, .int .i64 sa, .int .i64 na, .int .i64 sb, .int .i64 nb, .bool both, h0, h1, h2, h3, h4], .agg #[.int .i64 (op : Int), .int .i64 a], .int .i64 (n : Int)] w fun e w' => e = .returned (.bool (mayB [s0, s1, s2, s3, s4, s5, s6, s7] [g0, g1, g2, g3, g4, g5, g6, g7] [t0, t1, t2, t3] n (tabA op) a)) ∧ Below w.heap.size w w' := by
 have n0_ := blk_alloc (heap_alloc_new w (.cells #[.int .i64 words, .int .i64 s0, .int .i64 s1, .int .i64 s2, .int .i64 s3, .int .i64 s4, .int .i64 s5, .int .i64 s6, .int .i64 s7, .int .i64 g0, .int .i64 g1, .int .i64 g2, .int .i64 g3, .int .i64 g4, .int .i64 g5, .int .i64 g6, .int .i64 g7, .int .i64 t0, .int .i64 t1, .int .i64 t2, .int .i64 t3, .int .i64 ma, .int .i64 mb, .int .i64 sa, .int .i64 na, .int .i64 sb, .int .i64 nb, .bool both, h0, h1, h2, h3, h4] 31)) (.cells #[.int .i64 (op : Int), .int .i64 a] 42)
 have n1_ := heap_alloc_new (w.alloc (.cells #[.int .i64 words, .int .i64 s0, .int .i64 s1, .int .i64 s2, .int .i64 s3, .int .i64 s4, .int .i64 s5, .int .i64 s6, .int .i64 s7, .int .i64 g0, .int .i64 g1, .int .i64 g2, .int .i64 g3, .int .i64 g4, .int .i64 g5, .int .i64 g6, .int .i64 g7, .int .i64 t0, .int .i64 t1, .int .i64 t2, .int .i64 t3, .int .i64 ma, .int .i64 mb, .int .i64 sa, .int .i64 na, .int .i64 sb, .int .i64 nb, .bool both, h0, h1, h2, h3, h4] 31)) (.cells #[.int .i64 (op : Int), .int .i64 a] 42)
 simp only [World.size_alloc] at n1_
 have HE := Aside0.mk n0_
 have HX := Aside0.mk n1_
 have HB := Aside0.mk (below_alloc (below_alloc (Below.refl w.heap.size w) (.cells #[.int .i64 words, .int .i64 s0, .int .i64 s1, .int .i64 s2, .int .i64 s3, .int .i64 s4, .int .i64 s5, .int .i64 s6, .int .i64 s7, .int .i64 g0, .int .i64 g1, .int .i64 g2, .int .i64 g3, .int .i64 g4, .int .i64 g5, .int .i64 g6, .int .i64 g7, .int .i64 t0, .int .i64 t1, .int .i64 t2, .int .i64 t3, .int .i64 ma, .int .i64 mb, .int .i64 sa, .int .i64 na, .int .i64 sb, .int .i64 nb, .bool both, h0, h1, h2, h3, h4] 31)) (.cells #[.int .i64 (op : Int), .int .i64 a] 42))
 have HWS := Aside0.mk hws
 have HWG := Aside0.mk hwg
 have HAO := Aside0.mk (table_ok op hop).2.2.1
 have HAR := Aside0.mk (tabA_range op hop)
 clear n0_ n1_ hop hws hwg
 go_enter Try.func29, Try.ntmps29
 go_upto_region 1 with (fail)
 generalize (w.alloc (.cells #[.int .i64 words, .int .i64 s0, .int .i64 s1, .int .i64 s2, .int .i64 s3, .int .i64 s4, .int .i64 s5, .int .i64 s6, .int .i64 s7, .int .i64 g0, .int .i64 g1, .int .i64 g2, .int .i64 g3, .int .i64 g4, .int .i64 g5, .int .i64 g6, .int .i64 g7, .int .i64 t0, .int .i64 t1, .int .i64 t2, .int .i64 t3, .int .i64 ma, .int .i64 mb, .int .i64 sa, .int .i64 na, .int .i64 sb, .int .i64 nb, .bool both, h0, h1, h2, h3, h4] 31)).alloc (.cells #[.int .i64 (op : Int), .int .i64 a] 42) = w1 at HE HX HB ⊢
 have HBQ := Aside0.mk (fun (n : Nat) (W : World) (h : Below (w1.drewN n).heap.size (w1.drewN n) W) => below_step (pw_below_drewN HB.out n) h)
 have hx0 : _ = some (Value.int .i64 (op : Int)) := blk_cell HX.out 0
 have hx1 : _ = some (Value.int .i64 a) := blk_cell HX.out 1
 obtain ⟨aa, haa⟩ : ∃ y, y = tabA op := ⟨_, rfl⟩
 have HMB := Aside0.mk (show ∀ r, mayB [s0, s1, s2, s3, s4, s5, s6, s7] [g0, g1, g2, g3, g4, g5, g6, g7] [t0, t1, t2, t3] n aa a = r → mayB [s0, s1, s2, s3, s4, s5, s6, s7] [g0, g1, g2, g3, g4, g5, g6, g7] [t0, t1, t2, t3] n (tabA op) a = r from fun r h => by rw [← haa]; exact h)
 rw [← haa] at HAO HAR
 clear haa
 have har : aa = 0 ∨ aa = 1 ∨ aa = 2 ∨ aa = 3 ∨ aa = 4 ∨ aa = 5 ∨ aa = 6 ∨ aa = 7 ∨ aa = 8 ∨ aa = 9 ∨ aa = 10 ∨ aa = 11 ∨ aa = 12 := by have := HAR.out; omega
 clear HAR
 rcases har with rfl | rfl | rfl | rfl | rfl | rfl | rfl | rfl | rfl | rfl | rfl | rfl | rfl
 ·have HF := Aside0.mk (HMB.out _ (show _ = (a == 0) from rfl))
  go_wp2_with (go_at_call 47; refine (sluiceref11_argOf.calls 20 _ _ _ HAO.out).mono ?_; rintro e wq ⟨rfl, ⟨nq, rfl⟩⟩)
  go_ret
  exact ⟨by rw [HF.out]; rfl, (by repeat (first | (with_reducible first | exact HB.out | apply pw_below_drewN) | exact HB.out))⟩
 ·have HF := Aside0.mk (HMB.out _ (show _ = true from rfl))
  go_wp2_with (go_at_call 47; refine (sluiceref11_argOf.calls 20 _ _ _ HAO.out).mono ?_; rintro e wq ⟨rfl, ⟨nq, rfl⟩⟩)
  go_ret
  exact ⟨by rw [HF.out]; rfl, (by repeat (first | (with_reducible first | exact HB.out | apply pw_below_drewN) | exact HB.out))⟩
 ·have HF0 := Aside0.mk (HMB.out _ (show _ = ((decide (0 ≤ a) && decide (a ≤ 4294967295)) && !(nanB a)) from rfl))
  by_cases c0 : a ≥ 0
  ·have d0 : decide (a ≥ 0) = true := decide_eq_true c0
   by_cases c1 : a ≤ 4294967295
   ·have d1 : decide (a ≤ 4294967295) = true := decide_eq_true c1
    have HF := Aside0.mk (HF0.out.trans (by rw [decide_eq_true (show 0 ≤ a from c0), d1, Bool.true_and, Bool.true_and]))
    have HNN := Aside0.mk (fun W => NaNR a c0 (by omega) W)
    have hcv := conv87 a c0 (by omega)
    generalize nanB a = nb_ at HF HNN
    clear c0 c1
    go_wp2_with (first | (go_at_call 47; refine (sluiceref11_argOf.calls 20 _ _ _ HAO.out).mono ?_; rintro e wq ⟨rfl, ⟨nq, rfl⟩⟩) | (go_at_call 48; refine (HNN.out _).mono ?_; rintro e w4 ⟨rfl, ⟨n4, rfl⟩⟩))
    go_ret
    exact ⟨by rw [HF.out]; rfl, (by repeat (first | (with_reducible first | exact HB.out | apply pw_below_drewN) | exact HB.out))⟩
   have d1 : decide (a ≤ 4294967295) = false := decide_eq_false c1
   have HF := Aside0.mk (HF0.out.trans (by rw [d1, Bool.and_false, Bool.false_and]))
   clear c0 c1
   go_wp2_with (go_at_call 47; refine (sluiceref11_argOf.calls 20 _ _ _ HAO.out).mono ?_; rintro e wq ⟨rfl, ⟨nq, rfl⟩⟩)
   go_ret
   exact ⟨by rw [HF.out]; rfl, (by repeat (first | (with_reducible first | exact HB.out | apply pw_below_drewN) | exact HB.out))⟩
  have d0 : decide (a ≥ 0) = false := decide_eq_false c0
  have HF := Aside0.mk (HF0.out.trans (by rw [decide_eq_false (show ¬ 0 ≤ a from c0), Bool.false_and, Bool.false_and]))
  clear c0
  go_wp2_with (go_at_call 47; refine (sluiceref11_argOf.calls 20 _ _ _ HAO.out).mono ?_; rintro e wq ⟨rfl, ⟨nq, rfl⟩⟩)
  go_ret
  exact ⟨by rw [HF.out]; rfl, (by repeat (first | (with_reducible first | exact HB.out | apply pw_below_drewN) | exact HB.out))⟩
 ·have HF0 := Aside0.mk (HMB.out _ (show _ = (belowB a 2) from rfl))
  by_cases c0 : a < 0
  ·have d0 : decide (a < 0) = true := decide_eq_true c0
   have HF := Aside0.mk (HF0.out.trans (show _ = false by rw [show belowB a 2 = false by unfold belowB; rw [decide_eq_false (show ¬ 0 ≤ a by omega), Bool.false_and]]))
   clear c0
   go_wp2_with (go_at_call 47; refine (sluiceref11_argOf.calls 20 _ _ _ HAO.out).mono ?_; rintro e wq ⟨rfl, ⟨nq, rfl⟩⟩)
   go_ret
   exact ⟨by rw [HF.out]; rfl, (by repeat (first | (with_reducible first | exact HB.out | apply pw_below_drewN) | exact HB.out))⟩
  have d0 : decide (a < 0) = false := decide_eq_false c0
  by_cases c1 : a ≥ 2
  ·have d1 : decide (a ≥ 2) = true := decide_eq_true c1
   have d1' : decide (2 ≤ a) = true := d1
   have HF := Aside0.mk (HF0.out.trans (show _ = false by rw [show belowB a 2 = false by unfold belowB; rw [decide_eq_false (show ¬ a < 2 by omega), Bool.and_false]]))
   clear c0 c1
   go_wp2_with (go_at_call 47; refine (sluiceref11_argOf.calls 20 _ _ _ HAO.out).mono ?_; rintro e wq ⟨rfl, ⟨nq, rfl⟩⟩)
   go_ret
   exact ⟨by rw [HF.out]; rfl, (by repeat (first | (with_reducible first | exact HB.out | apply pw_below_drewN) | exact HB.out))⟩
  have d1 : decide (a ≥ 2) = false := decide_eq_false c1
  have d1' : decide (2 ≤ a) = false := d1
  have HBT := Aside0.mk (show belowB a 2 = true by unfold belowB; rw [decide_eq_true (show 0 ≤ a by omega), decide_eq_true (show a < 2 by omega)]; rfl)
  have HF := Aside0.mk (HF0.out.trans (by rw [HBT.out]))
  go_wp2_with (go_at_call 47; refine (sluiceref11_argOf.calls 20 _ _ _ HAO.out).mono ?_; rintro e wq ⟨rfl, ⟨nq, rfl⟩⟩)
  go_ret
  exact ⟨by rw [HF.out]; rfl, (by repeat (first | (with_reducible first | exact HB.out | apply pw_below_drewN) | exact HB.out))⟩
 ·have HF0 := Aside0.mk (HMB.out _ (show _ = (belowB a 32) from rfl))
  by_cases c0 : a < 0
  ·have d0 : decide (a < 0) = true := decide_eq_true c0
   have HF := Aside0.mk (HF0.out.trans (show _ = false by rw [show belowB a 32 = false by unfold belowB; rw [decide_eq_false (show ¬ 0 ≤ a by omega), Bool.false_and]]))
   clear c0
   go_wp2_with (go_at_call 47; refine (sluiceref11_argOf.calls 20 _ _ _ HAO.out).mono ?_; rintro e wq ⟨rfl, ⟨nq, rfl⟩⟩)
   go_ret
   exact ⟨by rw [HF.out]; rfl, (by repeat (first | (with_reducible first | exact HB.out | apply pw_below_drewN) | exact HB.out))⟩
  have d0 : decide (a < 0) = false := decide_eq_false c0
  by_cases c1 : a ≥ 32
  ·have d1 : decide (a ≥ 32) = true := decide_eq_true c1
   have d1' : decide (32 ≤ a) = true := d1
   have HF := Aside0.mk (HF0.out.trans (show _ = false by rw [show belowB a 32 = false by unfold belowB; rw [decide_eq_false (show ¬ a < 32 by omega), Bool.and_false]]))
   clear c0 c1
   go_wp2_with (go_at_call 47; refine (sluiceref11_argOf.calls 20 _ _ _ HAO.out).mono ?_; rintro e wq ⟨rfl, ⟨nq, rfl⟩⟩)
   go_ret
   exact ⟨by rw [HF.out]; rfl, (by repeat (first | (with_reducible first | exact HB.out | apply pw_below_drewN) | exact HB.out))⟩
  have d1 : decide (a ≥ 32) = false := decide_eq_false c1
  have d1' : decide (32 ≤ a) = false := d1
  have HBT := Aside0.mk (show belowB a 32 = true by unfold belowB; rw [decide_eq_true (show 0 ≤ a by omega), decide_eq_true (show a < 32 by omega)]; rfl)
  have HF := Aside0.mk (HF0.out.trans (by rw [HBT.out]))
  go_wp2_with (go_at_call 47; refine (sluiceref11_argOf.calls 20 _ _ _ HAO.out).mono ?_; rintro e wq ⟨rfl, ⟨nq, rfl⟩⟩)
  go_ret
  exact ⟨by rw [HF.out]; rfl, (by repeat (first | (with_reducible first | exact HB.out | apply pw_below_drewN) | exact HB.out))⟩
 ·have HF0 := Aside0.mk (HMB.out _ (show _ = (belowB a 8) from rfl))
  by_cases c0 : a < 0
  ·have d0 : decide (a < 0) = true := decide_eq_true c0
   have HF := Aside0.mk (HF0.out.trans (show _ = false by rw [show belowB a 8 = false by unfold belowB; rw [decide_eq_false (show ¬ 0 ≤ a by omega), Bool.false_and]]))
   clear c0
   go_wp2_with (go_at_call 47; refine (sluiceref11_argOf.calls 20 _ _ _ HAO.out).mono ?_; rintro e wq ⟨rfl, ⟨nq, rfl⟩⟩)
   go_ret
   exact ⟨by rw [HF.out]; rfl, (by repeat (first | (with_reducible first | exact HB.out | apply pw_below_drewN) | exact HB.out))⟩
  have d0 : decide (a < 0) = false := decide_eq_false c0
  by_cases c1 : a ≥ 8
  ·have d1 : decide (a ≥ 8) = true := decide_eq_true c1
   have d1' : decide (8 ≤ a) = true := d1
   have HF := Aside0.mk (HF0.out.trans (show _ = false by rw [show belowB a 8 = false by unfold belowB; rw [decide_eq_false (show ¬ a < 8 by omega), Bool.and_false]]))
   clear c0 c1
   go_wp2_with (go_at_call 47; refine (sluiceref11_argOf.calls 20 _ _ _ HAO.out).mono ?_; rintro e wq ⟨rfl, ⟨nq, rfl⟩⟩)
   go_ret
   exact ⟨by rw [HF.out]; rfl, (by repeat (first | (with_reducible first | exact HB.out | apply pw_below_drewN) | exact HB.out))⟩
  have d1 : decide (a ≥ 8) = false := decide_eq_false c1
  have d1' : decide (8 ≤ a) = false := d1
  have HBT := Aside0.mk (show belowB a 8 = true by unfold belowB; rw [decide_eq_true (show 0 ≤ a by omega), decide_eq_true (show a < 8 by omega)]; rfl)
  have HF := Aside0.mk (HF0.out.trans (by rw [HBT.out]))
  go_wp2_with (go_at_call 47; refine (sluiceref11_argOf.calls 20 _ _ _ HAO.out).mono ?_; rintro e wq ⟨rfl, ⟨nq, rfl⟩⟩)
  go_ret
  exact ⟨by rw [HF.out]; rfl, (by repeat (first | (with_reducible first | exact HB.out | apply pw_below_drewN) | exact HB.out))⟩
 ·have HF0 := Aside0.mk (HMB.out _ (show _ = (belowB a 8 && plainB ([s0, s1, s2, s3, s4, s5, s6, s7].getD a.toNat 0)) from rfl))
  by_cases c0 : a < 0
  ·have d0 : decide (a < 0) = true := decide_eq_true c0
   have HF := Aside0.mk (HF0.out.trans (show _ = false by rw [show belowB a 8 = false by unfold belowB; rw [decide_eq_false (show ¬ 0 ≤ a by omega), Bool.false_and]]; rfl))
   clear c0
   go_wp2_with (go_at_call 47; refine (sluiceref11_argOf.calls 20 _ _ _ HAO.out).mono ?_; rintro e wq ⟨rfl, ⟨nq, rfl⟩⟩)
   go_ret
   exact ⟨by rw [HF.out]; rfl, (by repeat (first | (with_reducible first | exact HB.out | apply pw_below_drewN) | exact HB.out))⟩
  have d0 : decide (a < 0) = false := decide_eq_false c0
  by_cases c1 : a ≥ 8
  ·have d1 : decide (a ≥ 8) = true := decide_eq_true c1
   have d1' : decide (8 ≤ a) = true := d1
   have HF := Aside0.mk (HF0.out.trans (show _ = false by rw [show belowB a 8 = false by unfold belowB; rw [decide_eq_false (show ¬ a < 8 by omega), Bool.and_false]]; rfl))
   clear c0 c1
   go_wp2_with (go_at_call 47; refine (sluiceref11_argOf.calls 20 _ _ _ HAO.out).mono ?_; rintro e wq ⟨rfl, ⟨nq, rfl⟩⟩)
   go_ret
   exact ⟨by rw [HF.out]; rfl, (by repeat (first | (with_reducible first | exact HB.out | apply pw_below_drewN) | exact HB.out))⟩
  have d1 : decide (a ≥ 8) = false := decide_eq_false c1
  have d1' : decide (8 ≤ a) = false := d1
  have HBT := Aside0.mk (show belowB a 8 = true by unfold belowB; rw [decide_eq_true (show 0 ≤ a by omega), decide_eq_true (show a < 8 by omega)]; rfl)
  obtain ⟨j, rfl⟩ : ∃ j : Nat, a = (j : Int) := ⟨a.toNat, by omega⟩
  have hj : j < 8 := by omega
  have hca := kd_cell1 HE.out j hj
  obtain ⟨v, hv⟩ : ∃ v, v = [s0, s1, s2, s3, s4, s5, s6, s7].getD j 0 := ⟨_, rfl⟩
  rw [← hv] at hca
  have HF := Aside0.mk (HF0.out.trans (by rw [HBT.out, Bool.true_and, Int.toNat_natCast, ← hv]))
  have HPL := Aside0.mk (plainQ_val v)
  have q1 : 0 ≤ (j : Int) ∧ (j : Int) < 8 := ⟨Int.natCast_nonneg j, by omega⟩
  generalize plainB v = pv at HF HPL
  clear hj hv c0 c1
  go_wp2_with (first | (go_at_call 47; refine (sluiceref11_argOf.calls 20 _ _ _ HAO.out).mono ?_; rintro e wq ⟨rfl, ⟨nq, rfl⟩⟩) | (go_at_call 24; refine (sluiceref11_plain.calls v _ _ HPL.out).mono ?_; rintro e w4 ⟨rfl, ⟨n4, rfl⟩⟩))
  go_ret
  exact ⟨by rw [HF.out]; rfl, (by repeat (first | (with_reducible first | exact HB.out | apply pw_below_drewN) | exact HB.out))⟩
 ·have HF0 := Aside0.mk (HMB.out _ (show _ = (belowB a 8 && plainB ([g0, g1, g2, g3, g4, g5, g6, g7].getD a.toNat 0)) from rfl))
  by_cases c0 : a < 0
  ·have d0 : decide (a < 0) = true := decide_eq_true c0
   have HF := Aside0.mk (HF0.out.trans (show _ = false by rw [show belowB a 8 = false by unfold belowB; rw [decide_eq_false (show ¬ 0 ≤ a by omega), Bool.false_and]]; rfl))
   clear c0
   go_wp2_with (go_at_call 47; refine (sluiceref11_argOf.calls 20 _ _ _ HAO.out).mono ?_; rintro e wq ⟨rfl, ⟨nq, rfl⟩⟩)
   go_ret
   exact ⟨by rw [HF.out]; rfl, (by repeat (first | (with_reducible first | exact HB.out | apply pw_below_drewN) | exact HB.out))⟩
  have d0 : decide (a < 0) = false := decide_eq_false c0
  by_cases c1 : a ≥ 8
  ·have d1 : decide (a ≥ 8) = true := decide_eq_true c1
   have d1' : decide (8 ≤ a) = true := d1
   have HF := Aside0.mk (HF0.out.trans (show _ = false by rw [show belowB a 8 = false by unfold belowB; rw [decide_eq_false (show ¬ a < 8 by omega), Bool.and_false]]; rfl))
   clear c0 c1
   go_wp2_with (go_at_call 47; refine (sluiceref11_argOf.calls 20 _ _ _ HAO.out).mono ?_; rintro e wq ⟨rfl, ⟨nq, rfl⟩⟩)
   go_ret
   exact ⟨by rw [HF.out]; rfl, (by repeat (first | (with_reducible first | exact HB.out | apply pw_below_drewN) | exact HB.out))⟩
  have d1 : decide (a ≥ 8) = false := decide_eq_false c1
  have d1' : decide (8 ≤ a) = false := d1
  have HBT := Aside0.mk (show belowB a 8 = true by unfold belowB; rw [decide_eq_true (show 0 ≤ a by omega), decide_eq_true (show a < 8 by omega)]; rfl)
  obtain ⟨j, rfl⟩ : ∃ j : Nat, a = (j : Int) := ⟨a.toNat, by omega⟩
  have hj : j < 8 := by omega
  have hca := kd_cell2 HE.out j hj
  obtain ⟨v, hv⟩ : ∃ v, v = [g0, g1, g2, g3, g4, g5, g6, g7].getD j 0 := ⟨_, rfl⟩
  rw [← hv] at hca
  have HF := Aside0.mk (HF0.out.trans (by rw [HBT.out, Bool.true_and, Int.toNat_natCast, ← hv]))
  have HPL := Aside0.mk (plainQ_val v)
  have q1 : 0 ≤ (j : Int) ∧ (j : Int) < 8 := ⟨Int.natCast_nonneg j, by omega⟩
  generalize plainB v = pv at HF HPL
  clear hj hv c0 c1
  go_wp2_with (first | (go_at_call 47; refine (sluiceref11_argOf.calls 20 _ _ _ HAO.out).mono ?_; rintro e wq ⟨rfl, ⟨nq, rfl⟩⟩) | (go_at_call 24; refine (sluiceref11_plain.calls v _ _ HPL.out).mono ?_; rintro e w4 ⟨rfl, ⟨n4, rfl⟩⟩))
  go_ret
  exact ⟨by rw [HF.out]; rfl, (by repeat (first | (with_reducible first | exact HB.out | apply pw_below_drewN) | exact HB.out))⟩
 ·have HF0 := Aside0.mk (HMB.out _ (show _ = (belowB a 4 && plainB ([t0, t1, t2, t3].getD a.toNat 0)) from rfl))
  by_cases c0 : a < 0
  ·have d0 : decide (a < 0) = true := decide_eq_true c0
   have HF := Aside0.mk (HF0.out.trans (show _ = false by rw [show belowB a 4 = false by unfold belowB; rw [decide_eq_false (show ¬ 0 ≤ a by omega), Bool.false_and]]; rfl))
   clear c0
   go_wp2_with (go_at_call 47; refine (sluiceref11_argOf.calls 20 _ _ _ HAO.out).mono ?_; rintro e wq ⟨rfl, ⟨nq, rfl⟩⟩)
   go_ret
   exact ⟨by rw [HF.out]; rfl, (by repeat (first | (with_reducible first | exact HB.out | apply pw_below_drewN) | exact HB.out))⟩
  have d0 : decide (a < 0) = false := decide_eq_false c0
  by_cases c1 : a ≥ 4
  ·have d1 : decide (a ≥ 4) = true := decide_eq_true c1
   have d1' : decide (4 ≤ a) = true := d1
   have HF := Aside0.mk (HF0.out.trans (show _ = false by rw [show belowB a 4 = false by unfold belowB; rw [decide_eq_false (show ¬ a < 4 by omega), Bool.and_false]]; rfl))
   clear c0 c1
   go_wp2_with (go_at_call 47; refine (sluiceref11_argOf.calls 20 _ _ _ HAO.out).mono ?_; rintro e wq ⟨rfl, ⟨nq, rfl⟩⟩)
   go_ret
   exact ⟨by rw [HF.out]; rfl, (by repeat (first | (with_reducible first | exact HB.out | apply pw_below_drewN) | exact HB.out))⟩
  have d1 : decide (a ≥ 4) = false := decide_eq_false c1
  have d1' : decide (4 ≤ a) = false := d1
  have HBT := Aside0.mk (show belowB a 4 = true by unfold belowB; rw [decide_eq_true (show 0 ≤ a by omega), decide_eq_true (show a < 4 by omega)]; rfl)
  obtain ⟨j, rfl⟩ : ∃ j : Nat, a = (j : Int) := ⟨a.toNat, by omega⟩
  have hj : j < 4 := by omega
  have hca := kd_cell3 HE.out j hj
  obtain ⟨v, hv⟩ : ∃ v, v = [t0, t1, t2, t3].getD j 0 := ⟨_, rfl⟩
  rw [← hv] at hca
  have HF := Aside0.mk (HF0.out.trans (by rw [HBT.out, Bool.true_and, Int.toNat_natCast, ← hv]))
  have HPL := Aside0.mk (plainQ_val v)
  have q1 : 0 ≤ (j : Int) ∧ (j : Int) < 4 := ⟨Int.natCast_nonneg j, by omega⟩
  generalize plainB v = pv at HF HPL
  clear hj hv c0 c1
  go_wp2_with (first | (go_at_call 47; refine (sluiceref11_argOf.calls 20 _ _ _ HAO.out).mono ?_; rintro e wq ⟨rfl, ⟨nq, rfl⟩⟩) | (go_at_call 24; refine (sluiceref11_plain.calls v _ _ HPL.out).mono ?_; rintro e w4 ⟨rfl, ⟨n4, rfl⟩⟩))
  go_ret
  exact ⟨by rw [HF.out]; rfl, (by repeat (first | (with_reducible first | exact HB.out | apply pw_below_drewN) | exact HB.out))⟩
 ·have HF0 := Aside0.mk (HMB.out _ (show _ = (decide (0 ≤ (runP [s0, s1, s2, s3, s4, s5, s6, s7]).1) && (a == (runP [s0, s1, s2, s3, s4, s5, s6, s7]).1)) from rfl))
  have he1 : _ = some (Value.int .i64 s0) := blk_cell HE.out 1
  have he2 : _ = some (Value.int .i64 s1) := blk_cell HE.out 2
  have he3 : _ = some (Value.int .i64 s2) := blk_cell HE.out 3
  have he4 : _ = some (Value.int .i64 s3) := blk_cell HE.out 4
  have he5 : _ = some (Value.int .i64 s4) := blk_cell HE.out 5
  have he6 : _ = some (Value.int .i64 s5) := blk_cell HE.out 6
  have he7 : _ = some (Value.int .i64 s6) := blk_cell HE.out 7
  have he8 : _ = some (Value.int .i64 s7) := blk_cell HE.out 8
  have HPS := Aside0.mk (runQR s0 s1 s2 s3 s4 s5 s6 s7)
  obtain ⟨ru, hru⟩ : ∃ ru, (runP [s0, s1, s2, s3, s4, s5, s6, s7]).1 = ru := ⟨_, rfl⟩
  rw [hru, HWS.out] at HPS
  rw [hru] at HF0
  by_cases c0 : ru ≥ 0
  ·have d0 : decide (ru ≥ 0) = true := decide_eq_true c0
   have HF := Aside0.mk (HF0.out.trans (by rw [decide_eq_true (show 0 ≤ ru from c0), Bool.true_and]))
   clear c0
   go_wp2_with (first | (go_at_call 47; refine (sluiceref11_argOf.calls 20 _ _ _ HAO.out).mono ?_; rintro e wq ⟨rfl, ⟨nq, rfl⟩⟩) | (go_at_call 25; refine (HPS.out _).mono ?_; rintro e w4 ⟨r_, rfl, hr_, hb⟩; have hr2 := hr_ (by first | exact trivial | rfl); subst hr2; have n0_ := Aside0.mk (HBQ.out _ _ hb); clear HB hb hr_; have HB := n0_; clear n0_))
   go_ret
   exact ⟨by rw [HF.out]; rfl, HB.out⟩
  have d0 : decide (ru ≥ 0) = false := decide_eq_false c0
  have HF := Aside0.mk (HF0.out.trans (by rw [decide_eq_false (show ¬ 0 ≤ ru from c0), Bool.false_and]))
  clear c0
  go_wp2_with (first | (go_at_call 47; refine (sluiceref11_argOf.calls 20 _ _ _ HAO.out).mono ?_; rintro e wq ⟨rfl, ⟨nq, rfl⟩⟩) | (go_at_call 25; refine (HPS.out _).mono ?_; rintro e w4 ⟨r_, rfl, hr_, hb⟩; have hr2 := hr_ (by first | exact trivial | rfl); subst hr2; have n0_ := Aside0.mk (HBQ.out _ _ hb); clear HB hb hr_; have HB := n0_; clear n0_))
  go_ret
  exact ⟨by rw [HF.out]; rfl, HB.out⟩
 ·have HF0 := Aside0.mk (HMB.out _ (show _ = (decide (0 ≤ (runP [g0, g1, g2, g3, g4, g5, g6, g7]).1) && (a == (runP [g0, g1, g2, g3, g4, g5, g6, g7]).1)) from rfl))
  have he9 : _ = some (Value.int .i64 g0) := blk_cell HE.out 9
  have he10 : _ = some (Value.int .i64 g1) := blk_cell HE.out 10
  have he11 : _ = some (Value.int .i64 g2) := blk_cell HE.out 11
  have he12 : _ = some (Value.int .i64 g3) := blk_cell HE.out 12
  have he13 : _ = some (Value.int .i64 g4) := blk_cell HE.out 13
  have he14 : _ = some (Value.int .i64 g5) := blk_cell HE.out 14
  have he15 : _ = some (Value.int .i64 g6) := blk_cell HE.out 15
  have he16 : _ = some (Value.int .i64 g7) := blk_cell HE.out 16
  have HPS := Aside0.mk (runQR g0 g1 g2 g3 g4 g5 g6 g7)
  obtain ⟨ru, hru⟩ : ∃ ru, (runP [g0, g1, g2, g3, g4, g5, g6, g7]).1 = ru := ⟨_, rfl⟩
  rw [hru, HWG.out] at HPS
  rw [hru] at HF0
  by_cases c0 : ru ≥ 0
  ·have d0 : decide (ru ≥ 0) = true := decide_eq_true c0
   have HF := Aside0.mk (HF0.out.trans (by rw [decide_eq_true (show 0 ≤ ru from c0), Bool.true_and]))
   clear c0
   go_wp2_with (first | (go_at_call 47; refine (sluiceref11_argOf.calls 20 _ _ _ HAO.out).mono ?_; rintro e wq ⟨rfl, ⟨nq, rfl⟩⟩) | (go_at_call 25; refine (HPS.out _).mono ?_; rintro e w4 ⟨r_, rfl, hr_, hb⟩; have hr2 := hr_ (by first | exact trivial | rfl); subst hr2; have n0_ := Aside0.mk (HBQ.out _ _ hb); clear HB hb hr_; have HB := n0_; clear n0_))
   go_ret
   exact ⟨by rw [HF.out]; rfl, HB.out⟩
  have d0 : decide (ru ≥ 0) = false := decide_eq_false c0
  have HF := Aside0.mk (HF0.out.trans (by rw [decide_eq_false (show ¬ 0 ≤ ru from c0), Bool.false_and]))
  clear c0
  go_wp2_with (first | (go_at_call 47; refine (sluiceref11_argOf.calls 20 _ _ _ HAO.out).mono ?_; rintro e wq ⟨rfl, ⟨nq, rfl⟩⟩) | (go_at_call 25; refine (HPS.out _).mono ?_; rintro e w4 ⟨r_, rfl, hr_, hb⟩; have hr2 := hr_ (by first | exact trivial | rfl); subst hr2; have n0_ := Aside0.mk (HBQ.out _ _ hb); clear HB hb hr_; have HB := n0_; clear n0_))
  go_ret
  exact ⟨by rw [HF.out]; rfl, HB.out⟩
 ·have HF0 := Aside0.mk (HMB.out _ (show _ = (belowB a (n : Int)) from rfl))
  by_cases c0 : a < 0
  ·have d0 : decide (a < 0) = true := decide_eq_true c0
   have HF := Aside0.mk (HF0.out.trans (show _ = false by rw [show belowB a (n : Int) = false by unfold belowB; rw [decide_eq_false (show ¬ 0 ≤ a by omega), Bool.false_and]]))
   clear c0
   go_wp2_with (go_at_call 47; refine (sluiceref11_argOf.calls 20 _ _ _ HAO.out).mono ?_; rintro e wq ⟨rfl, ⟨nq, rfl⟩⟩)
   go_ret
   exact ⟨by rw [HF.out]; rfl, (by repeat (first | (with_reducible first | exact HB.out | apply pw_below_drewN) | exact HB.out))⟩
  have d0 : decide (a < 0) = false := decide_eq_false c0
  by_cases c1 : a ≥ (n : Int)
  ·have d1 : decide (a ≥ (n : Int)) = true := decide_eq_true c1
   have d1' : decide ((n : Int) ≤ a) = true := d1
   have HF := Aside0.mk (HF0.out.trans (show _ = false by rw [show belowB a (n : Int) = false by unfold belowB; rw [decide_eq_false (show ¬ a < (n : Int) by omega), Bool.and_false]]))
   clear c0 c1
   go_wp2_with (go_at_call 47; refine (sluiceref11_argOf.calls 20 _ _ _ HAO.out).mono ?_; rintro e wq ⟨rfl, ⟨nq, rfl⟩⟩)
   go_ret
   exact ⟨by rw [HF.out]; rfl, (by repeat (first | (with_reducible first | exact HB.out | apply pw_below_drewN) | exact HB.out))⟩
  have d1 : decide (a ≥ (n : Int)) = false := decide_eq_false c1
  have d1' : decide ((n : Int) ≤ a) = false := d1
  have HBT := Aside0.mk (show belowB a (n : Int) = true by unfold belowB; rw [decide_eq_true (show 0 ≤ a by omega), decide_eq_true (show a < (n : Int) by omega)]; rfl)
  have HF := Aside0.mk (HF0.out.trans (by rw [HBT.out]))
  go_wp2_with (go_at_call 47; refine (sluiceref11_argOf.calls 20 _ _ _ HAO.out).mono ?_; rintro e wq ⟨rfl, ⟨nq, rfl⟩⟩)
  go_ret
  exact ⟨by rw [HF.out]; rfl, (by repeat (first | (with_reducible first | exact HB.out | apply pw_below_drewN) | exact HB.out))⟩
 have HF0 := Aside0.mk (HMB.out _ (show _ = (belowB a 64) from rfl))
 by_cases c0 : a < 0
 ·have d0 : decide (a < 0) = true := decide_eq_true c0
  have HF := Aside0.mk (HF0.out.trans (show _ = false by rw [show belowB a 64 = false by unfold belowB; rw [decide_eq_false (show ¬ 0 ≤ a by omega), Bool.false_and]]))
  clear c0
  go_wp2_with (go_at_call 47; refine (sluiceref11_argOf.calls 20 _ _ _ HAO.out).mono ?_; rintro e wq ⟨rfl, ⟨nq, rfl⟩⟩)
  go_ret
  exact ⟨by rw [HF.out]; rfl, (by repeat (first | (with_reducible first | exact HB.out | apply pw_below_drewN) | exact HB.out))⟩
 have d0 : decide (a < 0) = false := decide_eq_false c0
 by_cases c1 : a ≥ 64
 ·have d1 : decide (a ≥ 64) = true := decide_eq_true c1
  have d1' : decide (64 ≤ a) = true := d1
  have HF := Aside0.mk (HF0.out.trans (show _ = false by rw [show belowB a 64 = false by unfold belowB; rw [decide_eq_false (show ¬ a < 64 by omega), Bool.and_false]]))
  clear c0 c1
  go_wp2_with (go_at_call 47; refine (sluiceref11_argOf.calls 20 _ _ _ HAO.out).mono ?_; rintro e wq ⟨rfl, ⟨nq, rfl⟩⟩)
  go_ret
  exact ⟨by rw [HF.out]; rfl, (by repeat (first | (with_reducible first | exact HB.out | apply pw_below_drewN) | exact HB.out))⟩
 have d1 : decide (a ≥ 64) = false := decide_eq_false c1
 have d1' : decide (64 ≤ a) = false := d1
 have HBT := Aside0.mk (show belowB a 64 = true by unfold belowB; rw [decide_eq_true (show 0 ≤ a by omega), decide_eq_true (show a < 64 by omega)]; rfl)
 have HF := Aside0.mk (HF0.out.trans (by rw [HBT.out]))
 go_wp2_with (go_at_call 47; refine (sluiceref11_argOf.calls 20 _ _ _ HAO.out).mono ?_; rintro e wq ⟨rfl, ⟨nq, rfl⟩⟩)
 go_ret
 exact ⟨by rw [HF.out]; rfl, (by repeat (first | (with_reducible first | exact HB.out | apply pw_below_drewN) | exact HB.out))⟩
end MayQ
end Go.Proofs.Ytcpcpmojallcdaa.QLoomChecks
