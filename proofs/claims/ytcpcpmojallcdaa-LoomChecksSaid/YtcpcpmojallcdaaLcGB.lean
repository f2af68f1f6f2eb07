/- LoomChecks: Flows Side Apart. Conditions: as each theorem says. -/
import Derived.Test.YtcpcpmojallcdaaLcQ
import Derived.Test.YtcpcpmojallcdaaLcGA
namespace Go.Proofs.Ytcpcpmojallcdaa.QLoomChecks
open Go.RowKit Go.Proofs.YtcpcpmojallcdaaW.PrintWords Go.Proofs.YtcpcpmojallcdaaW.PrintLast Go.Proofs.YtcpcpmojallcdaaW.PrintMore
set_option linter.unusedVariables false
set_option linter.unusedSimpArgs false
section Flows
def flowsB (words : Int) (st : List Int) (run at_ m msg : Int) : Bool :=
 if m = 0 then decide (at_ = 0) else if m < 0 ∨ 9 < m ∨ at_ < 0 ∨ words ≤ at_ ∨ msg = 0 then false else if m = 9 then decide (at_ = run) && decide (msg = 2) else !(st.getD at_.toNat 0 == 4)
theorem st_cell {w : World} {b : Nat} {words s0 s1 s2 s3 s4 s5 s6 s7 g0 g1 g2 g3 g4 g5 g6 g7 t0 t1 t2 t3 ma mb sa na sb nb : Int} {both : Bool} {h0 h1 h2 h3 h4 : Value} (h : w.heap[b]? = some (.cells #[.int .i64 words, .int .i64 s0, .int .i64 s1, .int .i64 s2, .int .i64 s3, .int .i64 s4, .int .i64 s5, .int .i64 s6, .int .i64 s7, .int .i64 g0, .int .i64 g1, .int .i64 g2, .int .i64 g3, .int .i64 g4, .int .i64 g5, .int .i64 g6, .int .i64 g7, .int .i64 t0, .int .i64 t1, .int .i64 t2, .int .i64 t3, .int .i64 ma, .int .i64 mb, .int .i64 sa, .int .i64 na, .int .i64 sb, .int .i64 nb, .bool both, h0, h1, h2, h3, h4] 31 (0, 0))) (i : Nat) (hi : i < 8) : w.cell? ⟨b, 1 + i, none⟩ = some (.int .i64 ([s0, s1, s2, s3, s4, s5, s6, s7].getD i 0)) := by
 rw [blk_cell h (1 + i)]
 have : i = 0 ∨ i = 1 ∨ i = 2 ∨ i = 3 ∨ i = 4 ∨ i = 5 ∨ i = 6 ∨ i = 7 := by omega
 rcases this with rfl | rfl | rfl | rfl | rfl | rfl | rfl | rfl <;> rfl
set_option maxHeartbeats 8000000 in
set_option maxRecDepth 100000 in
theorem flowsR (words s0 s1 s2 s3 s4 s5 s6 s7 g0 g1 g2 g3 g4 g5 g6 g7 t0 t1 t2 t3 ma mb sa na sb nb : Int) (both : Bool) (h0 h1 h2 h3 h4 : Value) (b : Nat) (run at_ m msg : Int) (w : World) (hb : w.heap[b]? = some (.cells #[.int .i64 words, .int .i64 s0, .int .i64 s1, .int .i64 s2, .int .i64 s3, .int .i64 s4, .int .i64 s5, .int .i64 s6, .int .i64 s7, .int .i64 g0, .int .i64 g1, .int .i64 g2, .int .i64 g3, .int .i64 g4, .int .i64 g5, .int .i64 g6, .int .i64 g7, .int .i64 t0, .int .i64 t1, .int .i64 t2, .int .i64 t3, .int .i64 ma, .int .i64 mb, .int .i64 sa, .int .i64 na, .int .i64 sb, .int .i64 nb, .bool both, h0, h1, h2, h3, h4] 31 (0, 0))) (hw : words ≤ 8) :
  Calls Try.prog 17 #[.pointer (some ⟨b, 0, none⟩), .int .i64 run, .int .i64 at_, .int .i64 m, .int .i64 msg] w fun e w' => e = .returned (.bool (flowsB words [s0, s1, s2, s3, s4, s5, s6, s7] run at_ m msg)) ∧ w' = w := by
 have HE := Aside0.mk hb
 have HB := Aside0.mk (Below.refl w.heap.size w)
 have he0 : w.cell? ⟨b, 0, none⟩ = some (.int .i64 words) := blk_cell hb 0
 obtain ⟨L, hL⟩ : ∃ L, L = [s0, s1, s2, s3, s4, s5, s6, s7] := ⟨_, rfl⟩
 rw [← hL]
 have HL := Aside0.mk hL
 clear hL hb
 obtain ⟨r, hr⟩ : ∃ r, r = flowsB words L run at_ m msg := ⟨_, rfl⟩
 rw [← hr]
 have HR := Aside0.mk hr
 clear hr
 go_enter Try.func17, Try.ntmps17
 by_cases c0 : m = 0
 ·have d0 : (m == 0) = true := beq_iff_eq.mpr c0
  have HF := Aside0.mk (show flowsB words L run at_ m msg = decide (at_ = 0) from if_pos c0)
  clear c0 hw
  go_wp2
  go_ret
  exact ⟨by rw [HR.out, HF.out]; rfl, rfl⟩
 have d0 : (m == 0) = false := beq_eq_false_iff_ne.mpr c0
 have HF0 := Aside0.mk (show flowsB words L run at_ m msg = if m < 0 ∨ 9 < m ∨ at_ < 0 ∨ words ≤ at_ ∨ msg = 0 then false else if m = 9 then decide (at_ = run) && decide (msg = 2) else !(L.getD at_.toNat 0 == 4) from if_neg c0)
 by_cases c1 : m < 0 ∨ 9 < m ∨ at_ < 0 ∨ words ≤ at_ ∨ msg = 0
 ·have HF := Aside0.mk (HF0.out.trans (if_pos c1))
  have e0 : m < 0 ∨ (¬ m < 0 ∧ m > 9) ∨ (¬ m < 0 ∧ ¬ m > 9 ∧ at_ < 0) ∨ (¬ m < 0 ∧ ¬ m > 9 ∧ ¬ at_ < 0 ∧ words ≤ at_) ∨ (¬ m < 0 ∧ ¬ m > 9 ∧ ¬ at_ < 0 ∧ ¬ words ≤ at_ ∧ msg = 0) := by omega
  clear c0 c1 hw
  rcases e0 with e1 | ⟨e1, e2⟩ | ⟨e1, e2, e3⟩ | ⟨e1, e2, e3, e4⟩ | ⟨e1, e2, e3, e4, e5⟩
  ·have f1 : decide (m < 0) = true := decide_eq_true e1
   clear e1
   go_wp2
   go_ret
   exact ⟨by (rw [HR.out, HF.out]; rfl), rfl⟩
  ·have f1 : decide (m < 0) = false := decide_eq_false e1
   have f2 : decide (m > 9) = true := decide_eq_true e2
   clear e1 e2
   go_wp2
   go_ret
   exact ⟨by (rw [HR.out, HF.out]; rfl), rfl⟩
  ·have f1 : decide (m < 0) = false := decide_eq_false e1
   have f2 : decide (m > 9) = false := decide_eq_false e2
   have f3 : decide (at_ < 0) = true := decide_eq_true e3
   clear e1 e2 e3
   go_wp2
   go_ret
   exact ⟨by (rw [HR.out, HF.out]; rfl), rfl⟩
  ·have f1 : decide (m < 0) = false := decide_eq_false e1
   have f2 : decide (m > 9) = false := decide_eq_false e2
   have f3 : decide (at_ < 0) = false := decide_eq_false e3
   have f4 : decide (words ≤ at_) = true := decide_eq_true e4
   clear e1 e2 e3 e4
   go_wp2
   go_ret
   exact ⟨by (rw [HR.out, HF.out]; rfl), rfl⟩
  have f1 : decide (m < 0) = false := decide_eq_false e1
  have f2 : decide (m > 9) = false := decide_eq_false e2
  have f3 : decide (at_ < 0) = false := decide_eq_false e3
  have f4 : decide (words ≤ at_) = false := decide_eq_false e4
  have f5 : (msg == 0) = true := beq_iff_eq.mpr e5
  clear e1 e2 e3 e4 e5
  go_wp2
  go_ret
  exact ⟨by (rw [HR.out, HF.out]; rfl), rfl⟩
 have HF1 := Aside0.mk (HF0.out.trans (if_neg c1))
 have f1 : decide (m < 0) = false := decide_eq_false (by omega)
 have f2 : decide (m > 9) = false := decide_eq_false (by omega)
 have f3 : decide (at_ < 0) = false := decide_eq_false (by omega)
 have f4 : decide (words ≤ at_) = false := decide_eq_false (by omega)
 have f5 : (msg == 0) = false := beq_eq_false_iff_ne.mpr (by omega)
 obtain ⟨j, rfl⟩ : ∃ j : Nat, at_ = (j : Int) := ⟨at_.toNat, by omega⟩
 have hj : j < 8 := by omega
 by_cases c6 : m = 9
 ·have f6 : (m == 9) = true := beq_iff_eq.mpr c6
  have HF := Aside0.mk (HF1.out.trans (if_pos c6))
  clear c0 c1 c6 hw
  by_cases c7 : (j : Int) = run
  ·have f7 : ((j : Int) == run) = true := beq_iff_eq.mpr c7
   have HF2 := Aside0.mk (HF.out.trans (by rw [decide_eq_true c7, Bool.true_and]))
   clear c7
   go_wp2
   go_ret
   exact ⟨by rw [HR.out, HF2.out]; rfl, rfl⟩
  have f7 : ((j : Int) == run) = false := beq_eq_false_iff_ne.mpr c7
  have HF2 := Aside0.mk (HF.out.trans (by rw [decide_eq_false c7, Bool.false_and]))
  clear c7
  go_wp2
  go_ret
  exact ⟨by (rw [HR.out, HF2.out]; rfl), rfl⟩
 have f6 : (m == 9) = false := beq_eq_false_iff_ne.mpr c6
 have HF := Aside0.mk (HF1.out.trans (if_neg c6))
 have hc := st_cell HE.out j hj
 rw [← HL.out] at hc
 obtain ⟨v, hv⟩ : ∃ v, v = L.getD j 0 := ⟨_, rfl⟩
 rw [← hv] at hc
 have HV := Aside0.mk hv
 clear c0 c1 c6 hw hv
 have q1 := eq_true hj
 have q2 := eq_true (show 0 ≤ (j : Int) by omega)
 have q3 := eq_true (show (j : Int) < 8 by omega)
 clear hj
 go_wp2
 go_ret
 exact ⟨by rw [HR.out, HF.out, Int.toNat_natCast, ← HV.out]; first | rfl | (simp; done), rfl⟩
end Flows
section Side
set_option maxHeartbeats 8000000 in
set_option maxRecDepth 100000 in
theorem sideR (words s0 s1 s2 s3 s4 s5 s6 s7 g0 g1 g2 g3 g4 g5 g6 g7 t0 t1 t2 t3 ma mb sa na sb nb : Int) (both : Bool) (h0 h1 h2 h3 h4 : Value) (run at_ m msg : Int) (w : World) (hw : words ≤ 8) :
  Calls Try.prog 26 #[.agg #[.int .i64 words, .int .i64 s0, .int .i64 s1, .int .i64 s2, .int .i64 s3, .int .i64 s4, .int .i64 s5, .int .i64 s6, .int .i64 s7, .int .i64 g0, .int .i64 g1, .int .i64 g2, .int .i64 g3, .int .i64 g4, .int .i64 g5, .int .i64 g6, .int .i64 g7, .int .i64 t0, .int .i64 t1, .int .i64 t2, .int .i64 t3, .int .i64 ma, .int .i64 mb, .int .i64 sa, .int .i64 na, .int .i64 sb, .int .i64 nb, .bool both, h0, h1, h2, h3, h4], .int .i64 run, .int .i64 at_, .int .i64 m, .int .i64 msg] w fun e w' => e = .returned (.bool (flowsB words [s0, s1, s2, s3, s4, s5, s6, s7] run at_ m msg)) ∧ Below w.heap.size w w' := by
 have HE := Aside0.mk (heap_alloc_new w (.cells #[.int .i64 words, .int .i64 s0, .int .i64 s1, .int .i64 s2, .int .i64 s3, .int .i64 s4, .int .i64 s5, .int .i64 s6, .int .i64 s7, .int .i64 g0, .int .i64 g1, .int .i64 g2, .int .i64 g3, .int .i64 g4, .int .i64 g5, .int .i64 g6, .int .i64 g7, .int .i64 t0, .int .i64 t1, .int .i64 t2, .int .i64 t3, .int .i64 ma, .int .i64 mb, .int .i64 sa, .int .i64 na, .int .i64 sb, .int .i64 nb, .bool both, h0, h1, h2, h3, h4] 31 (0, 0)))
 have HB := Aside0.mk (below_alloc (Below.refl w.heap.size w) (.cells #[.int .i64 words, .int .i64 s0, .int .i64 s1, .int .i64 s2, .int .i64 s3, .int .i64 s4, .int .i64 s5, .int .i64 s6, .int .i64 s7, .int .i64 g0, .int .i64 g1, .int .i64 g2, .int .i64 g3, .int .i64 g4, .int .i64 g5, .int .i64 g6, .int .i64 g7, .int .i64 t0, .int .i64 t1, .int .i64 t2, .int .i64 t3, .int .i64 ma, .int .i64 mb, .int .i64 sa, .int .i64 na, .int .i64 sb, .int .i64 nb, .bool both, h0, h1, h2, h3, h4] 31 (0, 0)))
 have he0 : (w.alloc (.cells #[.int .i64 words, .int .i64 s0, .int .i64 s1, .int .i64 s2, .int .i64 s3, .int .i64 s4, .int .i64 s5, .int .i64 s6, .int .i64 s7, .int .i64 g0, .int .i64 g1, .int .i64 g2, .int .i64 g3, .int .i64 g4, .int .i64 g5, .int .i64 g6, .int .i64 g7, .int .i64 t0, .int .i64 t1, .int .i64 t2, .int .i64 t3, .int .i64 ma, .int .i64 mb, .int .i64 sa, .int .i64 na, .int .i64 sb, .int .i64 nb, .bool both, h0, h1, h2, h3, h4] 31 (0, 0))).cell? ⟨w.heap.size, 0, none⟩ = some (.int .i64 words) := blk_cell HE.out 0
 obtain ⟨L, hL⟩ : ∃ L, L = [s0, s1, s2, s3, s4, s5, s6, s7] := ⟨_, rfl⟩
 rw [← hL]
 have HL := Aside0.mk hL
 clear hL
 obtain ⟨r, hr⟩ : ∃ r, r = flowsB words L run at_ m msg := ⟨_, rfl⟩
 rw [← hr]
 have HR := Aside0.mk hr
 clear hr
 go_enter Try.func26, Try.ntmps26
 by_cases c0 : m = 0
 ·have d0 : (m == 0) = true := beq_iff_eq.mpr c0
  have HF := Aside0.mk (show flowsB words L run at_ m msg = decide (at_ = 0) from if_pos c0)
  clear c0 hw
  go_wp2
  go_ret
  exact ⟨by rw [HR.out, HF.out]; rfl, HB.out⟩
 have d0 : (m == 0) = false := beq_eq_false_iff_ne.mpr c0
 have HF0 := Aside0.mk (show flowsB words L run at_ m msg = if m < 0 ∨ 9 < m ∨ at_ < 0 ∨ words ≤ at_ ∨ msg = 0 then false else if m = 9 then decide (at_ = run) && decide (msg = 2) else !(L.getD at_.toNat 0 == 4) from if_neg c0)
 by_cases c1 : m < 0 ∨ 9 < m ∨ at_ < 0 ∨ words ≤ at_ ∨ msg = 0
 ·have HF := Aside0.mk (HF0.out.trans (if_pos c1))
  have e0 : m < 0 ∨ (¬ m < 0 ∧ m > 9) ∨ (¬ m < 0 ∧ ¬ m > 9 ∧ msg = 0) ∨ (¬ m < 0 ∧ ¬ m > 9 ∧ ¬ msg = 0 ∧ at_ < 0) ∨ (¬ m < 0 ∧ ¬ m > 9 ∧ ¬ msg = 0 ∧ ¬ at_ < 0 ∧ words ≤ at_) := by omega
  clear c0 c1 hw
  rcases e0 with e1 | ⟨e1, e2⟩ | ⟨e1, e2, e3⟩ | ⟨e1, e2, e3, e4⟩ | ⟨e1, e2, e3, e4, e5⟩
  ·have f1 : decide (m < 0) = true := decide_eq_true e1
   clear e1
   go_wp2
   go_ret
   exact ⟨by (rw [HR.out, HF.out]; rfl), HB.out⟩
  ·have f1 : decide (m < 0) = false := decide_eq_false e1
   have f2 : decide (m > 9) = true := decide_eq_true e2
   clear e1 e2
   go_wp2
   go_ret
   exact ⟨by (rw [HR.out, HF.out]; rfl), HB.out⟩
  ·have f1 : decide (m < 0) = false := decide_eq_false e1
   have f2 : decide (m > 9) = false := decide_eq_false e2
   have f3 : (msg == 0) = true := beq_iff_eq.mpr e3
   clear e1 e2 e3
   go_wp2
   go_ret
   exact ⟨by (rw [HR.out, HF.out]; rfl), HB.out⟩
  ·have f1 : decide (m < 0) = false := decide_eq_false e1
   have f2 : decide (m > 9) = false := decide_eq_false e2
   have f3 : (msg == 0) = false := beq_eq_false_iff_ne.mpr e3
   have f4 : decide (at_ < 0) = true := decide_eq_true e4
   clear e1 e2 e3 e4
   go_wp2
   go_ret
   exact ⟨by (rw [HR.out, HF.out]; rfl), HB.out⟩
  have f1 : decide (m < 0) = false := decide_eq_false e1
  have f2 : decide (m > 9) = false := decide_eq_false e2
  have f3 : (msg == 0) = false := beq_eq_false_iff_ne.mpr e3
  have f4 : decide (at_ < 0) = false := decide_eq_false e4
  have f5 : decide (words ≤ at_) = true := decide_eq_true e5
  clear e1 e2 e3 e4 e5
  go_wp2
  go_ret
  exact ⟨by (rw [HR.out, HF.out]; rfl), HB.out⟩
 have HF1 := Aside0.mk (HF0.out.trans (if_neg c1))
 have f1 : decide (m < 0) = false := decide_eq_false (by omega)
 have f2 : decide (m > 9) = false := decide_eq_false (by omega)
 have f3 : decide (at_ < 0) = false := decide_eq_false (by omega)
 have f4 : decide (words ≤ at_) = false := decide_eq_false (by omega)
 have f5 : (msg == 0) = false := beq_eq_false_iff_ne.mpr (by omega)
 obtain ⟨j, rfl⟩ : ∃ j : Nat, at_ = (j : Int) := ⟨at_.toNat, by omega⟩
 have hj : j < 8 := by omega
 by_cases c6 : m = 9
 ·have f6 : (m == 9) = true := beq_iff_eq.mpr c6
  have HF := Aside0.mk (HF1.out.trans (if_pos c6))
  clear c0 c1 c6 hw
  by_cases c7 : (j : Int) = run
  ·have f8 : decide (run ≥ 0) = true := decide_eq_true (by omega)
   have f9 : decide (0 ≤ run) = true := decide_eq_true (by omega)
   have f7 : ((j : Int) == run) = true := beq_iff_eq.mpr c7
   have HF2 := Aside0.mk (HF.out.trans (by rw [decide_eq_true c7, Bool.true_and]))
   clear c7
   go_wp2
   go_ret
   exact ⟨by rw [HR.out, HF2.out]; rfl, HB.out⟩
  have f7 : ((j : Int) == run) = false := beq_eq_false_iff_ne.mpr c7
  have HF2 := Aside0.mk (HF.out.trans (by rw [decide_eq_false c7, Bool.false_and]))
  by_cases c8 : run ≥ 0
  ·have f8 : decide (run ≥ 0) = true := decide_eq_true c8
   clear c7 c8
   go_wp2
   go_ret
   exact ⟨by (rw [HR.out, HF2.out]; rfl), HB.out⟩
  have f8 : decide (run ≥ 0) = false := decide_eq_false c8
  clear c7 c8
  go_wp2
  go_ret
  exact ⟨by (rw [HR.out, HF2.out]; rfl), HB.out⟩
 have f6 : (m == 9) = false := beq_eq_false_iff_ne.mpr c6
 have HF := Aside0.mk (HF1.out.trans (if_neg c6))
 have hc := st_cell HE.out j hj
 rw [← HL.out] at hc
 obtain ⟨v, hv⟩ : ∃ v, v = L.getD j 0 := ⟨_, rfl⟩
 rw [← hv] at hc
 have HV := Aside0.mk hv
 clear c0 c1 c6 hw hv
 have q1 := eq_true hj
 have q2 := eq_true (show 0 ≤ (j : Int) by omega)
 have q3 := eq_true (show (j : Int) < 8 by omega)
 clear hj
 go_wp2
 go_ret
 exact ⟨by rw [HR.out, HF.out, Int.toNat_natCast, ← HV.out]; first | rfl | (simp; done), HB.out⟩
end Side
section Apart
def widthB (m : Int) : Int := if m = 9 then 6 else 1
set_option maxHeartbeats 8000000 in
set_option maxRecDepth 100000 in
theorem widthR (m : Int) (w : World) : Calls Try.prog 35 #[.int .i64 m] w fun e w' => e = .returned (.int .i64 (widthB m)) ∧ w' = w := by
 go_enter Try.func35, Try.ntmps35
 by_cases c : m = 9
 ·have d : (m == 9) = true := beq_iff_eq.mpr c
  have HF := Aside0.mk (show widthB m = 6 from if_pos c)
  clear c
  go_wp2
  go_ret
  exact ⟨by (rw [HF.out]; rfl), rfl⟩
 have d : (m == 9) = false := beq_eq_false_iff_ne.mpr c
 have HF := Aside0.mk (show widthB m = 1 from if_neg c)
 clear c
 go_wp2
 go_ret
 exact ⟨by (rw [HF.out]; rfl), rfl⟩
def apartB (sa na sb nb : Int) : Bool := decide (wrap64 (sa + widthB na) ≤ sb) || decide (wrap64 (sb + widthB nb) ≤ sa)
set_option maxHeartbeats 8000000 in
set_option maxRecDepth 100000 in
theorem apartR (sa na sb nb : Int) (w : World) :
  Calls Try.prog 18 #[.agg #[.int .i64 sa, .int .i64 na, .int .i64 sb, .int .i64 nb]] w fun e w' => e = .returned (.bool (apartB sa na sb nb)) ∧ Below w.heap.size w w' := by
 have HE := Aside0.mk (heap_alloc_new w (.cells #[.int .i64 sa, .int .i64 na, .int .i64 sb, .int .i64 nb] 27))
 have HB := Aside0.mk (below_alloc (Below.refl w.heap.size w) (.cells #[.int .i64 sa, .int .i64 na, .int .i64 sb, .int .i64 nb] 27))
 have he0 := blk_cell HE.out 0
 have he1 := blk_cell HE.out 1
 have he2 := blk_cell HE.out 2
 have he3 := blk_cell HE.out 3
 obtain ⟨r, hr⟩ : ∃ r, r = apartB sa na sb nb := ⟨_, rfl⟩
 rw [← hr]
 have HR := Aside0.mk hr
 clear hr
 obtain ⟨wa, hwa⟩ : ∃ x, x = widthB na := ⟨_, rfl⟩
 obtain ⟨wb, hwb⟩ : ∃ x, x = widthB nb := ⟨_, rfl⟩
 have HWA := Aside0.mk (show ∀ W, Calls Try.prog 35 #[.int .i64 na] W fun e w' => e = .returned (.int .i64 wa) ∧ w' = W from fun W => by rw [hwa]; exact widthR na W)
 have HWB := Aside0.mk (show ∀ W, Calls Try.prog 35 #[.int .i64 nb] W fun e w' => e = .returned (.int .i64 wb) ∧ w' = W from fun W => by rw [hwb]; exact widthR nb W)
 have HA := Aside0.mk hwa
 have HBW := Aside0.mk hwb
 clear hwa hwb
 go_enter Try.func18, Try.ntmps18
 go_upto_region 2 with (fail)
 by_cases c1 : wrap64 (sa + wa) ≤ sb
 ·have d1 : decide (wrap64 (sa + wa) ≤ sb) = true := decide_eq_true c1
  have HF := Aside0.mk (show r = true by rw [HR.out, apartB, ← HA.out, d1, Bool.true_or])
  clear c1
  go_quiet (first | (go_at_call 35; exact Calls.quiet_of_same (HWA.out _)) | (go_at_call 35; exact Calls.quiet_of_same (HWB.out _)))
  go_wp2
  go_ret
  exact ⟨by (rw [HF.out]; rfl), pw_below_drewN HB.out _⟩
 have d1 : decide (wrap64 (sa + wa) ≤ sb) = false := decide_eq_false c1
 have HF := Aside0.mk (show r = decide (wrap64 (sb + wb) ≤ sa) by rw [HR.out, apartB, ← HA.out, ← HBW.out, d1, Bool.false_or])
 clear c1
 go_quiet (first | (go_at_call 35; exact Calls.quiet_of_same (HWA.out _)) | (go_at_call 35; exact Calls.quiet_of_same (HWB.out _)))
 go_wp2
 go_ret
 exact ⟨by (rw [HF.out]; rfl), pw_below_drewN HB.out _⟩
end Apart
end Go.Proofs.Ytcpcpmojallcdaa.QLoomChecks
