/- LoomChecks: Heads. Conditions: as each theorem says. -/
import Derived.BigQuiet
import Derived.Test.YtcpcpmojallcdaaLcQ
import Derived.Test.YtcpcpmojallcdaaLcGB
namespace Go.Proofs.Ytcpcpmojallcdaa.QLoomChecks
open Go.RowKit Go.Proofs.YtcpcpmojallcdaaW.PrintWords Go.Proofs.YtcpcpmojallcdaaW.PrintLast Go.Proofs.YtcpcpmojallcdaaW.PrintMore
set_option linter.unusedVariables false
set_option linter.unusedSimpArgs false
section Heads
def stOK (words : Int) (st : List Int) (i : Nat) : Bool := if (i : Int) < words then decide (1 ≤ st.getD i 0) && decide (st.getD i 0 ≤ 4) else decide (st.getD i 0 = 0)
def agOK (ag : List Int) (i : Nat) : Bool := decide (0 ≤ ag.getD i 0) && decide (ag.getD i 0 ≤ 4)
def ctOK (ct : List Int) (i : Nat) : Bool := decide (ct.getD i 0 = 0) || plainB (ct.getD i 0)
/-- What stands ahead of the handlers may be. -/
def headsB (words : Int) (st ag ct : List Int) (ma mb sa na sb nb : Int) : Bool :=
 (decide (1 ≤ words) && decide (words ≤ 8)) && ((List.range 8).all (stOK words st) && ((List.range 8).all (agOK ag) && ((List.range 4).all (ctOK ct) && (((runP st).2 && ((runP ag).2 && (plainB ma && (decide (mb = 0) || plainB mb)))) && ((flowsB words st (runP st).1 sa na ma && flowsB words st (runP st).1 sb nb mb) && (decide (na = 0) || (decide (nb = 0) || apartB sa na sb nb)))))))
theorem all_bad {n i : Nat} {f : Nat → Bool} (hi : i < n) (h : f i = false) : (List.range n).all f = false := by
 cases hh : (List.range n).all f
 ·rfl
 have := List.all_eq_true.1 hh i (List.mem_range.2 hi)
 rw [h] at this
 cases this
theorem all_good {n : Nat} {f : Nat → Bool} (h : ∀ i, i < n → f i = true) : (List.range n).all f = true := List.all_eq_true.2 (fun i hi => h i (List.mem_range.1 hi))
theorem plainK_val (v : Int) : loom_plainKind.f v = some (plainB v) := by
 unfold loom_plainKind.f plainB
 by_cases h : v ≥ 1
 ·rw [if_pos h, decide_eq_true (show 1 ≤ v from h), Bool.true_and]
 rw [if_neg h, decide_eq_false (show ¬ 1 ≤ v from h), Bool.false_and]
theorem index24 (t0 t1 t2 t3 : Int) (W : World) (i : Nat) (hi : i < 4) : (Instr.index 24 (.agg #[.int .i64 t0, .int .i64 t1, .int .i64 t2, .int .i64 t3]) (.int .i64 (i : Int))).run Try.prog W = .ok (.int .i64 ([t0, t1, t2, t3].getD i 0)) W := by
 have hp : (part 22 #[.int .i64 t0, .int .i64 t1, .int .i64 t2, .int .i64 t3] (i * 1)).run Try.prog W = .ok (.int .i64 ([t0, t1, t2, t3].getD i 0)) W := by
  refine run_part_plain W (by kernel_rfl) ?_
  rw [Nat.mul_one]
  have : i = 0 ∨ i = 1 ∨ i = 2 ∨ i = 3 := by omega
  rcases this with rfl | rfl | rfl | rfl <;> rfl
 simp only [Instr.index, asIntOf, Sem.run_bind, run_underlying Try.underlying24, Result.andThen_ok, Sem.run_pure]
 rw [if_pos (by omega)]
 simp only [Sem.run_bind, size22, Result.andThen_ok, Int.toNat_natCast]
 exact hp
set_option maxHeartbeats 8000000 in
set_option maxRecDepth 100000 in
theorem headsR (words s0 s1 s2 s3 s4 s5 s6 s7 g0 g1 g2 g3 g4 g5 g6 g7 t0 t1 t2 t3 ma mb sa na sb nb : Int) (both : Bool) (h0 h1 h2 h3 h4 : Value) (b : Nat) (w : World) (hb : w.heap[b]? = some (.cells #[.int .i64 words, .int .i64 s0, .int .i64 s1, .int .i64 s2, .int .i64 s3, .int .i64 s4, .int .i64 s5, .int .i64 s6, .int .i64 s7, .int .i64 g0, .int .i64 g1, .int .i64 g2, .int .i64 g3, .int .i64 g4, .int .i64 g5, .int .i64 g6, .int .i64 g7, .int .i64 t0, .int .i64 t1, .int .i64 t2, .int .i64 t3, .int .i64 ma, .int .i64 mb, .int .i64 sa, .int .i64 na, .int .i64 sb, .int .i64 nb, .bool both, h0, h1, h2, h3, h4] 31 (0, 0))) :
  Calls Try.prog 10 #[.pointer (some ⟨b, 0, none⟩)] w fun e w' => e = .returned (.bool (headsB words [s0, s1, s2, s3, s4, s5, s6, s7] [g0, g1, g2, g3, g4, g5, g6, g7] [t0, t1, t2, t3] ma mb sa na sb nb)) ∧ Below w.heap.size w w' := by
 have HE := Aside0.mk hb
 have HB := Aside0.mk (Below.refl w.heap.size w)
 have he0 : w.cell? ⟨b, 0, none⟩ = some (Value.int .i64 words) := blk_cell hb 0
 have he1 : w.cell? ⟨b, 1, none⟩ = some (Value.int .i64 s0) := blk_cell hb 1
 have he2 : w.cell? ⟨b, 2, none⟩ = some (Value.int .i64 s1) := blk_cell hb 2
 have he3 : w.cell? ⟨b, 3, none⟩ = some (Value.int .i64 s2) := blk_cell hb 3
 have he4 : w.cell? ⟨b, 4, none⟩ = some (Value.int .i64 s3) := blk_cell hb 4
 have he5 : w.cell? ⟨b, 5, none⟩ = some (Value.int .i64 s4) := blk_cell hb 5
 have he6 : w.cell? ⟨b, 6, none⟩ = some (Value.int .i64 s5) := blk_cell hb 6
 have he7 : w.cell? ⟨b, 7, none⟩ = some (Value.int .i64 s6) := blk_cell hb 7
 have he8 : w.cell? ⟨b, 8, none⟩ = some (Value.int .i64 s7) := blk_cell hb 8
 have he9 : w.cell? ⟨b, 9, none⟩ = some (Value.int .i64 g0) := blk_cell hb 9
 have he10 : w.cell? ⟨b, 10, none⟩ = some (Value.int .i64 g1) := blk_cell hb 10
 have he11 : w.cell? ⟨b, 11, none⟩ = some (Value.int .i64 g2) := blk_cell hb 11
 have he12 : w.cell? ⟨b, 12, none⟩ = some (Value.int .i64 g3) := blk_cell hb 12
 have he13 : w.cell? ⟨b, 13, none⟩ = some (Value.int .i64 g4) := blk_cell hb 13
 have he14 : w.cell? ⟨b, 14, none⟩ = some (Value.int .i64 g5) := blk_cell hb 14
 have he15 : w.cell? ⟨b, 15, none⟩ = some (Value.int .i64 g6) := blk_cell hb 15
 have he16 : w.cell? ⟨b, 16, none⟩ = some (Value.int .i64 g7) := blk_cell hb 16
 have he17 : w.cell? ⟨b, 17, none⟩ = some (Value.int .i64 t0) := blk_cell hb 17
 have he18 : w.cell? ⟨b, 18, none⟩ = some (Value.int .i64 t1) := blk_cell hb 18
 have he19 : w.cell? ⟨b, 19, none⟩ = some (Value.int .i64 t2) := blk_cell hb 19
 have he20 : w.cell? ⟨b, 20, none⟩ = some (Value.int .i64 t3) := blk_cell hb 20
 have he21 : w.cell? ⟨b, 21, none⟩ = some (Value.int .i64 ma) := blk_cell hb 21
 have he22 : w.cell? ⟨b, 22, none⟩ = some (Value.int .i64 mb) := blk_cell hb 22
 have he23 : w.cell? ⟨b, 23, none⟩ = some (Value.int .i64 sa) := blk_cell hb 23
 have he24 : w.cell? ⟨b, 24, none⟩ = some (Value.int .i64 na) := blk_cell hb 24
 have he25 : w.cell? ⟨b, 25, none⟩ = some (Value.int .i64 sb) := blk_cell hb 25
 have he26 : w.cell? ⟨b, 26, none⟩ = some (Value.int .i64 nb) := blk_cell hb 26
 have he27 : w.cell? ⟨b, 27, none⟩ = some (Value.bool both) := blk_cell hb 27
 obtain ⟨r, hr⟩ : ∃ r, r = headsB words [s0, s1, s2, s3, s4, s5, s6, s7] [g0, g1, g2, g3, g4, g5, g6, g7] [t0, t1, t2, t3] ma mb sa na sb nb := ⟨_, rfl⟩
 rw [← hr]
 have HR := Aside0.mk hr
 clear hr hb
 go_enter Try.func10, Try.ntmps10
 by_cases w1 : words < 1
 ·have f1 : decide (words < 1) = true := decide_eq_true w1
  have HF := Aside0.mk (show r = false by rw [HR.out, headsB, decide_eq_false (show ¬ 1 ≤ words by omega)]; rfl)
  clear w1
  go_wp2
  go_ret
  exact ⟨by (rw [HF.out]; rfl), HB.out⟩
 by_cases w2 : words > 8
 ·have f1 : decide (words < 1) = false := decide_eq_false w1
  have f2 : decide (words > 8) = true := decide_eq_true w2
  have HF := Aside0.mk (show r = false by rw [HR.out, headsB, decide_eq_false (show ¬ words ≤ 8 by omega), Bool.and_false]; rfl)
  clear w1 w2
  go_wp2
  go_ret
  exact ⟨by (rw [HF.out]; rfl), HB.out⟩
 have f1 : decide (words < 1) = false := decide_eq_false w1
 have f2 : decide (words > 8) = false := decide_eq_false w2
 have HWD := Aside0.mk (show 1 ≤ words ∧ words ≤ 8 by omega)
 have HR1 := Aside0.mk (show r = ((List.range 8).all (stOK words [s0, s1, s2, s3, s4, s5, s6, s7]) && ((List.range 8).all (agOK [g0, g1, g2, g3, g4, g5, g6, g7]) && ((List.range 4).all (ctOK [t0, t1, t2, t3]) && (((runP [s0, s1, s2, s3, s4, s5, s6, s7]).2 && ((runP [g0, g1, g2, g3, g4, g5, g6, g7]).2 && (plainB ma && (decide (mb = 0) || plainB mb)))) && ((flowsB words [s0, s1, s2, s3, s4, s5, s6, s7] (runP [s0, s1, s2, s3, s4, s5, s6, s7]).1 sa na ma && flowsB words [s0, s1, s2, s3, s4, s5, s6, s7] (runP [s0, s1, s2, s3, s4, s5, s6, s7]).1 sb nb mb) && (decide (na = 0) || (decide (nb = 0) || apartB sa na sb nb))))))) by rw [HR.out, headsB, decide_eq_true HWD.out.1, decide_eq_true HWD.out.2]; rfl)
 clear w1 w2
 go_wp2
 clear f1 f2
 go_loopg [30] 8 (fun kq v30 w' => ∃ i : Nat, v30 = .int .i64 (i : Int) ∧ Aside0 (kq + i = 8) ∧ Aside0 (∀ j, j < i → stOK words [s0, s1, s2, s3, s4, s5, s6, s7] j = true) ∧ w' = w)
 case atStart => exact ⟨0, rfl, ⟨rfl⟩, ⟨fun j hj => by omega⟩, rfl⟩
 case round =>
  obtain ⟨i, rfl, HI, HQ, rfl⟩ := hrel
  by_cases h1 : i < 8
  ·have c1 : decide ((i : Int) < 8) = true := decide_eq_true (by omega)
   have H1 := Aside0.mk h1
   have hix := fun W => index23 s0 s1 s2 s3 s4 s5 s6 s7 W i H1.out
   have hok : stOK words [s0, s1, s2, s3, s4, s5, s6, s7] i = if (i : Int) < words then decide (1 ≤ [s0, s1, s2, s3, s4, s5, s6, s7].getD i 0) && decide ([s0, s1, s2, s3, s4, s5, s6, s7].getD i 0 ≤ 4) else decide ([s0, s1, s2, s3, s4, s5, s6, s7].getD i 0 = 0) := rfl
   obtain ⟨v, hv⟩ : ∃ v, v = [s0, s1, s2, s3, s4, s5, s6, s7].getD i 0 := ⟨_, rfl⟩
   rw [← hv] at hix hok
   have HOK := Aside0.mk hok
   have hwr : wrap64 ((i : Int) + 1) = ((i + 1 : Nat) : Int) := by
    unfold wrap64
    omega
   have HWR := Aside0.mk hwr
   clear hv hok hwr h1
   obtain ⟨k1_, rfl⟩ : ∃ k1_, gk = k1_ + 1 := ⟨gk - 1, by have := HI.out; have := H1.out; omega⟩
   by_cases ha : (i : Int) < words
   ·have ca : decide ((i : Int) < words) = true := decide_eq_true ha
    have ca2 : decide (words ≤ (i : Int)) = false := decide_eq_false (by omega)
    have HK0 := Aside0.mk (HOK.out.trans (if_pos ha))
    clear ha
    by_cases hb1 : v < 1
    ·have cb : decide (v < 1) = true := decide_eq_true hb1
     have HF := Aside0.mk (show r = false by rw [HR1.out, all_bad H1.out (HK0.out.trans (by rw [decide_eq_false (show ¬ 1 ≤ v by omega), Bool.false_and])), Bool.false_and])
     clear hb1
     go_wp2
     go_ret
     exact ⟨by (rw [HF.out]; rfl), HB.out⟩
    have cb : decide (v < 1) = false := decide_eq_false hb1
    by_cases hb2 : v > 4
    ·have cc : decide (v > 4) = true := decide_eq_true hb2
     have HF := Aside0.mk (show r = false by rw [HR1.out, all_bad H1.out (HK0.out.trans (by rw [decide_eq_false (show ¬ v ≤ 4 by omega), Bool.and_false])), Bool.false_and])
     clear hb1 hb2
     go_wp2
     go_ret
     exact ⟨by (rw [HF.out]; rfl), HB.out⟩
    have cc : decide (v > 4) = false := decide_eq_false hb2
    have HT := Aside0.mk (HK0.out.trans (by rw [decide_eq_true (show 1 ≤ v by omega), decide_eq_true (show v ≤ 4 by omega), Bool.true_and]))
    clear hb1 hb2
    go_wp2
    rw [HWR.out]
    go_roundg k1_
    case measure => omega
    case rel => exact ⟨i + 1, rfl, ⟨by have := HI.out; omega⟩, ⟨fun j hj => by
     by_cases e : j = i
     ·subst e
      exact HT.out
     exact HQ.out j (by omega)⟩, rfl⟩
   have ca : decide ((i : Int) < words) = false := decide_eq_false ha
   have ca2 : decide (words ≤ (i : Int)) = true := decide_eq_true (by omega)
   have HK0 := Aside0.mk (HOK.out.trans (if_neg ha))
   clear ha
   by_cases hb1 : v = 0
   ·have cb : (v != 0) = false := bne_eq_false_iff_eq.mpr hb1
    have cb2 : (v == 0) = true := beq_iff_eq.mpr hb1
    have HT := Aside0.mk (HK0.out.trans (decide_eq_true hb1))
    clear hb1
    go_wp2
    rw [HWR.out]
    go_roundg k1_
    case measure => omega
    case rel => exact ⟨i + 1, rfl, ⟨by have := HI.out; omega⟩, ⟨fun j hj => by
     by_cases e : j = i
     ·subst e
      exact HT.out
     exact HQ.out j (by omega)⟩, rfl⟩
   have cb : (v != 0) = true := bne_iff_ne.mpr hb1
   have cb2 : (v == 0) = false := beq_eq_false_iff_ne.mpr hb1
   have HF := Aside0.mk (show r = false by rw [HR1.out, all_bad H1.out (HK0.out.trans (decide_eq_false hb1)), Bool.false_and])
   clear hb1
   go_wp2
   go_ret
   exact ⟨by (rw [HF.out]; rfl), HB.out⟩
  have c1 : decide ((i : Int) < 8) = false := decide_eq_false (by omega)
  obtain rfl : i = 8 := by have := HI.out; omega
  have HR2 := Aside0.mk (HR1.out.trans (by rw [all_good HQ.out, Bool.true_and]))
  clear h1 HI HQ
  go_wp2
  clear c1
  go_loopg [65] 8 (fun kq v65 w' => ∃ i : Nat, v65 = .int .i64 (i : Int) ∧ Aside0 (kq + i = 8) ∧ Aside0 (∀ j, j < i → agOK [g0, g1, g2, g3, g4, g5, g6, g7] j = true) ∧ w' = wr)
  case atStart => exact ⟨0, rfl, ⟨rfl⟩, ⟨fun j hj => by omega⟩, rfl⟩
  case round =>
   obtain ⟨i, rfl, HI, HQ, rfl⟩ := hrel
   by_cases h1 : i < 8
   ·have c1 : decide ((i : Int) < 8) = true := decide_eq_true (by omega)
    have hix := fun W => index23 g0 g1 g2 g3 g4 g5 g6 g7 W i h1
    have H1 := Aside0.mk h1
    have hok : agOK [g0, g1, g2, g3, g4, g5, g6, g7] i = (decide (0 ≤ [g0, g1, g2, g3, g4, g5, g6, g7].getD i 0) && decide ([g0, g1, g2, g3, g4, g5, g6, g7].getD i 0 ≤ 4)) := rfl
    obtain ⟨v, hv⟩ : ∃ v, v = [g0, g1, g2, g3, g4, g5, g6, g7].getD i 0 := ⟨_, rfl⟩
    rw [← hv] at hix hok
    have HOK := Aside0.mk hok
    have hwr : wrap64 ((i : Int) + 1) = ((i + 1 : Nat) : Int) := by
     unfold wrap64
     omega
    have HWR := Aside0.mk hwr
    clear hv hok hwr h1
    obtain ⟨k1_, rfl⟩ : ∃ k1_, gk = k1_ + 1 := ⟨gk - 1, by have := HI.out; have := H1.out; omega⟩
    by_cases hb1 : v < 0
    ·have cb : decide (v < 0) = true := decide_eq_true hb1
     have HF := Aside0.mk (show r = false by rw [HR2.out, all_bad H1.out (HOK.out.trans (by rw [decide_eq_false (show ¬ 0 ≤ v by omega), Bool.false_and])), Bool.false_and])
     clear hb1
     go_wp2
     go_ret
     exact ⟨by (rw [HF.out]; rfl), HB.out⟩
    have cb : decide (v < 0) = false := decide_eq_false hb1
    by_cases hb2 : v > 4
    ·have cc : decide (v > 4) = true := decide_eq_true hb2
     have HF := Aside0.mk (show r = false by rw [HR2.out, all_bad H1.out (HOK.out.trans (by rw [decide_eq_false (show ¬ v ≤ 4 by omega), Bool.and_false])), Bool.false_and])
     clear hb1 hb2
     go_wp2
     go_ret
     exact ⟨by (rw [HF.out]; rfl), HB.out⟩
    have cc : decide (v > 4) = false := decide_eq_false hb2
    have HT := Aside0.mk (HOK.out.trans (by rw [decide_eq_true (show 0 ≤ v by omega), decide_eq_true (show v ≤ 4 by omega), Bool.true_and]))
    clear hb1 hb2
    go_wp2
    rw [HWR.out]
    go_roundg k1_
    case measure => omega
    case rel => exact ⟨i + 1, rfl, ⟨by have := HI.out; omega⟩, ⟨fun j hj => by
     by_cases e : j = i
     ·subst e
      exact HT.out
     exact HQ.out j (by omega)⟩, rfl⟩
   have c1 : decide ((i : Int) < 8) = false := decide_eq_false (by omega)
   obtain rfl : i = 8 := by have := HI.out; omega
   have HR3 := Aside0.mk (HR2.out.trans (by rw [all_good HQ.out, Bool.true_and]))
   clear h1 HI HQ
   go_wp2
   clear c1
   go_loopg [79] 4 (fun kq v79 w' => ∃ i : Nat, v79 = .int .i64 (i : Int) ∧ Aside0 (kq + i = 4) ∧ Aside0 (∀ j, j < i → ctOK [t0, t1, t2, t3] j = true) ∧ Aside0 (∃ n, w' = wr.drewN n))
   case atStart => exact ⟨0, rfl, ⟨rfl⟩, ⟨fun j hj => by omega⟩, ⟨⟨0, rfl⟩⟩⟩
   case round =>
    obtain ⟨i, rfl, HI, HQ, ⟨nd0, rfl⟩⟩ := hrel
    by_cases h1 : i < 4
    ·have c1 : decide ((i : Int) < 4) = true := decide_eq_true (by omega)
     have hix := fun W => index24 t0 t1 t2 t3 W i h1
     have H1 := Aside0.mk h1
     have hok : ctOK [t0, t1, t2, t3] i = (decide ([t0, t1, t2, t3].getD i 0 = 0) || plainB ([t0, t1, t2, t3].getD i 0)) := rfl
     obtain ⟨v, hv⟩ : ∃ v, v = [t0, t1, t2, t3].getD i 0 := ⟨_, rfl⟩
     rw [← hv] at hix hok
     have HOK := Aside0.mk hok
     have hwr : wrap64 ((i : Int) + 1) = ((i + 1 : Nat) : Int) := by
      unfold wrap64
      omega
     have HWR := Aside0.mk hwr
     clear hv hok hwr h1
     obtain ⟨k1_, rfl⟩ : ∃ k1_, gk = k1_ + 1 := ⟨gk - 1, by have := HI.out; have := H1.out; omega⟩
     by_cases hb1 : v = 0
     ·have cb : (v != 0) = false := bne_eq_false_iff_eq.mpr hb1
      have cb2 : (v == 0) = true := beq_iff_eq.mpr hb1
      have HT := Aside0.mk (HOK.out.trans (by rw [decide_eq_true hb1, Bool.true_or]))
      clear hb1
      go_wp2
      rw [HWR.out]
      go_roundg k1_
      case measure => omega
      case rel => exact ⟨i + 1, rfl, ⟨by have := HI.out; omega⟩, ⟨fun j hj => by
       by_cases e : j = i
       ·subst e
        exact HT.out
       exact HQ.out j (by omega)⟩, ⟨⟨_, rfl⟩⟩⟩
     have cb : (v != 0) = true := bne_iff_ne.mpr hb1
     have cb2 : (v == 0) = false := beq_eq_false_iff_ne.mpr hb1
     have HK0 := Aside0.mk (HOK.out.trans (by rw [decide_eq_false hb1, Bool.false_or]))
     clear hb1
     rcases hp : plainB v with _ | _
     ·have HF := Aside0.mk (show r = false by rw [HR3.out, all_bad H1.out (HK0.out.trans hp), Bool.false_and])
      have HP := Aside0.mk ((plainK_val v).trans (congrArg some hp))
      clear hp
      go_wp2_with (go_at_call 15; refine (loom_plainKind.calls v false _ HP.out).mono ?_; rintro e wp ⟨rfl, ⟨nd1, rfl⟩⟩)
      go_ret
      exact ⟨by (rw [HF.out]; rfl), by repeat (first | (with_reducible first | exact HB.out | apply below_alloc | apply pw_below_drewN | apply below_drew1) | exact HB.out)⟩
     have HT := Aside0.mk (HK0.out.trans hp)
     have HP := Aside0.mk ((plainK_val v).trans (congrArg some hp))
     clear hp
     go_wp2_with (go_at_call 15; refine (loom_plainKind.calls v true _ HP.out).mono ?_; rintro e wp ⟨rfl, ⟨nd1, rfl⟩⟩)
     rw [HWR.out]
     go_roundg k1_
     case measure => omega
     case rel => exact ⟨i + 1, rfl, ⟨by have := HI.out; omega⟩, ⟨fun j hj => by
      by_cases e : j = i
      ·subst e
       exact HT.out
      exact HQ.out j (by omega)⟩, ⟨⟨_, rfl⟩⟩⟩
    have c1 : decide ((i : Int) < 4) = false := decide_eq_false (by omega)
    obtain rfl : i = 4 := by have := HI.out; omega
    have HR4 := Aside0.mk (HR3.out.trans (by rw [all_good HQ.out, Bool.true_and]))
    clear h1 HI HQ
    obtain ⟨ru, we, hrp⟩ : ∃ x y, runP [s0, s1, s2, s3, s4, s5, s6, s7] = (x, y) := ⟨(runP [s0, s1, s2, s3, s4, s5, s6, s7]).1, (runP [s0, s1, s2, s3, s4, s5, s6, s7]).2, Prod.ext rfl rfl⟩
    obtain ⟨rg, fi, hrg⟩ : ∃ x y, runP [g0, g1, g2, g3, g4, g5, g6, g7] = (x, y) := ⟨(runP [g0, g1, g2, g3, g4, g5, g6, g7]).1, (runP [g0, g1, g2, g3, g4, g5, g6, g7]).2, Prod.ext rfl rfl⟩
    have HR5 := Aside0.mk (HR4.out.trans (by rw [hrp, hrg]))
    have HPS := Aside0.mk (show ∀ W, Calls Try.prog 16 #[.agg #[.int .i64 s0, .int .i64 s1, .int .i64 s2, .int .i64 s3, .int .i64 s4, .int .i64 s5, .int .i64 s6, .int .i64 s7]] W fun e w' => e = .returned (.tuple #[.int .i64 ru, .bool we]) ∧ Below W.heap.size W w' from fun W => by have h := runPR s0 s1 s2 s3 s4 s5 s6 s7 W; rw [hrp] at h; exact h)
    have HPG := Aside0.mk (show ∀ W, Calls Try.prog 16 #[.agg #[.int .i64 g0, .int .i64 g1, .int .i64 g2, .int .i64 g3, .int .i64 g4, .int .i64 g5, .int .i64 g6, .int .i64 g7]] W fun e w' => e = .returned (.tuple #[.int .i64 rg, .bool fi]) ∧ Below W.heap.size W w' from fun W => by have h := runPR g0 g1 g2 g3 g4 g5 g6 g7 W; rw [hrg] at h; exact h)
    clear hrp hrg HR HR1 HR2 HR3 HR4
    go_upto_region 22 with (go_at_call 16; refine (HPS.out _).mono ?_; rintro e w1 ⟨rfl, hb⟩; have n0_ := Aside0.mk (below_step (pw_below_drewN HB.out nd0) hb); have n1_ := Aside0.mk (blk_below (show (wr.drewN nd0).heap[b]? = _ from HE.out) hb); clear HB HE hb; have HB := n0_; have HE := n1_; clear n0_ n1_)
    clear he0 he1 he2 he3 he4 he5 he6 he7 he8 he9 he10 he11 he12 he13 he14 he15 he16 he17 he18 he19 he20 he21 he22 he23 he24 he25 he26 he27
    have he9 : _ = some (Value.int .i64 g0 : Value) := blk_cell HE.out 9
    have he10 : _ = some (Value.int .i64 g1 : Value) := blk_cell HE.out 10
    have he11 : _ = some (Value.int .i64 g2 : Value) := blk_cell HE.out 11
    have he12 : _ = some (Value.int .i64 g3 : Value) := blk_cell HE.out 12
    have he13 : _ = some (Value.int .i64 g4 : Value) := blk_cell HE.out 13
    have he14 : _ = some (Value.int .i64 g5 : Value) := blk_cell HE.out 14
    have he15 : _ = some (Value.int .i64 g6 : Value) := blk_cell HE.out 15
    have he16 : _ = some (Value.int .i64 g7 : Value) := blk_cell HE.out 16
    have he21 : _ = some (Value.int .i64 ma : Value) := blk_cell HE.out 21
    have he22 : _ = some (Value.int .i64 mb : Value) := blk_cell HE.out 22
    have he23 : _ = some (Value.int .i64 sa : Value) := blk_cell HE.out 23
    have he24 : _ = some (Value.int .i64 na : Value) := blk_cell HE.out 24
    have he25 : _ = some (Value.int .i64 sb : Value) := blk_cell HE.out 25
    have he26 : _ = some (Value.int .i64 nb : Value) := blk_cell HE.out 26
    go_upto_region 23 with (go_at_call 16; refine (HPG.out _).mono ?_; rintro e w2 ⟨rfl, hb⟩; have n0_ := Aside0.mk (below_step HB.out hb); have n1_ := Aside0.mk (blk_below HE.out hb); clear HB HE hb; have HB := n0_; have HE := n1_; clear n0_ n1_)
    clear he9 he10 he11 he12 he13 he14 he15 he16 he21 he22 he23 he24 he25 he26
    have he21 : _ = some (Value.int .i64 ma : Value) := blk_cell HE.out 21
    have he22 : _ = some (Value.int .i64 mb : Value) := blk_cell HE.out 22
    have he23 : _ = some (Value.int .i64 sa : Value) := blk_cell HE.out 23
    have he24 : _ = some (Value.int .i64 na : Value) := blk_cell HE.out 24
    have he25 : _ = some (Value.int .i64 sb : Value) := blk_cell HE.out 25
    have he26 : _ = some (Value.int .i64 nb : Value) := blk_cell HE.out 26
    clear HPS HPG
    obtain ⟨pm, hpm⟩ : ∃ x, x = plainB ma := ⟨_, rfl⟩
    obtain ⟨pb, hpb⟩ : ∃ x, x = plainB mb := ⟨_, rfl⟩
    have HPM := Aside0.mk (show loom_plainKind.f ma = some pm by rw [hpm]; exact plainK_val ma)
    have HPB := Aside0.mk (show loom_plainKind.f mb = some pb by rw [hpb]; exact plainK_val mb)
    have HR6 := Aside0.mk (HR5.out.trans (by rw [← hpm, ← hpb]))
    clear hpm hpb HR5
    rcases we with _ | _
    ·have HF := Aside0.mk (show r = false by rw [HR6.out]; simp only [Bool.false_and])
     go_wp2_with (first | (go_at_call 15; refine (loom_plainKind.calls ma _ _ HPM.out).mono ?_; rintro e wp ⟨rfl, ⟨nd1, rfl⟩⟩) | (go_at_call 15; refine (loom_plainKind.calls mb _ _ HPB.out).mono ?_; rintro e wp ⟨rfl, ⟨nd2, rfl⟩⟩))
     go_ret
     exact ⟨by (rw [HF.out]; rfl), by repeat (first | (with_reducible first | exact HB.out | apply below_alloc | apply pw_below_drewN | apply below_drew1) | exact HB.out)⟩
    rcases fi with _ | _
    ·have HF := Aside0.mk (show r = false by rw [HR6.out]; simp only [Bool.false_and, Bool.and_false])
     go_wp2_with (first | (go_at_call 15; refine (loom_plainKind.calls ma _ _ HPM.out).mono ?_; rintro e wp ⟨rfl, ⟨nd1, rfl⟩⟩) | (go_at_call 15; refine (loom_plainKind.calls mb _ _ HPB.out).mono ?_; rintro e wp ⟨rfl, ⟨nd2, rfl⟩⟩))
     go_ret
     exact ⟨by (rw [HF.out]; rfl), by repeat (first | (with_reducible first | exact HB.out | apply below_alloc | apply pw_below_drewN | apply below_drew1) | exact HB.out)⟩
    rcases pm with _ | _
    ·have HF := Aside0.mk (show r = false by rw [HR6.out]; simp only [Bool.false_and, Bool.and_false])
     go_wp2_with (first | (go_at_call 15; refine (loom_plainKind.calls ma _ _ HPM.out).mono ?_; rintro e wp ⟨rfl, ⟨nd1, rfl⟩⟩) | (go_at_call 15; refine (loom_plainKind.calls mb _ _ HPB.out).mono ?_; rintro e wp ⟨rfl, ⟨nd2, rfl⟩⟩))
     go_ret
     exact ⟨by (rw [HF.out]; rfl), by repeat (first | (with_reducible first | exact HB.out | apply below_alloc | apply pw_below_drewN | apply below_drew1) | exact HB.out)⟩
    by_cases hb0 : mb = 0
    ·have cb : (mb != 0) = false := bne_eq_false_iff_eq.mpr hb0
     have cb2 : (mb == 0) = true := beq_iff_eq.mpr hb0
     have HR7 := Aside0.mk (show r = ((flowsB words [s0, s1, s2, s3, s4, s5, s6, s7] ru sa na ma && flowsB words [s0, s1, s2, s3, s4, s5, s6, s7] ru sb nb mb) && (decide (na = 0) || (decide (nb = 0) || apartB sa na sb nb))) by rw [HR6.out, decide_eq_true hb0]; simp only [Bool.true_and, Bool.true_or])
     clear hb0
     go_upto_region 25 with (first | (go_at_call 15; refine (loom_plainKind.calls ma _ _ HPM.out).mono ?_; rintro e wp ⟨rfl, ⟨nd1, rfl⟩⟩) | (go_at_call 15; refine (loom_plainKind.calls mb _ _ HPB.out).mono ?_; rintro e wp ⟨rfl, ⟨nd2, rfl⟩⟩))
     have n0_ := Aside0.mk (show (w2.drewN nd1).heap[b]? = some (.cells #[.int .i64 words, .int .i64 s0, .int .i64 s1, .int .i64 s2, .int .i64 s3, .int .i64 s4, .int .i64 s5, .int .i64 s6, .int .i64 s7, .int .i64 g0, .int .i64 g1, .int .i64 g2, .int .i64 g3, .int .i64 g4, .int .i64 g5, .int .i64 g6, .int .i64 g7, .int .i64 t0, .int .i64 t1, .int .i64 t2, .int .i64 t3, .int .i64 ma, .int .i64 mb, .int .i64 sa, .int .i64 na, .int .i64 sb, .int .i64 nb, .bool both, h0, h1, h2, h3, h4] 31 (0, 0)) from HE.out)
     have n1_ := Aside0.mk (pw_below_drewN HB.out (nd1))
     clear HE HB he21 he22 he23 he24 he25 he26
     have HE := n0_
     have HB := n1_
     clear n0_ n1_
     generalize w2.drewN nd1 = w3 at HE HB ⊢
     have he21 : _ = some (Value.int .i64 ma : Value) := blk_cell HE.out 21
     have he22 : _ = some (Value.int .i64 mb : Value) := blk_cell HE.out 22
     have he23 : _ = some (Value.int .i64 sa : Value) := blk_cell HE.out 23
     have he24 : _ = some (Value.int .i64 na : Value) := blk_cell HE.out 24
     have he25 : _ = some (Value.int .i64 sb : Value) := blk_cell HE.out 25
     have he26 : _ = some (Value.int .i64 nb : Value) := blk_cell HE.out 26
     go_upto_region 26 with (fail)
     have n0_ := Aside0.mk (heap_alloc_new w3 (.cells #[.int .i64 sa, .int .i64 na, .int .i64 sb, .int .i64 nb] 27 (0, 0)))
     have n1_ := Aside0.mk (blk_alloc HE.out (.cells #[.int .i64 sa, .int .i64 na, .int .i64 sb, .int .i64 nb] 27 (0, 0)))
     have n2_ := Aside0.mk (below_alloc HB.out (.cells #[.int .i64 sa, .int .i64 na, .int .i64 sb, .int .i64 nb] 27 (0, 0)))
     clear HE HB he21 he22 he23 he24 he25 he26
     have HS := n0_
     have HE := n1_
     have HB := n2_
     clear n0_ n1_ n2_
     generalize w3.alloc (.cells #[.int .i64 sa, .int .i64 na, .int .i64 sb, .int .i64 nb] 27 (0, 0)) = w4 at HE HB HS ⊢
     generalize w3.heap.size = gs at HS ⊢
     have he21 : _ = some (Value.int .i64 ma : Value) := blk_cell HE.out 21
     have he22 : _ = some (Value.int .i64 mb : Value) := blk_cell HE.out 22
     have hs0 : _ = some (Value.int .i64 sa) := blk_cell HS.out 0
     have hs1 : _ = some (Value.int .i64 na) := blk_cell HS.out 1
     have hs2 : _ = some (Value.int .i64 sb) := blk_cell HS.out 2
     have hs3 : _ = some (Value.int .i64 nb) := blk_cell HS.out 3
     have HFA := Aside0.mk (fun (W : World) (h : W.heap[b]? = some (.cells #[.int .i64 words, .int .i64 s0, .int .i64 s1, .int .i64 s2, .int .i64 s3, .int .i64 s4, .int .i64 s5, .int .i64 s6, .int .i64 s7, .int .i64 g0, .int .i64 g1, .int .i64 g2, .int .i64 g3, .int .i64 g4, .int .i64 g5, .int .i64 g6, .int .i64 g7, .int .i64 t0, .int .i64 t1, .int .i64 t2, .int .i64 t3, .int .i64 ma, .int .i64 mb, .int .i64 sa, .int .i64 na, .int .i64 sb, .int .i64 nb, .bool both, h0, h1, h2, h3, h4] 31 (0, 0))) => flowsR words s0 s1 s2 s3 s4 s5 s6 s7 g0 g1 g2 g3 g4 g5 g6 g7 t0 t1 t2 t3 ma mb sa na sb nb both h0 h1 h2 h3 h4 b ru sa na ma W h HWD.out.2)
     have HFB := Aside0.mk (fun (W : World) (h : W.heap[b]? = some (.cells #[.int .i64 words, .int .i64 s0, .int .i64 s1, .int .i64 s2, .int .i64 s3, .int .i64 s4, .int .i64 s5, .int .i64 s6, .int .i64 s7, .int .i64 g0, .int .i64 g1, .int .i64 g2, .int .i64 g3, .int .i64 g4, .int .i64 g5, .int .i64 g6, .int .i64 g7, .int .i64 t0, .int .i64 t1, .int .i64 t2, .int .i64 t3, .int .i64 ma, .int .i64 mb, .int .i64 sa, .int .i64 na, .int .i64 sb, .int .i64 nb, .bool both, h0, h1, h2, h3, h4] 31 (0, 0))) => flowsR words s0 s1 s2 s3 s4 s5 s6 s7 g0 g1 g2 g3 g4 g5 g6 g7 t0 t1 t2 t3 ma mb sa na sb nb both h0 h1 h2 h3 h4 b ru sb nb mb W h HWD.out.2)
     generalize flowsB words [s0, s1, s2, s3, s4, s5, s6, s7] ru sa na ma = fa at HFA HR7
     generalize flowsB words [s0, s1, s2, s3, s4, s5, s6, s7] ru sb nb mb = fb at HFB HR7
     rcases fa with _ | _
     ·have HF := Aside0.mk (show r = false by rw [HR7.out]; simp only [Bool.false_and])
      go_big_quiet (first | (go_at_call 17; (with_reducible refine Calls.quiet_of_same (HFA.out _ ?_)); exact HE.out) | (go_at_call 17; (with_reducible refine Calls.quiet_of_same (HFB.out _ ?_)); exact HE.out))
      go_wp2
      go_ret
      exact ⟨by (rw [HF.out]; rfl), by repeat (first | (with_reducible first | exact HB.out | apply below_alloc | apply pw_below_drewN | apply below_drew1) | exact HB.out)⟩
     rcases fb with _ | _
     ·have HF := Aside0.mk (show r = false by rw [HR7.out]; simp only [Bool.false_and, Bool.and_false])
      go_big_quiet (first | (go_at_call 17; (with_reducible refine Calls.quiet_of_same (HFA.out _ ?_)); exact HE.out) | (go_at_call 17; (with_reducible refine Calls.quiet_of_same (HFB.out _ ?_)); exact HE.out))
      go_wp2
      go_ret
      exact ⟨by (rw [HF.out]; rfl), by repeat (first | (with_reducible first | exact HB.out | apply below_alloc | apply pw_below_drewN | apply below_drew1) | exact HB.out)⟩
     have HR8 := Aside0.mk (show r = (decide (na = 0) || (decide (nb = 0) || apartB sa na sb nb)) by rw [HR7.out]; simp only [Bool.true_and])
     by_cases z1 : na = 0
     ·have y1 : (na == 0) = true := beq_iff_eq.mpr z1
      have HF := Aside0.mk (show r = true by rw [HR8.out, decide_eq_true z1, Bool.true_or])
      clear z1
      go_big_quiet (first | (go_at_call 17; (with_reducible refine Calls.quiet_of_same (HFA.out _ ?_)); exact HE.out) | (go_at_call 17; (with_reducible refine Calls.quiet_of_same (HFB.out _ ?_)); exact HE.out))
      go_wp2
      go_ret
      exact ⟨by (rw [HF.out]; rfl), by repeat (first | (with_reducible first | exact HB.out | apply below_alloc | apply pw_below_drewN | apply below_drew1) | exact HB.out)⟩
     have y1 : (na == 0) = false := beq_eq_false_iff_ne.mpr z1
     by_cases z2 : nb = 0
     ·have y2 : (nb == 0) = true := beq_iff_eq.mpr z2
      have HF := Aside0.mk (show r = true by rw [HR8.out, decide_eq_true z2, Bool.true_or, Bool.or_true])
      clear z1 z2
      go_big_quiet (first | (go_at_call 17; (with_reducible refine Calls.quiet_of_same (HFA.out _ ?_)); exact HE.out) | (go_at_call 17; (with_reducible refine Calls.quiet_of_same (HFB.out _ ?_)); exact HE.out))
      go_wp2
      go_ret
      exact ⟨by (rw [HF.out]; rfl), by repeat (first | (with_reducible first | exact HB.out | apply below_alloc | apply pw_below_drewN | apply below_drew1) | exact HB.out)⟩
     have y2 : (nb == 0) = false := beq_eq_false_iff_ne.mpr z2
     have HF := Aside0.mk (show r = apartB sa na sb nb by rw [HR8.out, decide_eq_false z1, decide_eq_false z2, Bool.false_or, Bool.false_or])
     clear z1 z2
     go_big_quiet (first | (go_at_call 17; (with_reducible refine Calls.quiet_of_same (HFA.out _ ?_)); exact HE.out) | (go_at_call 17; (with_reducible refine Calls.quiet_of_same (HFB.out _ ?_)); exact HE.out))
     go_wp2_with (go_at_call 18; refine (apartR sa na sb nb _).mono ?_; rintro e w5 ⟨rfl, hb⟩; have n0_ := Aside0.mk (below_step (pw_below_drewN HB.out _) hb); clear HB hb; have HB := n0_; clear n0_)
     go_ret
     exact ⟨by (rw [HF.out]; rfl), by repeat (first | (with_reducible first | exact HB.out | apply below_alloc | apply pw_below_drewN | apply below_drew1) | exact HB.out)⟩
    have cb : (mb != 0) = true := bne_iff_ne.mpr hb0
    have cb2 : (mb == 0) = false := beq_eq_false_iff_ne.mpr hb0
    rcases pb with _ | _
    ·have HF := Aside0.mk (show r = false by rw [HR6.out, decide_eq_false hb0]; simp only [Bool.false_and, Bool.and_false, Bool.false_or])
     clear hb0
     go_wp2_with (first | (go_at_call 15; refine (loom_plainKind.calls ma _ _ HPM.out).mono ?_; rintro e wp ⟨rfl, ⟨nd1, rfl⟩⟩) | (go_at_call 15; refine (loom_plainKind.calls mb _ _ HPB.out).mono ?_; rintro e wp ⟨rfl, ⟨nd2, rfl⟩⟩))
     go_ret
     exact ⟨by (rw [HF.out]; rfl), by repeat (first | (with_reducible first | exact HB.out | apply below_alloc | apply pw_below_drewN | apply below_drew1) | exact HB.out)⟩
    have HR7 := Aside0.mk (show r = ((flowsB words [s0, s1, s2, s3, s4, s5, s6, s7] ru sa na ma && flowsB words [s0, s1, s2, s3, s4, s5, s6, s7] ru sb nb mb) && (decide (na = 0) || (decide (nb = 0) || apartB sa na sb nb))) by rw [HR6.out, decide_eq_false hb0]; simp only [Bool.true_and, Bool.false_or])
    clear hb0
    go_upto_region 25 with (first | (go_at_call 15; refine (loom_plainKind.calls ma _ _ HPM.out).mono ?_; rintro e wp ⟨rfl, ⟨nd1, rfl⟩⟩) | (go_at_call 15; refine (loom_plainKind.calls mb _ _ HPB.out).mono ?_; rintro e wp ⟨rfl, ⟨nd2, rfl⟩⟩))
    have n0_ := Aside0.mk (show (w2.drewN (nd1 + nd2)).heap[b]? = some (.cells #[.int .i64 words, .int .i64 s0, .int .i64 s1, .int .i64 s2, .int .i64 s3, .int .i64 s4, .int .i64 s5, .int .i64 s6, .int .i64 s7, .int .i64 g0, .int .i64 g1, .int .i64 g2, .int .i64 g3, .int .i64 g4, .int .i64 g5, .int .i64 g6, .int .i64 g7, .int .i64 t0, .int .i64 t1, .int .i64 t2, .int .i64 t3, .int .i64 ma, .int .i64 mb, .int .i64 sa, .int .i64 na, .int .i64 sb, .int .i64 nb, .bool both, h0, h1, h2, h3, h4] 31 (0, 0)) from HE.out)
    have n1_ := Aside0.mk (pw_below_drewN HB.out ((nd1 + nd2)))
    clear HE HB he21 he22 he23 he24 he25 he26
    have HE := n0_
    have HB := n1_
    clear n0_ n1_
    generalize w2.drewN (nd1 + nd2) = w3 at HE HB ⊢
    have he21 : _ = some (Value.int .i64 ma : Value) := blk_cell HE.out 21
    have he22 : _ = some (Value.int .i64 mb : Value) := blk_cell HE.out 22
    have he23 : _ = some (Value.int .i64 sa : Value) := blk_cell HE.out 23
    have he24 : _ = some (Value.int .i64 na : Value) := blk_cell HE.out 24
    have he25 : _ = some (Value.int .i64 sb : Value) := blk_cell HE.out 25
    have he26 : _ = some (Value.int .i64 nb : Value) := blk_cell HE.out 26
    go_upto_region 26 with (fail)
    have n0_ := Aside0.mk (heap_alloc_new w3 (.cells #[.int .i64 sa, .int .i64 na, .int .i64 sb, .int .i64 nb] 27 (0, 0)))
    have n1_ := Aside0.mk (blk_alloc HE.out (.cells #[.int .i64 sa, .int .i64 na, .int .i64 sb, .int .i64 nb] 27 (0, 0)))
    have n2_ := Aside0.mk (below_alloc HB.out (.cells #[.int .i64 sa, .int .i64 na, .int .i64 sb, .int .i64 nb] 27 (0, 0)))
    clear HE HB he21 he22 he23 he24 he25 he26
    have HS := n0_
    have HE := n1_
    have HB := n2_
    clear n0_ n1_ n2_
    generalize w3.alloc (.cells #[.int .i64 sa, .int .i64 na, .int .i64 sb, .int .i64 nb] 27 (0, 0)) = w4 at HE HB HS ⊢
    generalize w3.heap.size = gs at HS ⊢
    have he21 : _ = some (Value.int .i64 ma : Value) := blk_cell HE.out 21
    have he22 : _ = some (Value.int .i64 mb : Value) := blk_cell HE.out 22
    have hs0 : _ = some (Value.int .i64 sa) := blk_cell HS.out 0
    have hs1 : _ = some (Value.int .i64 na) := blk_cell HS.out 1
    have hs2 : _ = some (Value.int .i64 sb) := blk_cell HS.out 2
    have hs3 : _ = some (Value.int .i64 nb) := blk_cell HS.out 3
    have HFA := Aside0.mk (fun (W : World) (h : W.heap[b]? = some (.cells #[.int .i64 words, .int .i64 s0, .int .i64 s1, .int .i64 s2, .int .i64 s3, .int .i64 s4, .int .i64 s5, .int .i64 s6, .int .i64 s7, .int .i64 g0, .int .i64 g1, .int .i64 g2, .int .i64 g3, .int .i64 g4, .int .i64 g5, .int .i64 g6, .int .i64 g7, .int .i64 t0, .int .i64 t1, .int .i64 t2, .int .i64 t3, .int .i64 ma, .int .i64 mb, .int .i64 sa, .int .i64 na, .int .i64 sb, .int .i64 nb, .bool both, h0, h1, h2, h3, h4] 31 (0, 0))) => flowsR words s0 s1 s2 s3 s4 s5 s6 s7 g0 g1 g2 g3 g4 g5 g6 g7 t0 t1 t2 t3 ma mb sa na sb nb both h0 h1 h2 h3 h4 b ru sa na ma W h HWD.out.2)
    have HFB := Aside0.mk (fun (W : World) (h : W.heap[b]? = some (.cells #[.int .i64 words, .int .i64 s0, .int .i64 s1, .int .i64 s2, .int .i64 s3, .int .i64 s4, .int .i64 s5, .int .i64 s6, .int .i64 s7, .int .i64 g0, .int .i64 g1, .int .i64 g2, .int .i64 g3, .int .i64 g4, .int .i64 g5, .int .i64 g6, .int .i64 g7, .int .i64 t0, .int .i64 t1, .int .i64 t2, .int .i64 t3, .int .i64 ma, .int .i64 mb, .int .i64 sa, .int .i64 na, .int .i64 sb, .int .i64 nb, .bool both, h0, h1, h2, h3, h4] 31 (0, 0))) => flowsR words s0 s1 s2 s3 s4 s5 s6 s7 g0 g1 g2 g3 g4 g5 g6 g7 t0 t1 t2 t3 ma mb sa na sb nb both h0 h1 h2 h3 h4 b ru sb nb mb W h HWD.out.2)
    generalize flowsB words [s0, s1, s2, s3, s4, s5, s6, s7] ru sa na ma = fa at HFA HR7
    generalize flowsB words [s0, s1, s2, s3, s4, s5, s6, s7] ru sb nb mb = fb at HFB HR7
    rcases fa with _ | _
    ·have HF := Aside0.mk (show r = false by rw [HR7.out]; simp only [Bool.false_and])
     go_big_quiet (first | (go_at_call 17; (with_reducible refine Calls.quiet_of_same (HFA.out _ ?_)); exact HE.out) | (go_at_call 17; (with_reducible refine Calls.quiet_of_same (HFB.out _ ?_)); exact HE.out))
     go_wp2
     go_ret
     exact ⟨by (rw [HF.out]; rfl), by repeat (first | (with_reducible first | exact HB.out | apply below_alloc | apply pw_below_drewN | apply below_drew1) | exact HB.out)⟩
    rcases fb with _ | _
    ·have HF := Aside0.mk (show r = false by rw [HR7.out]; simp only [Bool.false_and, Bool.and_false])
     go_big_quiet (first | (go_at_call 17; (with_reducible refine Calls.quiet_of_same (HFA.out _ ?_)); exact HE.out) | (go_at_call 17; (with_reducible refine Calls.quiet_of_same (HFB.out _ ?_)); exact HE.out))
     go_wp2
     go_ret
     exact ⟨by (rw [HF.out]; rfl), by repeat (first | (with_reducible first | exact HB.out | apply below_alloc | apply pw_below_drewN | apply below_drew1) | exact HB.out)⟩
    have HR8 := Aside0.mk (show r = (decide (na = 0) || (decide (nb = 0) || apartB sa na sb nb)) by rw [HR7.out]; simp only [Bool.true_and])
    by_cases z1 : na = 0
    ·have y1 : (na == 0) = true := beq_iff_eq.mpr z1
     have HF := Aside0.mk (show r = true by rw [HR8.out, decide_eq_true z1, Bool.true_or])
     clear z1
     go_big_quiet (first | (go_at_call 17; (with_reducible refine Calls.quiet_of_same (HFA.out _ ?_)); exact HE.out) | (go_at_call 17; (with_reducible refine Calls.quiet_of_same (HFB.out _ ?_)); exact HE.out))
     go_wp2
     go_ret
     exact ⟨by (rw [HF.out]; rfl), by repeat (first | (with_reducible first | exact HB.out | apply below_alloc | apply pw_below_drewN | apply below_drew1) | exact HB.out)⟩
    have y1 : (na == 0) = false := beq_eq_false_iff_ne.mpr z1
    by_cases z2 : nb = 0
    ·have y2 : (nb == 0) = true := beq_iff_eq.mpr z2
     have HF := Aside0.mk (show r = true by rw [HR8.out, decide_eq_true z2, Bool.true_or, Bool.or_true])
     clear z1 z2
     go_big_quiet (first | (go_at_call 17; (with_reducible refine Calls.quiet_of_same (HFA.out _ ?_)); exact HE.out) | (go_at_call 17; (with_reducible refine Calls.quiet_of_same (HFB.out _ ?_)); exact HE.out))
     go_wp2
     go_ret
     exact ⟨by (rw [HF.out]; rfl), by repeat (first | (with_reducible first | exact HB.out | apply below_alloc | apply pw_below_drewN | apply below_drew1) | exact HB.out)⟩
    have y2 : (nb == 0) = false := beq_eq_false_iff_ne.mpr z2
    have HF := Aside0.mk (show r = apartB sa na sb nb by rw [HR8.out, decide_eq_false z1, decide_eq_false z2, Bool.false_or, Bool.false_or])
    clear z1 z2
    go_big_quiet (first | (go_at_call 17; (with_reducible refine Calls.quiet_of_same (HFA.out _ ?_)); exact HE.out) | (go_at_call 17; (with_reducible refine Calls.quiet_of_same (HFB.out _ ?_)); exact HE.out))
    go_wp2_with (go_at_call 18; refine (apartR sa na sb nb _).mono ?_; rintro e w5 ⟨rfl, hb⟩; have n0_ := Aside0.mk (below_step (pw_below_drewN HB.out _) hb); clear HB hb; have HB := n0_; clear n0_)
    go_ret
    exact ⟨by (rw [HF.out]; rfl), by repeat (first | (with_reducible first | exact HB.out | apply below_alloc | apply pw_below_drewN | apply below_drew1) | exact HB.out)⟩
end Heads
end Go.Proofs.Ytcpcpmojallcdaa.QLoomChecks
