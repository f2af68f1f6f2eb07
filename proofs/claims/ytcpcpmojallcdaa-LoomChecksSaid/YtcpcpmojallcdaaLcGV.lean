/- LoomChecks: HeadsQ. Conditions: as each theorem says. -/
import Derived.Test.YtcpcpmojallcdaaLcQ
import Derived.Test.YtcpcpmojallcdaaLcGJ
import Derived.Test.YtcpcpmojallcdaaLcGB
import Derived.Test.YtcpcpmojallcdaaLcGA
import Derived.Test.YtcpcpmojallcdaaLcGL
import Derived.Test.YtcpcpmojallcdaaLcGC
namespace Go.Proofs.Ytcpcpmojallcdaa.QLoomChecks
open Go.RowKit Go.Proofs.YtcpcpmojallcdaaW.PrintWords Go.Proofs.YtcpcpmojallcdaaW.PrintLast Go.Proofs.YtcpcpmojallcdaaW.PrintMore
set_option linter.unusedVariables false
set_option linter.unusedSimpArgs false
section HeadsQ
/-- The block of the words' counts. -/
def UsedAt (g : Nat) (w : World) (f : Nat → Int) : Prop := ∃ A : Array Value, w.heap[g]? = some (.cells A 72 (0, 0)) ∧ A.size = 16 ∧ ∀ j, j < 16 → A[j]? = some (.int .i64 (f j))
theorem UsedAt.cell {g : Nat} {w : World} {f : Nat → Int} (h : UsedAt g w f) (j : Nat) (hj : j < 16) : w.cell? ⟨g, j, none⟩ = some (.int .i64 (f j)) ∧ w.frozen? ⟨g, j, none⟩ = false := by
 obtain ⟨A, h1, h2, h3⟩ := h
 exact ⟨(blk_cell h1 j).trans (h3 j hj), blk_frozen h1 j⟩
theorem UsedAt.put {g : Nat} {w : World} {f : Nat → Int} (h : UsedAt g w f) (j : Nat) (hj : j < 16) (x : Int) : UsedAt g (w.setCell ⟨g, j, none⟩ (.int .i64 x)) (fun q => if q = j then x else f q) := by
 obtain ⟨A, h1, h2, h3⟩ := h
 refine ⟨_, blk_set h1 j _, by rw [Array.size_setIfInBounds, h2], fun q hq => ?_⟩
 by_cases e : q = j
 ·subst e
  rw [Array.getElem?_setIfInBounds_self_of_lt (by omega)]
  show some (Value.int .i64 x) = some (Value.int .i64 (if q = q then x else f q))
  rw [if_pos rfl]
 rw [Array.getElem?_setIfInBounds_ne (fun h => e h.symm)]
 show _ = some (Value.int .i64 (if q = j then x else f q))
 rw [if_neg e]
 exact h3 q hq
theorem UsedAt.below {g : Nat} {w w1 : World} {f : Nat → Int} (h : UsedAt g w f) (hb : Below w.heap.size w w1) : UsedAt g w1 f := by
 obtain ⟨A, h1, h2, h3⟩ := h
 exact ⟨A, (hb.block g (blk_lt h1)).trans h1, h2, h3⟩
theorem UsedAt.eq {g : Nat} {w : World} {f f2 : Nat → Int} (h : UsedAt g w f) (e : ∀ j, j < 16 → f j = f2 j) : UsedAt g w f2 := by
 obtain ⟨A, h1, h2, h3⟩ := h
 exact ⟨A, h1, h2, fun j hj => (h3 j hj).trans (by rw [e j hj])⟩
/-- One for each of k words from s on. -/
def inR (s : Int) (k : Nat) (j : Nat) : Int := if s ≤ (j : Int) ∧ (j : Int) < s + (k : Int) then 1 else 0
def wid (m : Int) : Nat := if m = 9 then 6 else 1
theorem wid_val (m : Int) : sluiceref11_width.f m = some (wid m : Int) := by
 unfold sluiceref11_width.f wid
 by_cases h : m = 9
 ·rw [if_pos h, if_pos h]; rfl
 rw [if_neg h, if_neg h]; rfl
theorem inR_succ (s : Int) (k j : Nat) (f0 : Int) : (if (j : Int) = s + (k : Int) then f0 + inR s k j + 1 else f0 + inR s k j) = f0 + inR s (k + 1) j := by
 unfold inR
 split <;> split <;> split <;> omega
theorem wid_le (m : Int) : 1 ≤ wid m ∧ wid m ≤ 6 := by
 unfold wid
 split <;> omega
theorem flows_range {words run at_ m msg : Int} {st : List Int} (h : flowsB words st run at_ m msg = true) (hm : m ≠ 0) : 0 ≤ at_ ∧ at_ < words := by
 unfold flowsB at h
 rw [if_neg hm] at h
 by_cases e : m < 0 ∨ 9 < m ∨ at_ < 0 ∨ words ≤ at_ ∨ msg = 0
 ·rw [if_pos e] at h; cases h
 omega
theorem widthB_wid (m : Int) : widthB m = (wid m : Int) := by
 unfold widthB wid
 split <;> rfl
theorem apart_wid {sa na sb nb : Int} (h1 : 0 ≤ sa ∧ sa < 8) (h2 : 0 ≤ sb ∧ sb < 8) : apartB sa na sb nb = true ↔ (sa + (wid na : Int) ≤ sb ∨ sb + (wid nb : Int) ≤ sa) := by
 have k1 := wid_le na
 have k2 := wid_le nb
 have e1 : wrap64 (sa + (wid na : Int)) = sa + (wid na : Int) := by unfold wrap64; omega
 have e2 : wrap64 (sb + (wid nb : Int)) = sb + (wid nb : Int) := by unfold wrap64; omega
 unfold apartB
 rw [widthB_wid, widthB_wid, e1, e2, Bool.or_eq_true, decide_eq_true_eq, decide_eq_true_eq]
/-- What the counts are behind both loops. -/
def useF (sa na sb nb : Int) (j : Nat) : Int := (if na = 0 then 0 else inR sa (wid na) j) + (if nb = 0 then 0 else inR sb (wid nb) j)
theorem use_all {sa na sb nb : Int} (h1 : na ≠ 0 → 0 ≤ sa ∧ sa < 8) (h2 : nb ≠ 0 → 0 ≤ sb ∧ sb < 8) : (∀ j, j < 16 → useF sa na sb nb j ≤ 1) ↔ (decide (na = 0) || (decide (nb = 0) || apartB sa na sb nb)) = true := by
 rw [Bool.or_eq_true, Bool.or_eq_true, decide_eq_true_eq, decide_eq_true_eq]
 have k1 := wid_le na
 have k2 := wid_le nb
 constructor
 ·intro h
  by_cases a0 : na = 0
  ·exact .inl a0
  by_cases b0 : nb = 0
  ·exact .inr (.inl b0)
  refine .inr (.inr ((apart_wid (h1 a0) (h2 b0)).2 ?_))
  have ha := h1 a0
  have hb := h2 b0
  by_cases c : sa ≤ sb
  ·have := h sb.toNat (by omega)
   unfold useF inR at this
   rw [if_neg a0, if_neg b0] at this
   split at this <;> split at this <;> omega
  have := h sa.toNat (by omega)
  unfold useF inR at this
  rw [if_neg a0, if_neg b0] at this
  split at this <;> split at this <;> omega
 intro h j hj
 unfold useF inR
 by_cases a0 : na = 0
 ·rw [if_pos a0]; split <;> (try split) <;> omega
 by_cases b0 : nb = 0
 ·rw [if_pos b0]; split <;> (try split) <;> omega
 have hap := (apart_wid (h1 a0) (h2 b0)).1 (h.elim (fun e => absurd e a0) (fun e => e.elim (fun e => absurd e b0) id))
 rw [if_neg a0, if_neg b0]
 split <;> split <;> omega
set_option maxHeartbeats 8000000 in
set_option maxRecDepth 100000 in
theorem headsQR (words s0 s1 s2 s3 s4 s5 s6 s7 g0 g1 g2 g3 g4 g5 g6 g7 t0 t1 t2 t3 ma mb sa na sb nb : Int) (both : Bool) (h0 h1 h2 h3 h4 : Value) (w : World) :
  Calls Try.prog 12 #[.agg #[.int .i64 words, .int .i64 s0, .int .i64 s1, .int .i64 s2, .int .i64 s3, .int .i64 s4, .int .i64 s5, .int .i64 s6, .int .i64 s7, .int .i64 g0, .int .i64 g1, .int .i64 g2, .int .i64 g3, .int .i64 g4, .int .i64 g5, .int .i64 g6, .int .i64 g7, .int .i64 t0, .int .i64 t1, .int .i64 t2, .int .i64 t3, .int .i64 ma, .int .i64 mb, .int .i64 sa, .int .i64 na, .int .i64 sb, .int .i64 nb, .bool both, h0, h1, h2, h3, h4]] w fun e w' => e = .returned (.bool (headsB words [s0, s1, s2, s3, s4, s5, s6, s7] [g0, g1, g2, g3, g4, g5, g6, g7] [t0, t1, t2, t3] ma mb sa na sb nb)) ∧ Below w.heap.size w w' := by
 have HE := Aside0.mk (heap_alloc_new w (.cells #[.int .i64 words, .int .i64 s0, .int .i64 s1, .int .i64 s2, .int .i64 s3, .int .i64 s4, .int .i64 s5, .int .i64 s6, .int .i64 s7, .int .i64 g0, .int .i64 g1, .int .i64 g2, .int .i64 g3, .int .i64 g4, .int .i64 g5, .int .i64 g6, .int .i64 g7, .int .i64 t0, .int .i64 t1, .int .i64 t2, .int .i64 t3, .int .i64 ma, .int .i64 mb, .int .i64 sa, .int .i64 na, .int .i64 sb, .int .i64 nb, .bool both, h0, h1, h2, h3, h4] 31))
 have HB := Aside0.mk (below_alloc (Below.refl w.heap.size w) (.cells #[.int .i64 words, .int .i64 s0, .int .i64 s1, .int .i64 s2, .int .i64 s3, .int .i64 s4, .int .i64 s5, .int .i64 s6, .int .i64 s7, .int .i64 g0, .int .i64 g1, .int .i64 g2, .int .i64 g3, .int .i64 g4, .int .i64 g5, .int .i64 g6, .int .i64 g7, .int .i64 t0, .int .i64 t1, .int .i64 t2, .int .i64 t3, .int .i64 ma, .int .i64 mb, .int .i64 sa, .int .i64 na, .int .i64 sb, .int .i64 nb, .bool both, h0, h1, h2, h3, h4] 31))
 obtain ⟨r, hr⟩ : ∃ r, r = headsB words [s0, s1, s2, s3, s4, s5, s6, s7] [g0, g1, g2, g3, g4, g5, g6, g7] [t0, t1, t2, t3] ma mb sa na sb nb := ⟨_, rfl⟩
 rw [← hr]
 have HR := Aside0.mk hr
 clear hr
 go_enter Try.func12, Try.ntmps12
 go_upto_region 1 with (fail)
 generalize w.alloc (.cells #[.int .i64 words, .int .i64 s0, .int .i64 s1, .int .i64 s2, .int .i64 s3, .int .i64 s4, .int .i64 s5, .int .i64 s6, .int .i64 s7, .int .i64 g0, .int .i64 g1, .int .i64 g2, .int .i64 g3, .int .i64 g4, .int .i64 g5, .int .i64 g6, .int .i64 g7, .int .i64 t0, .int .i64 t1, .int .i64 t2, .int .i64 t3, .int .i64 ma, .int .i64 mb, .int .i64 sa, .int .i64 na, .int .i64 sb, .int .i64 nb, .bool both, h0, h1, h2, h3, h4] 31) = w1 at HE HB ⊢
 have he0 : _ = some (Value.int .i64 words) := blk_cell HE.out 0
 by_cases y1 : words < 1
 ·have f1 : decide (words < 1) = true := decide_eq_true y1
  have HF := Aside0.mk (show r = false by rw [HR.out, headsB, decide_eq_false (show ¬ 1 ≤ words by omega)]; rfl)
  clear y1
  go_wp2_with (fail)
  go_ret
  exact ⟨by (rw [HF.out]; rfl), (by repeat (first | (with_reducible first | exact HB.out | apply below_alloc | apply pw_below_drewN | apply below_drew1) | exact HB.out))⟩
 by_cases y2 : words > 8
 ·have f1 : decide (words < 1) = false := decide_eq_false y1
  have f2 : decide (words > 8) = true := decide_eq_true y2
  have HF := Aside0.mk (show r = false by rw [HR.out, headsB, decide_eq_false (show ¬ words ≤ 8 by omega), Bool.and_false]; rfl)
  clear y1 y2
  go_wp2_with (fail)
  go_ret
  exact ⟨by (rw [HF.out]; rfl), (by repeat (first | (with_reducible first | exact HB.out | apply below_alloc | apply pw_below_drewN | apply below_drew1) | exact HB.out))⟩
 have f1 : decide (words < 1) = false := decide_eq_false y1
 have f2 : decide (words > 8) = false := decide_eq_false y2
 have HWD := Aside0.mk (show 1 ≤ words ∧ words ≤ 8 by omega)
 have HR1 := Aside0.mk (show r = (((List.range 8).all (stOK words [s0, s1, s2, s3, s4, s5, s6, s7]) && ((List.range 8).all (agOK [g0, g1, g2, g3, g4, g5, g6, g7]) && ((List.range 4).all (ctOK [t0, t1, t2, t3]) && (((runP [s0, s1, s2, s3, s4, s5, s6, s7]).2 && ((runP [g0, g1, g2, g3, g4, g5, g6, g7]).2 && (plainB ma && (decide (mb = 0) || plainB mb)))) && ((flowsB words [s0, s1, s2, s3, s4, s5, s6, s7] (runP [s0, s1, s2, s3, s4, s5, s6, s7]).1 sa na ma && flowsB words [s0, s1, s2, s3, s4, s5, s6, s7] (runP [s0, s1, s2, s3, s4, s5, s6, s7]).1 sb nb mb) && (decide (na = 0) || (decide (nb = 0) || apartB sa na sb nb)))))))) by rw [HR.out, headsB, decide_eq_true HWD.out.1, decide_eq_true HWD.out.2]; rfl)
 clear y1 y2
 go_wp2
 clear f1 f2 he0
 go_loopg [3] 8 (fun kq v3 w' => ∃ i : Nat, v3 = .int .i64 (i : Int) ∧ Aside0 (kq + i = 8) ∧ Aside0 (∀ j, j < i → stOK words [s0, s1, s2, s3, s4, s5, s6, s7] j = true ∧ agOK [g0, g1, g2, g3, g4, g5, g6, g7] j = true) ∧ Aside0 (w'.heap[w.heap.size]? = some (.cells #[.int .i64 words, .int .i64 s0, .int .i64 s1, .int .i64 s2, .int .i64 s3, .int .i64 s4, .int .i64 s5, .int .i64 s6, .int .i64 s7, .int .i64 g0, .int .i64 g1, .int .i64 g2, .int .i64 g3, .int .i64 g4, .int .i64 g5, .int .i64 g6, .int .i64 g7, .int .i64 t0, .int .i64 t1, .int .i64 t2, .int .i64 t3, .int .i64 ma, .int .i64 mb, .int .i64 sa, .int .i64 na, .int .i64 sb, .int .i64 nb, .bool both, h0, h1, h2, h3, h4] 31 (0, 0))) ∧ Aside0 (Below w.heap.size w w'))
 case atStart => exact ⟨0, rfl, ⟨rfl⟩, ⟨fun j hj => by omega⟩, HE, HB⟩
 case round =>
  clear HE HB
  obtain ⟨i, rfl, HI, HQ, HE, HB⟩ := hrel
  have he0 : _ = some (Value.int .i64 words) := blk_cell HE.out 0
  by_cases h1 : i < 8
  ·have c1 : decide ((i : Int) < 8) = true := decide_eq_true (by omega)
   have H1 := Aside0.mk h1
   have hc1 := kd_cell1 HE.out i h1
   have hc2 := kd_cell2 HE.out i h1
   have hok : stOK words [s0, s1, s2, s3, s4, s5, s6, s7] i = if (i : Int) < words then decide (1 ≤ [s0, s1, s2, s3, s4, s5, s6, s7].getD i 0) && decide ([s0, s1, s2, s3, s4, s5, s6, s7].getD i 0 ≤ 4) else decide ([s0, s1, s2, s3, s4, s5, s6, s7].getD i 0 = 0) := rfl
   have hoa : agOK [g0, g1, g2, g3, g4, g5, g6, g7] i = (decide (0 ≤ [g0, g1, g2, g3, g4, g5, g6, g7].getD i 0) && decide ([g0, g1, g2, g3, g4, g5, g6, g7].getD i 0 ≤ 4)) := rfl
   obtain ⟨v, hv⟩ : ∃ v, v = [s0, s1, s2, s3, s4, s5, s6, s7].getD i 0 := ⟨_, rfl⟩
   obtain ⟨u, hu⟩ : ∃ u, u = [g0, g1, g2, g3, g4, g5, g6, g7].getD i 0 := ⟨_, rfl⟩
   rw [← hv] at hc1 hok
   rw [← hu] at hc2 hoa
   have HOK := Aside0.mk hok
   have HOA := Aside0.mk hoa
   have hwr : wrap64 ((i : Int) + 1) = ((i + 1 : Nat) : Int) := by
    unfold wrap64
    omega
   have q1 : 0 ≤ (i : Int) ∧ (i : Int) < 8 := by omega
   have HWR := Aside0.mk hwr
   clear hv hu hok hoa h1
   obtain ⟨k1_, rfl⟩ : ∃ k1_, gk = k1_ + 1 := ⟨gk - 1, by have := HI.out; have := H1.out; omega⟩
   by_cases ha : (i : Int) < words
   ·have ca : decide ((i : Int) < words) = true := decide_eq_true ha
    have ca2 : decide ((i : Int) ≥ words) = false := decide_eq_false (by omega)
    have ca3 : decide (words ≤ (i : Int)) = false := decide_eq_false (by omega)
    have HK0 := Aside0.mk (HOK.out.trans (if_pos ha))
    clear ha
    by_cases hx1 : v < 1
    ·have ce : decide (v < 1) = true := decide_eq_true hx1
     have HF := Aside0.mk (show r = false by rw [HR1.out, all_bad H1.out (HK0.out.trans (by rw [decide_eq_false (show ¬ 1 ≤ v by omega), Bool.false_and])), Bool.false_and])
     clear hx1
     go_wp2_with (fail)
     go_ret
     exact ⟨by (rw [HF.out]; rfl), (by repeat (first | (with_reducible first | exact HB.out | apply below_alloc | apply pw_below_drewN | apply below_drew1) | exact HB.out))⟩
    have ce : decide (v < 1) = false := decide_eq_false hx1
    by_cases hx2 : v > 4
    ·have cf : decide (v > 4) = true := decide_eq_true hx2
     have HF := Aside0.mk (show r = false by rw [HR1.out, all_bad H1.out (HK0.out.trans (by rw [decide_eq_false (show ¬ v ≤ 4 by omega), Bool.and_false])), Bool.false_and])
     clear hx1 hx2
     go_wp2_with (fail)
     go_ret
     exact ⟨by (rw [HF.out]; rfl), (by repeat (first | (with_reducible first | exact HB.out | apply below_alloc | apply pw_below_drewN | apply below_drew1) | exact HB.out))⟩
    have cf : decide (v > 4) = false := decide_eq_false hx2
    have HT := Aside0.mk (HK0.out.trans (by rw [decide_eq_true (show 1 ≤ v by omega), decide_eq_true (show v ≤ 4 by omega), Bool.true_and]))
    clear hx1 hx2
    by_cases hb1 : u < 0
    ·have cb : decide (u < 0) = true := decide_eq_true hb1
     have HF := Aside0.mk (show r = false by rw [HR1.out, all_bad (n := 8) (f := agOK [g0, g1, g2, g3, g4, g5, g6, g7]) H1.out (HOA.out.trans (by rw [decide_eq_false (show ¬ 0 ≤ u by omega), Bool.false_and])), Bool.false_and, Bool.and_false])
     clear hb1
     go_wp2_with (fail)
     go_ret
     exact ⟨by (rw [HF.out]; rfl), (by repeat (first | (with_reducible first | exact HB.out | apply below_alloc | apply pw_below_drewN | apply below_drew1) | exact HB.out))⟩
    have cb : decide (u < 0) = false := decide_eq_false hb1
    by_cases hb2 : u > 4
    ·have cc : decide (u > 4) = true := decide_eq_true hb2
     have HF := Aside0.mk (show r = false by rw [HR1.out, all_bad (n := 8) (f := agOK [g0, g1, g2, g3, g4, g5, g6, g7]) H1.out (HOA.out.trans (by rw [decide_eq_false (show ¬ u ≤ 4 by omega), Bool.and_false])), Bool.false_and, Bool.and_false])
     clear hb1 hb2
     go_wp2_with (fail)
     go_ret
     exact ⟨by (rw [HF.out]; rfl), (by repeat (first | (with_reducible first | exact HB.out | apply below_alloc | apply pw_below_drewN | apply below_drew1) | exact HB.out))⟩
    have cc : decide (u > 4) = false := decide_eq_false hb2
    have HTA := Aside0.mk (HOA.out.trans (by rw [decide_eq_true (show 0 ≤ u by omega), decide_eq_true (show u ≤ 4 by omega), Bool.true_and]))
    clear hb1 hb2
    go_wp2
    go_roundg k1_
    case measure => omega
    case rel => exact ⟨i + 1, (by first | rfl | (rw [HWR.out])), ⟨by have := HI.out; omega⟩, ⟨fun j hj => by
     by_cases e : j = i
     ·subst e
      exact ⟨HT.out, HTA.out⟩
     exact HQ.out j (by omega)⟩, HE, HB⟩
   have ca : decide ((i : Int) < words) = false := decide_eq_false ha
   have ca2 : decide ((i : Int) ≥ words) = true := decide_eq_true (by omega)
   have ca3 : decide (words ≤ (i : Int)) = true := decide_eq_true (by omega)
   have HK0 := Aside0.mk (HOK.out.trans (if_neg ha))
   clear ha
   by_cases hx1 : v = 0
   ·have ce : (v != 0) = false := bne_eq_false_iff_eq.mpr hx1
    have HT := Aside0.mk (HK0.out.trans (decide_eq_true hx1))
    clear hx1
    by_cases hb1 : u < 0
    ·have cb : decide (u < 0) = true := decide_eq_true hb1
     have HF := Aside0.mk (show r = false by rw [HR1.out, all_bad (n := 8) (f := agOK [g0, g1, g2, g3, g4, g5, g6, g7]) H1.out (HOA.out.trans (by rw [decide_eq_false (show ¬ 0 ≤ u by omega), Bool.false_and])), Bool.false_and, Bool.and_false])
     clear hb1
     go_wp2_with (fail)
     go_ret
     exact ⟨by (rw [HF.out]; rfl), (by repeat (first | (with_reducible first | exact HB.out | apply below_alloc | apply pw_below_drewN | apply below_drew1) | exact HB.out))⟩
    have cb : decide (u < 0) = false := decide_eq_false hb1
    by_cases hb2 : u > 4
    ·have cc : decide (u > 4) = true := decide_eq_true hb2
     have HF := Aside0.mk (show r = false by rw [HR1.out, all_bad (n := 8) (f := agOK [g0, g1, g2, g3, g4, g5, g6, g7]) H1.out (HOA.out.trans (by rw [decide_eq_false (show ¬ u ≤ 4 by omega), Bool.and_false])), Bool.false_and, Bool.and_false])
     clear hb1 hb2
     go_wp2_with (fail)
     go_ret
     exact ⟨by (rw [HF.out]; rfl), (by repeat (first | (with_reducible first | exact HB.out | apply below_alloc | apply pw_below_drewN | apply below_drew1) | exact HB.out))⟩
    have cc : decide (u > 4) = false := decide_eq_false hb2
    have HTA := Aside0.mk (HOA.out.trans (by rw [decide_eq_true (show 0 ≤ u by omega), decide_eq_true (show u ≤ 4 by omega), Bool.true_and]))
    clear hb1 hb2
    go_wp2
    go_roundg k1_
    case measure => omega
    case rel => exact ⟨i + 1, (by first | rfl | (rw [HWR.out])), ⟨by have := HI.out; omega⟩, ⟨fun j hj => by
     by_cases e : j = i
     ·subst e
      exact ⟨HT.out, HTA.out⟩
     exact HQ.out j (by omega)⟩, HE, HB⟩
   have ce : (v != 0) = true := bne_iff_ne.mpr hx1
   have HF := Aside0.mk (show r = false by rw [HR1.out, all_bad H1.out (HK0.out.trans (decide_eq_false hx1)), Bool.false_and])
   clear hx1
   go_wp2_with (fail)
   go_ret
   exact ⟨by (rw [HF.out]; rfl), (by repeat (first | (with_reducible first | exact HB.out | apply below_alloc | apply pw_below_drewN | apply below_drew1) | exact HB.out))⟩
  have c1 : decide ((i : Int) < 8) = false := decide_eq_false (by omega)
  obtain rfl : i = 8 := by have := HI.out; omega
  have HR2 := Aside0.mk (HR1.out.trans (by rw [all_good (fun j hj => (HQ.out j hj).1), Bool.true_and]))
  have HR3 := Aside0.mk (HR2.out.trans (by rw [all_good (fun j hj => (HQ.out j hj).2), Bool.true_and]))
  clear h1 HI HQ HR1 HR2 HR he0
  go_wp2
  clear c1
  go_loopg [5] 4 (fun kq v5 w' => ∃ i : Nat, v5 = .int .i64 (i : Int) ∧ Aside0 (kq + i = 4) ∧ Aside0 (∀ j, j < i → ctOK [t0, t1, t2, t3] j = true) ∧ Aside0 (w'.heap[w.heap.size]? = some (.cells #[.int .i64 words, .int .i64 s0, .int .i64 s1, .int .i64 s2, .int .i64 s3, .int .i64 s4, .int .i64 s5, .int .i64 s6, .int .i64 s7, .int .i64 g0, .int .i64 g1, .int .i64 g2, .int .i64 g3, .int .i64 g4, .int .i64 g5, .int .i64 g6, .int .i64 g7, .int .i64 t0, .int .i64 t1, .int .i64 t2, .int .i64 t3, .int .i64 ma, .int .i64 mb, .int .i64 sa, .int .i64 na, .int .i64 sb, .int .i64 nb, .bool both, h0, h1, h2, h3, h4] 31 (0, 0))) ∧ Aside0 (Below w.heap.size w w'))
  case atStart => exact ⟨0, rfl, ⟨rfl⟩, ⟨fun j hj => by omega⟩, HE, HB⟩
  case round =>
   clear HE HB
   obtain ⟨i, rfl, HI, HQ, HE, HB⟩ := hrel
   by_cases h1 : i < 4
   ·have c1 : decide ((i : Int) < 4) = true := decide_eq_true (by omega)
    have H1 := Aside0.mk h1
    have hc1 := kd_cell3 HE.out i h1
    have hok : ctOK [t0, t1, t2, t3] i = (decide ([t0, t1, t2, t3].getD i 0 = 0) || plainB ([t0, t1, t2, t3].getD i 0)) := rfl
    obtain ⟨v, hv⟩ : ∃ v, v = [t0, t1, t2, t3].getD i 0 := ⟨_, rfl⟩
    rw [← hv] at hc1 hok
    have HOK := Aside0.mk hok
    have hwr : wrap64 ((i : Int) + 1) = ((i + 1 : Nat) : Int) := by
     unfold wrap64
     omega
    have q1 : 0 ≤ (i : Int) ∧ (i : Int) < 4 := by omega
    have HWR := Aside0.mk hwr
    clear hv hok h1
    obtain ⟨k1_, rfl⟩ : ∃ k1_, gk = k1_ + 1 := ⟨gk - 1, by have := HI.out; have := H1.out; omega⟩
    by_cases hb1 : v = 0
    ·have cb : (v != 0) = false := bne_eq_false_iff_eq.mpr hb1
     have cb2 : (v == 0) = true := beq_iff_eq.mpr hb1
     have HT := Aside0.mk (HOK.out.trans (by rw [decide_eq_true hb1, Bool.true_or]))
     clear hb1
     go_wp2
     have HEX := HE
     have HBX := HB
     go_roundg k1_
     case measure => omega
     case rel => exact ⟨i + 1, (by first | rfl | (rw [HWR.out])), ⟨by have := HI.out; omega⟩, ⟨fun j hj => by
      by_cases e : j = i
      ·subst e
       exact HT.out
      exact HQ.out j (by omega)⟩, HEX, HBX⟩
    have cb : (v != 0) = true := bne_iff_ne.mpr hb1
    have cb2 : (v == 0) = false := beq_eq_false_iff_ne.mpr hb1
    have HK0 := Aside0.mk (HOK.out.trans (by rw [decide_eq_false hb1, Bool.false_or]))
    clear hb1
    rcases hp : plainB v with _ | _
    ·have HF := Aside0.mk (show r = false by rw [HR3.out, all_bad H1.out (HK0.out.trans hp), Bool.false_and])
     have HP := Aside0.mk ((plainQ_val v).trans (congrArg some hp))
     clear hp
     go_wp2_with (go_at_call 24; (with_reducible refine (sluiceref11_plain.calls v _ _ HP.out).mono ?_); rintro e wp ⟨rfl, ⟨nd1, rfl⟩⟩)
     go_ret
     exact ⟨by (rw [HF.out]; rfl), (by repeat (first | (with_reducible first | exact HB.out | apply below_alloc | apply pw_below_drewN | apply below_drew1) | exact HB.out))⟩
    have HT := Aside0.mk (HK0.out.trans hp)
    have HP := Aside0.mk ((plainQ_val v).trans (congrArg some hp))
    clear hp
    go_wp2_with (go_at_call 24; (with_reducible refine (sluiceref11_plain.calls v _ _ HP.out).mono ?_); rintro e wp ⟨rfl, ⟨nd1, rfl⟩⟩)
    have HEX := HE
    have HBX := Aside0.mk (pw_below_drewN HB.out nd1)
    go_roundg k1_
    case measure => omega
    case rel => exact ⟨i + 1, (by first | rfl | (rw [HWR.out])), ⟨by have := HI.out; omega⟩, ⟨fun j hj => by
     by_cases e : j = i
     ·subst e
      exact HT.out
     exact HQ.out j (by omega)⟩, HEX, HBX⟩
   have c1 : decide ((i : Int) < 4) = false := decide_eq_false (by omega)
   obtain rfl : i = 4 := by have := HI.out; omega
   have HR4 := Aside0.mk (HR3.out.trans (by rw [all_good HQ.out, Bool.true_and]))
   clear h1 HI HQ HR3
   go_upto_region 18 with (fail)
   clear c1
   obtain ⟨ru, we, hrp⟩ : ∃ x y, runP [s0, s1, s2, s3, s4, s5, s6, s7] = (x, y) := ⟨(runP [s0, s1, s2, s3, s4, s5, s6, s7]).1, (runP [s0, s1, s2, s3, s4, s5, s6, s7]).2, Prod.ext rfl rfl⟩
   obtain ⟨rg, fi, hrg⟩ : ∃ x y, runP [g0, g1, g2, g3, g4, g5, g6, g7] = (x, y) := ⟨(runP [g0, g1, g2, g3, g4, g5, g6, g7]).1, (runP [g0, g1, g2, g3, g4, g5, g6, g7]).2, Prod.ext rfl rfl⟩
   have HR5 := Aside0.mk (HR4.out.trans (by rw [hrp, hrg]))
   have HPS := Aside0.mk (show ∀ W, Calls Try.prog 25 #[.agg #[.int .i64 s0, .int .i64 s1, .int .i64 s2, .int .i64 s3, .int .i64 s4, .int .i64 s5, .int .i64 s6, .int .i64 s7]] W fun e w' => ∃ q : Int, e = .returned (.tuple #[.int .i64 q, .bool we]) ∧ (we = true → q = ru) ∧ Below W.heap.size W w' from fun W => by have h := runQR s0 s1 s2 s3 s4 s5 s6 s7 W; rw [hrp] at h; exact h)
   have HPG := Aside0.mk (show ∀ W, Calls Try.prog 25 #[.agg #[.int .i64 g0, .int .i64 g1, .int .i64 g2, .int .i64 g3, .int .i64 g4, .int .i64 g5, .int .i64 g6, .int .i64 g7]] W fun e w' => ∃ q : Int, e = .returned (.tuple #[.int .i64 q, .bool fi]) ∧ (fi = true → q = rg) ∧ Below W.heap.size W w' from fun W => by have h := runQR g0 g1 g2 g3 g4 g5 g6 g7 W; rw [hrg] at h; exact h)
   clear hrp hrg HR4
   have he1 : _ = some (Value.int .i64 s0) := blk_cell HE.out 1
   have he2 : _ = some (Value.int .i64 s1) := blk_cell HE.out 2
   have he3 : _ = some (Value.int .i64 s2) := blk_cell HE.out 3
   have he4 : _ = some (Value.int .i64 s3) := blk_cell HE.out 4
   have he5 : _ = some (Value.int .i64 s4) := blk_cell HE.out 5
   have he6 : _ = some (Value.int .i64 s5) := blk_cell HE.out 6
   have he7 : _ = some (Value.int .i64 s6) := blk_cell HE.out 7
   have he8 : _ = some (Value.int .i64 s7) := blk_cell HE.out 8
   go_upto_region 19 with (go_at_call 25; refine (HPS.out _).mono ?_; rintro e w9 ⟨qs, rfl, hqs, hb⟩; have n0_ := Aside0.mk (below_then HB.out HB.out.size hb); have n1_ := Aside0.mk ((hb.block w.heap.size (blk_lt HE.out)).trans HE.out); clear HB HE hb he1 he2 he3 he4 he5 he6 he7 he8; have HQS := Aside0.mk hqs; clear hqs; have HB := n0_; have HE := n1_; clear n0_ n1_)
   have he9 : _ = some (Value.int .i64 g0) := blk_cell HE.out 9
   have he10 : _ = some (Value.int .i64 g1) := blk_cell HE.out 10
   have he11 : _ = some (Value.int .i64 g2) := blk_cell HE.out 11
   have he12 : _ = some (Value.int .i64 g3) := blk_cell HE.out 12
   have he13 : _ = some (Value.int .i64 g4) := blk_cell HE.out 13
   have he14 : _ = some (Value.int .i64 g5) := blk_cell HE.out 14
   have he15 : _ = some (Value.int .i64 g6) := blk_cell HE.out 15
   have he16 : _ = some (Value.int .i64 g7) := blk_cell HE.out 16
   go_upto_region 20 with (go_at_call 25; refine (HPG.out _).mono ?_; rintro e w9 ⟨qg, rfl, hqg, hb⟩; have n0_ := Aside0.mk (below_then HB.out HB.out.size hb); have n1_ := Aside0.mk ((hb.block w.heap.size (blk_lt HE.out)).trans HE.out); clear HB HE hb he9 he10 he11 he12 he13 he14 he15 he16 hqg; have HB := n0_; have HE := n1_; clear n0_ n1_)
   clear HPS HPG
   obtain ⟨pm, hpm⟩ : ∃ x, x = plainB ma := ⟨_, rfl⟩
   obtain ⟨pb, hpb⟩ : ∃ x, x = plainB mb := ⟨_, rfl⟩
   have HPM := Aside0.mk (show sluiceref11_plain.f ma = some pm by rw [hpm]; exact plainQ_val ma)
   have HPB := Aside0.mk (show sluiceref11_plain.f mb = some pb by rw [hpb]; exact plainQ_val mb)
   have HR6 := Aside0.mk (HR5.out.trans (by rw [← hpm, ← hpb]))
   clear hpm hpb HR5
   have he21 : _ = some (Value.int .i64 ma) := blk_cell HE.out 21
   have he22 : _ = some (Value.int .i64 mb) := blk_cell HE.out 22
   rcases we with _ | _
   ·have HF := Aside0.mk (show r = false by rw [HR6.out]; simp only [Bool.false_and])
    go_wp2_with (first | (go_at_call 24; (with_reducible refine (sluiceref11_plain.calls ma _ _ HPM.out).mono ?_); rintro e wp ⟨rfl, ⟨nd1, rfl⟩⟩) | (go_at_call 24; (with_reducible refine (sluiceref11_plain.calls mb _ _ HPB.out).mono ?_); rintro e wp ⟨rfl, ⟨nd2, rfl⟩⟩))
    go_ret
    exact ⟨by (rw [HF.out]; rfl), (by repeat (first | (with_reducible first | exact HB.out | apply below_alloc | apply pw_below_drewN | apply below_drew1) | exact HB.out))⟩
   rcases fi with _ | _
   ·have HF := Aside0.mk (show r = false by rw [HR6.out]; simp only [Bool.false_and, Bool.and_false])
    go_wp2_with (first | (go_at_call 24; (with_reducible refine (sluiceref11_plain.calls ma _ _ HPM.out).mono ?_); rintro e wp ⟨rfl, ⟨nd1, rfl⟩⟩) | (go_at_call 24; (with_reducible refine (sluiceref11_plain.calls mb _ _ HPB.out).mono ?_); rintro e wp ⟨rfl, ⟨nd2, rfl⟩⟩))
    go_ret
    exact ⟨by (rw [HF.out]; rfl), (by repeat (first | (with_reducible first | exact HB.out | apply below_alloc | apply pw_below_drewN | apply below_drew1) | exact HB.out))⟩
   rcases pm with _ | _
   ·have HF := Aside0.mk (show r = false by rw [HR6.out]; simp only [Bool.false_and, Bool.and_false])
    go_wp2_with (first | (go_at_call 24; (with_reducible refine (sluiceref11_plain.calls ma _ _ HPM.out).mono ?_); rintro e wp ⟨rfl, ⟨nd1, rfl⟩⟩) | (go_at_call 24; (with_reducible refine (sluiceref11_plain.calls mb _ _ HPB.out).mono ?_); rintro e wp ⟨rfl, ⟨nd2, rfl⟩⟩))
    go_ret
    exact ⟨by (rw [HF.out]; rfl), (by repeat (first | (with_reducible first | exact HB.out | apply below_alloc | apply pw_below_drewN | apply below_drew1) | exact HB.out))⟩
   have hqe := HQS.out rfl
   subst hqe
   by_cases hb0 : mb = 0
   case' pos =>
    have cb : (mb != 0) = false := bne_eq_false_iff_eq.mpr hb0
    have cb2 : (mb == 0) = true := beq_iff_eq.mpr hb0
    have HR7 := Aside0.mk (show r = ((flowsB words [s0, s1, s2, s3, s4, s5, s6, s7] qs sa na ma && flowsB words [s0, s1, s2, s3, s4, s5, s6, s7] qs sb nb mb) && (decide (na = 0) || (decide (nb = 0) || apartB sa na sb nb))) by rw [HR6.out, decide_eq_true hb0]; simp only [Bool.true_and, Bool.true_or])
    clear hb0
    go_upto_region 22 with (first | (go_at_call 24; (with_reducible refine (sluiceref11_plain.calls ma _ _ HPM.out).mono ?_); rintro e wp ⟨rfl, ⟨nd1, rfl⟩⟩) | (go_at_call 24; (with_reducible refine (sluiceref11_plain.calls mb _ _ HPB.out).mono ?_); rintro e wp ⟨rfl, ⟨nd2, rfl⟩⟩))
    have n0_ := Aside0.mk (show (w9.drewN nd1).heap[w.heap.size]? = some (.cells #[.int .i64 words, .int .i64 s0, .int .i64 s1, .int .i64 s2, .int .i64 s3, .int .i64 s4, .int .i64 s5, .int .i64 s6, .int .i64 s7, .int .i64 g0, .int .i64 g1, .int .i64 g2, .int .i64 g3, .int .i64 g4, .int .i64 g5, .int .i64 g6, .int .i64 g7, .int .i64 t0, .int .i64 t1, .int .i64 t2, .int .i64 t3, .int .i64 ma, .int .i64 mb, .int .i64 sa, .int .i64 na, .int .i64 sb, .int .i64 nb, .bool both, h0, h1, h2, h3, h4] 31 (0, 0)) from HE.out)
    have n1_ := Aside0.mk (pw_below_drewN HB.out (nd1))
    clear HE HB he21 he22
    have HE := n0_
    have HB := n1_
    clear n0_ n1_
    generalize w9.drewN nd1 = w3 at HE HB ⊢
   case' neg =>
    have cb : (mb != 0) = true := bne_iff_ne.mpr hb0
    have cb2 : (mb == 0) = false := beq_eq_false_iff_ne.mpr hb0
    rcases pb with _ | _
    case false =>
     have HF := Aside0.mk (show r = false by rw [HR6.out, decide_eq_false hb0]; simp only [Bool.false_and, Bool.and_false, Bool.false_or])
     clear hb0
     go_wp2_with (first | (go_at_call 24; (with_reducible refine (sluiceref11_plain.calls ma _ _ HPM.out).mono ?_); rintro e wp ⟨rfl, ⟨nd1, rfl⟩⟩) | (go_at_call 24; (with_reducible refine (sluiceref11_plain.calls mb _ _ HPB.out).mono ?_); rintro e wp ⟨rfl, ⟨nd2, rfl⟩⟩))
     go_ret
     exact ⟨by (rw [HF.out]; rfl), (by repeat (first | (with_reducible first | exact HB.out | apply below_alloc | apply pw_below_drewN | apply below_drew1) | exact HB.out))⟩
    have HR7 := Aside0.mk (show r = ((flowsB words [s0, s1, s2, s3, s4, s5, s6, s7] qs sa na ma && flowsB words [s0, s1, s2, s3, s4, s5, s6, s7] qs sb nb mb) && (decide (na = 0) || (decide (nb = 0) || apartB sa na sb nb))) by rw [HR6.out, decide_eq_false hb0]; simp only [Bool.true_and, Bool.false_or])
    clear hb0
    go_upto_region 22 with (first | (go_at_call 24; (with_reducible refine (sluiceref11_plain.calls ma _ _ HPM.out).mono ?_); rintro e wp ⟨rfl, ⟨nd1, rfl⟩⟩) | (go_at_call 24; (with_reducible refine (sluiceref11_plain.calls mb _ _ HPB.out).mono ?_); rintro e wp ⟨rfl, ⟨nd2, rfl⟩⟩))
    have n0_ := Aside0.mk (show (w9.drewN (nd1 + nd2)).heap[w.heap.size]? = some (.cells #[.int .i64 words, .int .i64 s0, .int .i64 s1, .int .i64 s2, .int .i64 s3, .int .i64 s4, .int .i64 s5, .int .i64 s6, .int .i64 s7, .int .i64 g0, .int .i64 g1, .int .i64 g2, .int .i64 g3, .int .i64 g4, .int .i64 g5, .int .i64 g6, .int .i64 g7, .int .i64 t0, .int .i64 t1, .int .i64 t2, .int .i64 t3, .int .i64 ma, .int .i64 mb, .int .i64 sa, .int .i64 na, .int .i64 sb, .int .i64 nb, .bool both, h0, h1, h2, h3, h4] 31 (0, 0)) from HE.out)
    have n1_ := Aside0.mk (pw_below_drewN HB.out (nd1 + nd2))
    clear HE HB he21 he22
    have HE := n0_
    have HB := n1_
    clear n0_ n1_
    generalize w9.drewN (nd1 + nd2) = w3 at HE HB ⊢
   all_goals
    have he21 : _ = some (Value.int .i64 ma) := blk_cell HE.out 21
    have he22 : _ = some (Value.int .i64 mb) := blk_cell HE.out 22
    have he23 : _ = some (Value.int .i64 sa) := blk_cell HE.out 23
    have he24 : _ = some (Value.int .i64 na) := blk_cell HE.out 24
    have he25 : _ = some (Value.int .i64 sb) := blk_cell HE.out 25
    have he26 : _ = some (Value.int .i64 nb) := blk_cell HE.out 26
    have HFA := Aside0.mk (fun W => sideR words s0 s1 s2 s3 s4 s5 s6 s7 g0 g1 g2 g3 g4 g5 g6 g7 t0 t1 t2 t3 ma mb sa na sb nb both h0 h1 h2 h3 h4 qs sa na ma W HWD.out.2)
    have HFB := Aside0.mk (fun W => sideR words s0 s1 s2 s3 s4 s5 s6 s7 g0 g1 g2 g3 g4 g5 g6 g7 t0 t1 t2 t3 ma mb sa na sb nb both h0 h1 h2 h3 h4 qs sb nb mb W HWD.out.2)
    have HRA0 := Aside0.mk (show flowsB words [s0, s1, s2, s3, s4, s5, s6, s7] qs sa na ma = true → na ≠ 0 → 0 ≤ sa ∧ sa < 8 from fun h h2 => by have := flows_range h h2; have := HWD.out; omega)
    have HRB0 := Aside0.mk (show flowsB words [s0, s1, s2, s3, s4, s5, s6, s7] qs sb nb mb = true → nb ≠ 0 → 0 ≤ sb ∧ sb < 8 from fun h h2 => by have := flows_range h h2; have := HWD.out; omega)
    generalize flowsB words [s0, s1, s2, s3, s4, s5, s6, s7] qs sa na ma = fa at HFA HR7 HRA0
    generalize flowsB words [s0, s1, s2, s3, s4, s5, s6, s7] qs sb nb mb = fb at HFB HR7 HRB0
    rcases fa with _ | _
    ·have HF := Aside0.mk (show r = false by rw [HR7.out]; simp only [Bool.false_and])
     go_wp2_with (first | ((with_reducible refine wpList_load_row rfl 31 (.tmp 1) rfl w.heap.size rfl _ _ _ _ HE.out Try.underlying31 rfl (by kernel_rfl) ?_)) | (go_big_want; (with_reducible refine wp_load_row 31 (.tmp 1) rfl w.heap.size rfl _ _ _ _ HE.out Try.underlying31 rfl (by kernel_rfl) ?_)) | (go_at_call 26; (with_reducible refine (HFA.out _).mono ?_); rintro e w5 ⟨rfl, hb⟩; have n0_ := Aside0.mk (below_then HB.out HB.out.size hb); have n1_ := Aside0.mk ((hb.block w.heap.size (blk_lt HE.out)).trans HE.out); clear HB HE hb he21 he22 he23 he24 he25 he26; have HB := n0_; have HE := n1_; clear n0_ n1_; have he21 : _ = some (Value.int .i64 ma) := blk_cell HE.out 21; have he22 : _ = some (Value.int .i64 mb) := blk_cell HE.out 22; have he23 : _ = some (Value.int .i64 sa) := blk_cell HE.out 23; have he24 : _ = some (Value.int .i64 na) := blk_cell HE.out 24; have he25 : _ = some (Value.int .i64 sb) := blk_cell HE.out 25; have he26 : _ = some (Value.int .i64 nb) := blk_cell HE.out 26) | (go_at_call 26; (with_reducible refine (HFB.out _).mono ?_); rintro e w5 ⟨rfl, hb⟩; have n0_ := Aside0.mk (below_then HB.out HB.out.size hb); have n1_ := Aside0.mk ((hb.block w.heap.size (blk_lt HE.out)).trans HE.out); clear HB HE hb he21 he22 he23 he24 he25 he26; have HB := n0_; have HE := n1_; clear n0_ n1_; have he21 : _ = some (Value.int .i64 ma) := blk_cell HE.out 21; have he22 : _ = some (Value.int .i64 mb) := blk_cell HE.out 22; have he23 : _ = some (Value.int .i64 sa) := blk_cell HE.out 23; have he24 : _ = some (Value.int .i64 na) := blk_cell HE.out 24; have he25 : _ = some (Value.int .i64 sb) := blk_cell HE.out 25; have he26 : _ = some (Value.int .i64 nb) := blk_cell HE.out 26))
     go_ret
     exact ⟨by (rw [HF.out]; rfl), (by repeat (first | (with_reducible first | exact HB.out | apply below_alloc | apply pw_below_drewN | apply below_drew1) | exact HB.out))⟩
    rcases fb with _ | _
    ·have HF := Aside0.mk (show r = false by rw [HR7.out]; simp only [Bool.false_and, Bool.and_false])
     go_wp2_with (first | ((with_reducible refine wpList_load_row rfl 31 (.tmp 1) rfl w.heap.size rfl _ _ _ _ HE.out Try.underlying31 rfl (by kernel_rfl) ?_)) | (go_big_want; (with_reducible refine wp_load_row 31 (.tmp 1) rfl w.heap.size rfl _ _ _ _ HE.out Try.underlying31 rfl (by kernel_rfl) ?_)) | (go_at_call 26; (with_reducible refine (HFA.out _).mono ?_); rintro e w5 ⟨rfl, hb⟩; have n0_ := Aside0.mk (below_then HB.out HB.out.size hb); have n1_ := Aside0.mk ((hb.block w.heap.size (blk_lt HE.out)).trans HE.out); clear HB HE hb he21 he22 he23 he24 he25 he26; have HB := n0_; have HE := n1_; clear n0_ n1_; have he21 : _ = some (Value.int .i64 ma) := blk_cell HE.out 21; have he22 : _ = some (Value.int .i64 mb) := blk_cell HE.out 22; have he23 : _ = some (Value.int .i64 sa) := blk_cell HE.out 23; have he24 : _ = some (Value.int .i64 na) := blk_cell HE.out 24; have he25 : _ = some (Value.int .i64 sb) := blk_cell HE.out 25; have he26 : _ = some (Value.int .i64 nb) := blk_cell HE.out 26) | (go_at_call 26; (with_reducible refine (HFB.out _).mono ?_); rintro e w5 ⟨rfl, hb⟩; have n0_ := Aside0.mk (below_then HB.out HB.out.size hb); have n1_ := Aside0.mk ((hb.block w.heap.size (blk_lt HE.out)).trans HE.out); clear HB HE hb he21 he22 he23 he24 he25 he26; have HB := n0_; have HE := n1_; clear n0_ n1_; have he21 : _ = some (Value.int .i64 ma) := blk_cell HE.out 21; have he22 : _ = some (Value.int .i64 mb) := blk_cell HE.out 22; have he23 : _ = some (Value.int .i64 sa) := blk_cell HE.out 23; have he24 : _ = some (Value.int .i64 na) := blk_cell HE.out 24; have he25 : _ = some (Value.int .i64 sb) := blk_cell HE.out 25; have he26 : _ = some (Value.int .i64 nb) := blk_cell HE.out 26))
     go_ret
     exact ⟨by (rw [HF.out]; rfl), (by repeat (first | (with_reducible first | exact HB.out | apply below_alloc | apply pw_below_drewN | apply below_drew1) | exact HB.out))⟩
    have HR8 := Aside0.mk (show r = (decide (na = 0) || (decide (nb = 0) || apartB sa na sb nb)) by rw [HR7.out]; simp only [Bool.true_and])
    have HRA := Aside0.mk (HRA0.out rfl)
    have HRB := Aside0.mk (HRB0.out rfl)
    clear HRA0 HRB0
    go_upto_region 25 with (first | ((with_reducible refine wpList_load_row rfl 31 (.tmp 1) rfl w.heap.size rfl _ _ _ _ HE.out Try.underlying31 rfl (by kernel_rfl) ?_)) | (go_big_want; (with_reducible refine wp_load_row 31 (.tmp 1) rfl w.heap.size rfl _ _ _ _ HE.out Try.underlying31 rfl (by kernel_rfl) ?_)) | (go_at_call 26; (with_reducible refine (HFA.out _).mono ?_); rintro e w5 ⟨rfl, hb⟩; have n0_ := Aside0.mk (below_then HB.out HB.out.size hb); have n1_ := Aside0.mk ((hb.block w.heap.size (blk_lt HE.out)).trans HE.out); clear HB HE hb he21 he22 he23 he24 he25 he26; have HB := n0_; have HE := n1_; clear n0_ n1_; have he21 : _ = some (Value.int .i64 ma) := blk_cell HE.out 21; have he22 : _ = some (Value.int .i64 mb) := blk_cell HE.out 22; have he23 : _ = some (Value.int .i64 sa) := blk_cell HE.out 23; have he24 : _ = some (Value.int .i64 na) := blk_cell HE.out 24; have he25 : _ = some (Value.int .i64 sb) := blk_cell HE.out 25; have he26 : _ = some (Value.int .i64 nb) := blk_cell HE.out 26) | (go_at_call 26; (with_reducible refine (HFB.out _).mono ?_); rintro e w5 ⟨rfl, hb⟩; have n0_ := Aside0.mk (below_then HB.out HB.out.size hb); have n1_ := Aside0.mk ((hb.block w.heap.size (blk_lt HE.out)).trans HE.out); clear HB HE hb he21 he22 he23 he24 he25 he26; have HB := n0_; have HE := n1_; clear n0_ n1_; have he21 : _ = some (Value.int .i64 ma) := blk_cell HE.out 21; have he22 : _ = some (Value.int .i64 mb) := blk_cell HE.out 22; have he23 : _ = some (Value.int .i64 sa) := blk_cell HE.out 23; have he24 : _ = some (Value.int .i64 na) := blk_cell HE.out 24; have he25 : _ = some (Value.int .i64 sb) := blk_cell HE.out 25; have he26 : _ = some (Value.int .i64 nb) := blk_cell HE.out 26))
    have HU := Aside0.mk (show UsedAt w5.heap.size (w5.alloc (.cells #[.int .i64 0, .int .i64 0, .int .i64 0, .int .i64 0, .int .i64 0, .int .i64 0, .int .i64 0, .int .i64 0, .int .i64 0, .int .i64 0, .int .i64 0, .int .i64 0, .int .i64 0, .int .i64 0, .int .i64 0, .int .i64 0] 72)) (fun j => (0 : Int)) from ⟨_, heap_alloc_new w5 (.cells #[.int .i64 0, .int .i64 0, .int .i64 0, .int .i64 0, .int .i64 0, .int .i64 0, .int .i64 0, .int .i64 0, .int .i64 0, .int .i64 0, .int .i64 0, .int .i64 0, .int .i64 0, .int .i64 0, .int .i64 0, .int .i64 0] 72), rfl, fun j hj => (by
     have : j = 0 ∨ j = 1 ∨ j = 2 ∨ j = 3 ∨ j = 4 ∨ j = 5 ∨ j = 6 ∨ j = 7 ∨ j = 8 ∨ j = 9 ∨ j = 10 ∨ j = 11 ∨ j = 12 ∨ j = 13 ∨ j = 14 ∨ j = 15 := by omega
     rcases this with rfl | rfl | rfl | rfl | rfl | rfl | rfl | rfl | rfl | rfl | rfl | rfl | rfl | rfl | rfl | rfl <;> rfl)⟩)
    have n0_ := Aside0.mk (blk_alloc HE.out (.cells #[.int .i64 0, .int .i64 0, .int .i64 0, .int .i64 0, .int .i64 0, .int .i64 0, .int .i64 0, .int .i64 0, .int .i64 0, .int .i64 0, .int .i64 0, .int .i64 0, .int .i64 0, .int .i64 0, .int .i64 0, .int .i64 0] 72))
    have n1_ := Aside0.mk (below_alloc HB.out (.cells #[.int .i64 0, .int .i64 0, .int .i64 0, .int .i64 0, .int .i64 0, .int .i64 0, .int .i64 0, .int .i64 0, .int .i64 0, .int .i64 0, .int .i64 0, .int .i64 0, .int .i64 0, .int .i64 0, .int .i64 0, .int .i64 0] 72))
    have HGU := Aside0.mk (show w.heap.size < w5.heap.size from blk_lt HE.out)
    clear HE HB HFA HFB HR7 he21 he22 he23 he24 he25 he26
    have HE := n0_
    have HB := n1_
    clear n0_ n1_
    generalize w5.alloc (.cells #[.int .i64 0, .int .i64 0, .int .i64 0, .int .i64 0, .int .i64 0, .int .i64 0, .int .i64 0, .int .i64 0, .int .i64 0, .int .i64 0, .int .i64 0, .int .i64 0, .int .i64 0, .int .i64 0, .int .i64 0, .int .i64 0] 72) = w6 at HU HE HB ⊢
    generalize w5.heap.size = gu at HU HGU ⊢
    have he21 : _ = some (Value.int .i64 ma) := blk_cell HE.out 21
    have he22 : _ = some (Value.int .i64 mb) := blk_cell HE.out 22
    have he23 : _ = some (Value.int .i64 sa) := blk_cell HE.out 23
    have he24 : _ = some (Value.int .i64 na) := blk_cell HE.out 24
    have he25 : _ = some (Value.int .i64 sb) := blk_cell HE.out 25
    have he26 : _ = some (Value.int .i64 nb) := blk_cell HE.out 26
    by_cases z1 : na = 0
    ·have y1 : (na != 0) = false := bne_eq_false_iff_eq.mpr z1
     have HZ1 := Aside0.mk z1
     clear z1
     by_cases z2 : nb = 0
     ·have y2 : (nb != 0) = false := bne_eq_false_iff_eq.mpr z2
      have HU := Aside0.mk (HU.out.eq (f2 := useF sa na sb nb) (fun j hj => by unfold useF; rw [if_pos HZ1.out, if_pos z2]; try omega))
      clear z2
      go_wp2
      go_loopg [13] 16 (fun kq v13 w' => ∃ i : Nat, v13 = .int .i64 (i : Int) ∧ Aside0 (kq + i = 16) ∧ Aside0 (∀ j, j < i → useF sa na sb nb j ≤ 1) ∧ w' = w6)
      case atStart => exact ⟨0, rfl, ⟨rfl⟩, ⟨fun j hj => by omega⟩, rfl⟩
      case round =>
       obtain ⟨i, rfl, HI, HQ, rfl⟩ := hrel
       by_cases hi : i < 16
       ·have c1 : decide ((i : Int) < 16) = true := decide_eq_true (by omega)
        have H1 := Aside0.mk hi
        have q1 : 0 ≤ (i : Int) ∧ (i : Int) < 16 := by omega
        have hcl := (HU.out.cell i hi).1
        obtain ⟨v, hv⟩ : ∃ v, v = useF sa na sb nb i := ⟨_, rfl⟩
        rw [← hv] at hcl
        have HV := Aside0.mk hv
        have hwr : wrap64 ((i : Int) + 1) = ((i + 1 : Nat) : Int) := by
         unfold wrap64
         omega
        have HWR := Aside0.mk hwr
        obtain ⟨k1_, rfl⟩ : ∃ k1_, gk = k1_ + 1 := ⟨gk - 1, by have := HI.out; omega⟩
        clear hi hv hwr
        by_cases hz : v > 1
        ·have c2 : decide (v > 1) = true := decide_eq_true hz
         have HF := Aside0.mk (show r = false by
          rw [HR8.out]
          exact Bool.eq_false_iff.mpr (fun h => absurd ((use_all HRA.out HRB.out).2 h i H1.out) (by rw [← HV.out]; omega)))
         clear hz
         go_wp2_with (fail)
         go_ret
         exact ⟨by (rw [HF.out]; rfl), (by repeat (first | (with_reducible first | exact HB.out | apply below_alloc | apply pw_below_drewN | apply below_drew1) | exact HB.out))⟩
        have c2 : decide (v > 1) = false := decide_eq_false hz
        have HT := Aside0.mk (show useF sa na sb nb i ≤ 1 by rw [← HV.out]; omega)
        clear hz
        go_wp2
        go_roundg k1_
        case measure => omega
        case rel => exact ⟨i + 1, (by first | rfl | (rw [HWR.out])), ⟨by have := HI.out; omega⟩, ⟨fun j hj => by
         by_cases e : j = i
         ·rw [e]; exact HT.out
         exact HQ.out j (by omega)⟩, rfl⟩
       have c1 : decide ((i : Int) < 16) = false := decide_eq_false (by omega)
       have HF := Aside0.mk (show r = true by
        rw [HR8.out]
        exact (use_all HRA.out HRB.out).1 (fun j hj => HQ.out j (by have := HI.out; omega)))
       clear hi
       go_wp2_with (fail)
       go_ret
       exact ⟨by (rw [HF.out]; rfl), (by repeat (first | (with_reducible first | exact HB.out | apply below_alloc | apply pw_below_drewN | apply below_drew1) | exact HB.out))⟩
     have y2 : (nb != 0) = true := bne_iff_ne.mpr z2
     have HRB2 := Aside0.mk (HRB.out z2)
     have HZ2 := Aside0.mk z2
     clear z2
     go_wp2
     go_loopg [12] (wid nb) (fun kq v12 w' => ∃ i : Nat, v12 = .int .i64 (i : Int) ∧ Aside0 (kq + i = wid nb) ∧ Aside0 (UsedAt gu w' (fun j => (0 : Int) + inR sb i j)) ∧ Aside0 (w'.heap[w.heap.size]? = some (.cells #[.int .i64 words, .int .i64 s0, .int .i64 s1, .int .i64 s2, .int .i64 s3, .int .i64 s4, .int .i64 s5, .int .i64 s6, .int .i64 s7, .int .i64 g0, .int .i64 g1, .int .i64 g2, .int .i64 g3, .int .i64 g4, .int .i64 g5, .int .i64 g6, .int .i64 g7, .int .i64 t0, .int .i64 t1, .int .i64 t2, .int .i64 t3, .int .i64 ma, .int .i64 mb, .int .i64 sa, .int .i64 na, .int .i64 sb, .int .i64 nb, .bool both, h0, h1, h2, h3, h4] 31 (0, 0))) ∧ Aside0 (Below w.heap.size w w'))
     case atStart => exact ⟨0, rfl, ⟨rfl⟩, ⟨HU.out.eq (fun j hj => (by

       have : inR sb 0 j = 0 := if_neg (by omega)
       rw [this]; omega))⟩, HE, HB⟩
     case round =>
      clear HU HE HB he21 he22 he23 he24 he25 he26
      obtain ⟨i, rfl, HI, HU, HE, HB⟩ := hrel
      have he21 : _ = some (Value.int .i64 ma) := blk_cell HE.out 21
      have he22 : _ = some (Value.int .i64 mb) := blk_cell HE.out 22
      have he23 : _ = some (Value.int .i64 sa) := blk_cell HE.out 23
      have he24 : _ = some (Value.int .i64 na) := blk_cell HE.out 24
      have he25 : _ = some (Value.int .i64 sb) := blk_cell HE.out 25
      have he26 : _ = some (Value.int .i64 nb) := blk_cell HE.out 26
      have HWV := Aside0.mk (wid_val nb)
      by_cases hi : i < wid nb
      ·have c1 : decide ((i : Int) < (wid nb : Int)) = true := decide_eq_true (by omega)
       have c2 : decide (i < wid nb) = true := decide_eq_true hi
       have hrg := HRB2.out
       have hw6 := wid_le nb
       obtain ⟨p, hp⟩ : ∃ p : Nat, sb + (i : Int) = (p : Int) := ⟨(sb + (i : Int)).toNat, by omega⟩
       have hp16 : p < 16 := by omega
       have q1 : 0 ≤ (p : Int) ∧ (p : Int) < 16 := by omega
       have hwp : wrap64 (sb + (i : Int)) = (p : Int) := by
        unfold wrap64
        omega
       have hcf := HU.out.cell p hp16
       obtain ⟨v, hv⟩ : ∃ v : Int, v = (0 : Int) + inR sb i p := ⟨_, rfl⟩
       have hcl : _ = some (Value.int .i64 v) := hcf.1.trans (by rw [hv])
       have hfz := hcf.2
       have hv01 : 0 ≤ v ∧ v ≤ 2 := by
        rw [hv]
        unfold inR
        repeat (first | omega | split)
       have hwv : wrap64 (v + 1) = v + 1 := by
        unfold wrap64
        omega
       have hwr : wrap64 ((i : Int) + 1) = ((i + 1 : Nat) : Int) := by
        unfold wrap64
        omega
       have HWR := Aside0.mk hwr
       have HUN := Aside0.mk (show ∀ W, UsedAt gu W (fun j => (0 : Int) + inR sb i j) → UsedAt gu (W.setCell ⟨gu, p, none⟩ (.int .i64 (v + 1))) (fun j => (0 : Int) + inR sb (i + 1) j) from fun W h => (h.put p hp16 (v + 1)).eq (fun j hj => (by

        rw [← inR_succ sb i j]
        by_cases e : j = p
        ·subst e
         rw [if_pos rfl, if_pos hp.symm, hv]
        rw [if_neg e, if_neg (by omega)])))
       obtain ⟨k1_, rfl⟩ : ∃ k1_, gk = k1_ + 1 := ⟨gk - 1, by have := HI.out; omega⟩
       clear hi hrg hw6 hp hp16 hcf hv hv01 hwr
       go_wp2_with (go_at_call 27; (with_reducible refine (sluiceref11_width.calls nb _ _ HWV.out).mono ?_); rintro e w7 ⟨rfl, ⟨nd3, rfl⟩⟩)
       go_roundg k1_
       case measure => omega
       case rel => exact ⟨i + 1, (by first | rfl | (rw [HWR.out])), ⟨by have := HI.out; omega⟩, ⟨HUN.out _ (HU.out.below (pw_below_drewN (Below.refl _ _) nd3))⟩, ⟨(Below.heap_setCell _ _ _ _ (by have := HGU.out; show w.heap.size ≠ gu; omega)).trans HE.out⟩, ⟨below_trans (pw_below_drewN HB.out nd3) (((Holds.refl (wr.drewN nd3).heap.size gu gu (wr.drewN nd3)).set ⟨gu, p, none⟩ (.int .i64 (v + 1)) (.inl rfl)).below (M := w.heap.size) HB.out.size (by have := HGU.out; omega) (by have := HGU.out; omega))⟩⟩
      have c1 : decide ((i : Int) < (wid nb : Int)) = false := decide_eq_false (by omega)
      have c2 : decide (i < wid nb) = false := decide_eq_false hi
      have hii : i = wid nb := by have := HI.out; omega
      have HU1 := Aside0.mk (show UsedAt gu wr (fun j => (0 : Int) + inR sb (wid nb) j) from hii ▸ HU.out)
      clear hi hii HU HI
      go_upto_region 35 with (go_at_call 27; (with_reducible refine (sluiceref11_width.calls nb _ _ HWV.out).mono ?_); rintro e w7 ⟨rfl, ⟨nd3, rfl⟩⟩)
      have HU := Aside0.mk (HU1.out.below (pw_below_drewN (Below.refl _ _) nd3))
      have n0_ := Aside0.mk (show (wr.drewN nd3).heap[w.heap.size]? = some (.cells #[.int .i64 words, .int .i64 s0, .int .i64 s1, .int .i64 s2, .int .i64 s3, .int .i64 s4, .int .i64 s5, .int .i64 s6, .int .i64 s7, .int .i64 g0, .int .i64 g1, .int .i64 g2, .int .i64 g3, .int .i64 g4, .int .i64 g5, .int .i64 g6, .int .i64 g7, .int .i64 t0, .int .i64 t1, .int .i64 t2, .int .i64 t3, .int .i64 ma, .int .i64 mb, .int .i64 sa, .int .i64 na, .int .i64 sb, .int .i64 nb, .bool both, h0, h1, h2, h3, h4] 31 (0, 0)) from HE.out)
      have n1_ := Aside0.mk (pw_below_drewN HB.out nd3)
      clear HU1 HE HB c1 c2 he21 he22 he23 he24 he25 he26
      have HE := n0_
      have HB := n1_
      clear n0_ n1_
      generalize wr.drewN nd3 = w8 at HU HE HB ⊢
      have he21 : _ = some (Value.int .i64 ma) := blk_cell HE.out 21
      have he22 : _ = some (Value.int .i64 mb) := blk_cell HE.out 22
      have he23 : _ = some (Value.int .i64 sa) := blk_cell HE.out 23
      have he24 : _ = some (Value.int .i64 na) := blk_cell HE.out 24
      have he25 : _ = some (Value.int .i64 sb) := blk_cell HE.out 25
      have he26 : _ = some (Value.int .i64 nb) := blk_cell HE.out 26
      have HU := Aside0.mk (HU.out.eq (f2 := useF sa na sb nb) (fun j hj => by unfold useF; rw [if_pos HZ1.out, if_neg HZ2.out]; try omega))
      clear y2
      go_wp2
      go_loopg [13] 16 (fun kq v13 w' => ∃ i : Nat, v13 = .int .i64 (i : Int) ∧ Aside0 (kq + i = 16) ∧ Aside0 (∀ j, j < i → useF sa na sb nb j ≤ 1) ∧ w' = w8)
      case atStart => exact ⟨0, rfl, ⟨rfl⟩, ⟨fun j hj => by omega⟩, rfl⟩
      case round =>
       obtain ⟨i, rfl, HI, HQ, rfl⟩ := hrel
       by_cases hi : i < 16
       ·have c1 : decide ((i : Int) < 16) = true := decide_eq_true (by omega)
        have H1 := Aside0.mk hi
        have q1 : 0 ≤ (i : Int) ∧ (i : Int) < 16 := by omega
        have hcl := (HU.out.cell i hi).1
        obtain ⟨v, hv⟩ : ∃ v, v = useF sa na sb nb i := ⟨_, rfl⟩
        rw [← hv] at hcl
        have HV := Aside0.mk hv
        have hwr : wrap64 ((i : Int) + 1) = ((i + 1 : Nat) : Int) := by
         unfold wrap64
         omega
        have HWR := Aside0.mk hwr
        obtain ⟨k1_, rfl⟩ : ∃ k1_, gk = k1_ + 1 := ⟨gk - 1, by have := HI.out; omega⟩
        clear hi hv hwr
        by_cases hz : v > 1
        ·have c2 : decide (v > 1) = true := decide_eq_true hz
         have HF := Aside0.mk (show r = false by
          rw [HR8.out]
          exact Bool.eq_false_iff.mpr (fun h => absurd ((use_all HRA.out HRB.out).2 h i H1.out) (by rw [← HV.out]; omega)))
         clear hz
         go_wp2_with (fail)
         go_ret
         exact ⟨by (rw [HF.out]; rfl), (by repeat (first | (with_reducible first | exact HB.out | apply below_alloc | apply pw_below_drewN | apply below_drew1) | exact HB.out))⟩
        have c2 : decide (v > 1) = false := decide_eq_false hz
        have HT := Aside0.mk (show useF sa na sb nb i ≤ 1 by rw [← HV.out]; omega)
        clear hz
        go_wp2
        go_roundg k1_
        case measure => omega
        case rel => exact ⟨i + 1, (by first | rfl | (rw [HWR.out])), ⟨by have := HI.out; omega⟩, ⟨fun j hj => by
         by_cases e : j = i
         ·rw [e]; exact HT.out
         exact HQ.out j (by omega)⟩, rfl⟩
       have c1 : decide ((i : Int) < 16) = false := decide_eq_false (by omega)
       have HF := Aside0.mk (show r = true by
        rw [HR8.out]
        exact (use_all HRA.out HRB.out).1 (fun j hj => HQ.out j (by have := HI.out; omega)))
       clear hi
       go_wp2_with (fail)
       go_ret
       exact ⟨by (rw [HF.out]; rfl), (by repeat (first | (with_reducible first | exact HB.out | apply below_alloc | apply pw_below_drewN | apply below_drew1) | exact HB.out))⟩
    have y1 : (na != 0) = true := bne_iff_ne.mpr z1
    have HRA2 := Aside0.mk (HRA.out z1)
    have HZ1 := Aside0.mk z1
    clear z1
    go_wp2
    go_loopg [11] (wid na) (fun kq v11 w' => ∃ i : Nat, v11 = .int .i64 (i : Int) ∧ Aside0 (kq + i = wid na) ∧ Aside0 (UsedAt gu w' (fun j => (0 : Int) + inR sa i j)) ∧ Aside0 (w'.heap[w.heap.size]? = some (.cells #[.int .i64 words, .int .i64 s0, .int .i64 s1, .int .i64 s2, .int .i64 s3, .int .i64 s4, .int .i64 s5, .int .i64 s6, .int .i64 s7, .int .i64 g0, .int .i64 g1, .int .i64 g2, .int .i64 g3, .int .i64 g4, .int .i64 g5, .int .i64 g6, .int .i64 g7, .int .i64 t0, .int .i64 t1, .int .i64 t2, .int .i64 t3, .int .i64 ma, .int .i64 mb, .int .i64 sa, .int .i64 na, .int .i64 sb, .int .i64 nb, .bool both, h0, h1, h2, h3, h4] 31 (0, 0))) ∧ Aside0 (Below w.heap.size w w'))
    case atStart => exact ⟨0, rfl, ⟨rfl⟩, ⟨HU.out.eq (fun j hj => (by

      have : inR sa 0 j = 0 := if_neg (by omega)
      rw [this]; omega))⟩, HE, HB⟩
    case round =>
     clear HU HE HB he21 he22 he23 he24 he25 he26
     obtain ⟨i, rfl, HI, HU, HE, HB⟩ := hrel
     have he21 : _ = some (Value.int .i64 ma) := blk_cell HE.out 21
     have he22 : _ = some (Value.int .i64 mb) := blk_cell HE.out 22
     have he23 : _ = some (Value.int .i64 sa) := blk_cell HE.out 23
     have he24 : _ = some (Value.int .i64 na) := blk_cell HE.out 24
     have he25 : _ = some (Value.int .i64 sb) := blk_cell HE.out 25
     have he26 : _ = some (Value.int .i64 nb) := blk_cell HE.out 26
     have HWV := Aside0.mk (wid_val na)
     by_cases hi : i < wid na
     ·have c1 : decide ((i : Int) < (wid na : Int)) = true := decide_eq_true (by omega)
      have c2 : decide (i < wid na) = true := decide_eq_true hi
      have hrg := HRA2.out
      have hw6 := wid_le na
      obtain ⟨p, hp⟩ : ∃ p : Nat, sa + (i : Int) = (p : Int) := ⟨(sa + (i : Int)).toNat, by omega⟩
      have hp16 : p < 16 := by omega
      have q1 : 0 ≤ (p : Int) ∧ (p : Int) < 16 := by omega
      have hwp : wrap64 (sa + (i : Int)) = (p : Int) := by
       unfold wrap64
       omega
      have hcf := HU.out.cell p hp16
      obtain ⟨v, hv⟩ : ∃ v : Int, v = (0 : Int) + inR sa i p := ⟨_, rfl⟩
      have hcl : _ = some (Value.int .i64 v) := hcf.1.trans (by rw [hv])
      have hfz := hcf.2
      have hv01 : 0 ≤ v ∧ v ≤ 2 := by
       rw [hv]
       unfold inR
       repeat (first | omega | split)
      have hwv : wrap64 (v + 1) = v + 1 := by
       unfold wrap64
       omega
      have hwr : wrap64 ((i : Int) + 1) = ((i + 1 : Nat) : Int) := by
       unfold wrap64
       omega
      have HWR := Aside0.mk hwr
      have HUN := Aside0.mk (show ∀ W, UsedAt gu W (fun j => (0 : Int) + inR sa i j) → UsedAt gu (W.setCell ⟨gu, p, none⟩ (.int .i64 (v + 1))) (fun j => (0 : Int) + inR sa (i + 1) j) from fun W h => (h.put p hp16 (v + 1)).eq (fun j hj => (by

       rw [← inR_succ sa i j]
       by_cases e : j = p
       ·subst e
        rw [if_pos rfl, if_pos hp.symm, hv]
       rw [if_neg e, if_neg (by omega)])))
      obtain ⟨k1_, rfl⟩ : ∃ k1_, gk = k1_ + 1 := ⟨gk - 1, by have := HI.out; omega⟩
      clear hi hrg hw6 hp hp16 hcf hv hv01 hwr
      go_wp2_with (go_at_call 27; (with_reducible refine (sluiceref11_width.calls na _ _ HWV.out).mono ?_); rintro e w7 ⟨rfl, ⟨nd3, rfl⟩⟩)
      go_roundg k1_
      case measure => omega
      case rel => exact ⟨i + 1, (by first | rfl | (rw [HWR.out])), ⟨by have := HI.out; omega⟩, ⟨HUN.out _ (HU.out.below (pw_below_drewN (Below.refl _ _) nd3))⟩, ⟨(Below.heap_setCell _ _ _ _ (by have := HGU.out; show w.heap.size ≠ gu; omega)).trans HE.out⟩, ⟨below_trans (pw_below_drewN HB.out nd3) (((Holds.refl (wr.drewN nd3).heap.size gu gu (wr.drewN nd3)).set ⟨gu, p, none⟩ (.int .i64 (v + 1)) (.inl rfl)).below (M := w.heap.size) HB.out.size (by have := HGU.out; omega) (by have := HGU.out; omega))⟩⟩
     have c1 : decide ((i : Int) < (wid na : Int)) = false := decide_eq_false (by omega)
     have c2 : decide (i < wid na) = false := decide_eq_false hi
     have hii : i = wid na := by have := HI.out; omega
     have HU1 := Aside0.mk (show UsedAt gu wr (fun j => (0 : Int) + inR sa (wid na) j) from hii ▸ HU.out)
     clear hi hii HU HI
     go_upto_region 30 with (go_at_call 27; (with_reducible refine (sluiceref11_width.calls na _ _ HWV.out).mono ?_); rintro e w7 ⟨rfl, ⟨nd3, rfl⟩⟩)
     have HU := Aside0.mk (HU1.out.below (pw_below_drewN (Below.refl _ _) nd3))
     have n0_ := Aside0.mk (show (wr.drewN nd3).heap[w.heap.size]? = some (.cells #[.int .i64 words, .int .i64 s0, .int .i64 s1, .int .i64 s2, .int .i64 s3, .int .i64 s4, .int .i64 s5, .int .i64 s6, .int .i64 s7, .int .i64 g0, .int .i64 g1, .int .i64 g2, .int .i64 g3, .int .i64 g4, .int .i64 g5, .int .i64 g6, .int .i64 g7, .int .i64 t0, .int .i64 t1, .int .i64 t2, .int .i64 t3, .int .i64 ma, .int .i64 mb, .int .i64 sa, .int .i64 na, .int .i64 sb, .int .i64 nb, .bool both, h0, h1, h2, h3, h4] 31 (0, 0)) from HE.out)
     have n1_ := Aside0.mk (pw_below_drewN HB.out nd3)
     clear HU1 HE HB c1 c2 he21 he22 he23 he24 he25 he26
     have HE := n0_
     have HB := n1_
     clear n0_ n1_
     generalize wr.drewN nd3 = w8 at HU HE HB ⊢
     have he21 : _ = some (Value.int .i64 ma) := blk_cell HE.out 21
     have he22 : _ = some (Value.int .i64 mb) := blk_cell HE.out 22
     have he23 : _ = some (Value.int .i64 sa) := blk_cell HE.out 23
     have he24 : _ = some (Value.int .i64 na) := blk_cell HE.out 24
     have he25 : _ = some (Value.int .i64 sb) := blk_cell HE.out 25
     have he26 : _ = some (Value.int .i64 nb) := blk_cell HE.out 26
     clear y1
     by_cases z2 : nb = 0
     ·have y2 : (nb != 0) = false := bne_eq_false_iff_eq.mpr z2
      have HU := Aside0.mk (HU.out.eq (f2 := useF sa na sb nb) (fun j hj => by unfold useF; rw [if_neg HZ1.out, if_pos z2]; try omega))
      clear z2
      go_wp2
      go_loopg [13] 16 (fun kq v13 w' => ∃ i : Nat, v13 = .int .i64 (i : Int) ∧ Aside0 (kq + i = 16) ∧ Aside0 (∀ j, j < i → useF sa na sb nb j ≤ 1) ∧ w' = w8)
      case atStart => exact ⟨0, rfl, ⟨rfl⟩, ⟨fun j hj => by omega⟩, rfl⟩
      case round =>
       obtain ⟨i, rfl, HI, HQ, rfl⟩ := hrel
       by_cases hi : i < 16
       ·have c1 : decide ((i : Int) < 16) = true := decide_eq_true (by omega)
        have H1 := Aside0.mk hi
        have q1 : 0 ≤ (i : Int) ∧ (i : Int) < 16 := by omega
        have hcl := (HU.out.cell i hi).1
        obtain ⟨v, hv⟩ : ∃ v, v = useF sa na sb nb i := ⟨_, rfl⟩
        rw [← hv] at hcl
        have HV := Aside0.mk hv
        have hwr : wrap64 ((i : Int) + 1) = ((i + 1 : Nat) : Int) := by
         unfold wrap64
         omega
        have HWR := Aside0.mk hwr
        obtain ⟨k1_, rfl⟩ : ∃ k1_, gk = k1_ + 1 := ⟨gk - 1, by have := HI.out; omega⟩
        clear hi hv hwr
        by_cases hz : v > 1
        ·have c2 : decide (v > 1) = true := decide_eq_true hz
         have HF := Aside0.mk (show r = false by
          rw [HR8.out]
          exact Bool.eq_false_iff.mpr (fun h => absurd ((use_all HRA.out HRB.out).2 h i H1.out) (by rw [← HV.out]; omega)))
         clear hz
         go_wp2_with (fail)
         go_ret
         exact ⟨by (rw [HF.out]; rfl), (by repeat (first | (with_reducible first | exact HB.out | apply below_alloc | apply pw_below_drewN | apply below_drew1) | exact HB.out))⟩
        have c2 : decide (v > 1) = false := decide_eq_false hz
        have HT := Aside0.mk (show useF sa na sb nb i ≤ 1 by rw [← HV.out]; omega)
        clear hz
        go_wp2
        go_roundg k1_
        case measure => omega
        case rel => exact ⟨i + 1, (by first | rfl | (rw [HWR.out])), ⟨by have := HI.out; omega⟩, ⟨fun j hj => by
         by_cases e : j = i
         ·rw [e]; exact HT.out
         exact HQ.out j (by omega)⟩, rfl⟩
       have c1 : decide ((i : Int) < 16) = false := decide_eq_false (by omega)
       have HF := Aside0.mk (show r = true by
        rw [HR8.out]
        exact (use_all HRA.out HRB.out).1 (fun j hj => HQ.out j (by have := HI.out; omega)))
       clear hi
       go_wp2_with (fail)
       go_ret
       exact ⟨by (rw [HF.out]; rfl), (by repeat (first | (with_reducible first | exact HB.out | apply below_alloc | apply pw_below_drewN | apply below_drew1) | exact HB.out))⟩
     have y2 : (nb != 0) = true := bne_iff_ne.mpr z2
     have HRB2 := Aside0.mk (HRB.out z2)
     have HZ2 := Aside0.mk z2
     clear z2
     go_wp2
     go_loopg [12] (wid nb) (fun kq v12 w' => ∃ i : Nat, v12 = .int .i64 (i : Int) ∧ Aside0 (kq + i = wid nb) ∧ Aside0 (UsedAt gu w' (fun j => ((0 : Int) + inR sa (wid na) j) + inR sb i j)) ∧ Aside0 (w'.heap[w.heap.size]? = some (.cells #[.int .i64 words, .int .i64 s0, .int .i64 s1, .int .i64 s2, .int .i64 s3, .int .i64 s4, .int .i64 s5, .int .i64 s6, .int .i64 s7, .int .i64 g0, .int .i64 g1, .int .i64 g2, .int .i64 g3, .int .i64 g4, .int .i64 g5, .int .i64 g6, .int .i64 g7, .int .i64 t0, .int .i64 t1, .int .i64 t2, .int .i64 t3, .int .i64 ma, .int .i64 mb, .int .i64 sa, .int .i64 na, .int .i64 sb, .int .i64 nb, .bool both, h0, h1, h2, h3, h4] 31 (0, 0))) ∧ Aside0 (Below w.heap.size w w'))
     case atStart => exact ⟨0, rfl, ⟨rfl⟩, ⟨HU.out.eq (fun j hj => (by

       have : inR sb 0 j = 0 := if_neg (by omega)
       rw [this]; omega))⟩, HE, HB⟩
     case round =>
      clear HU HE HB he21 he22 he23 he24 he25 he26
      obtain ⟨i, rfl, HI, HU, HE, HB⟩ := hrel
      have he21 : _ = some (Value.int .i64 ma) := blk_cell HE.out 21
      have he22 : _ = some (Value.int .i64 mb) := blk_cell HE.out 22
      have he23 : _ = some (Value.int .i64 sa) := blk_cell HE.out 23
      have he24 : _ = some (Value.int .i64 na) := blk_cell HE.out 24
      have he25 : _ = some (Value.int .i64 sb) := blk_cell HE.out 25
      have he26 : _ = some (Value.int .i64 nb) := blk_cell HE.out 26
      have HWV := Aside0.mk (wid_val nb)
      by_cases hi : i < wid nb
      ·have c1 : decide ((i : Int) < (wid nb : Int)) = true := decide_eq_true (by omega)
       have c2 : decide (i < wid nb) = true := decide_eq_true hi
       have hrg := HRB2.out
       have hw6 := wid_le nb
       obtain ⟨p, hp⟩ : ∃ p : Nat, sb + (i : Int) = (p : Int) := ⟨(sb + (i : Int)).toNat, by omega⟩
       have hp16 : p < 16 := by omega
       have q1 : 0 ≤ (p : Int) ∧ (p : Int) < 16 := by omega
       have hwp : wrap64 (sb + (i : Int)) = (p : Int) := by
        unfold wrap64
        omega
       have hcf := HU.out.cell p hp16
       obtain ⟨v, hv⟩ : ∃ v : Int, v = ((0 : Int) + inR sa (wid na) p) + inR sb i p := ⟨_, rfl⟩
       have hcl : _ = some (Value.int .i64 v) := hcf.1.trans (by rw [hv])
       have hfz := hcf.2
       have hv01 : 0 ≤ v ∧ v ≤ 2 := by
        rw [hv]
        unfold inR
        repeat (first | omega | split)
       have hwv : wrap64 (v + 1) = v + 1 := by
        unfold wrap64
        omega
       have hwr : wrap64 ((i : Int) + 1) = ((i + 1 : Nat) : Int) := by
        unfold wrap64
        omega
       have HWR := Aside0.mk hwr
       have HUN := Aside0.mk (show ∀ W, UsedAt gu W (fun j => ((0 : Int) + inR sa (wid na) j) + inR sb i j) → UsedAt gu (W.setCell ⟨gu, p, none⟩ (.int .i64 (v + 1))) (fun j => ((0 : Int) + inR sa (wid na) j) + inR sb (i + 1) j) from fun W h => (h.put p hp16 (v + 1)).eq (fun j hj => (by

        rw [← inR_succ sb i j]
        by_cases e : j = p
        ·subst e
         rw [if_pos rfl, if_pos hp.symm, hv]
        rw [if_neg e, if_neg (by omega)])))
       obtain ⟨k1_, rfl⟩ : ∃ k1_, gk = k1_ + 1 := ⟨gk - 1, by have := HI.out; omega⟩
       clear hi hrg hw6 hp hp16 hcf hv hv01 hwr
       go_wp2_with (go_at_call 27; (with_reducible refine (sluiceref11_width.calls nb _ _ HWV.out).mono ?_); rintro e w7 ⟨rfl, ⟨nd3, rfl⟩⟩)
       go_roundg k1_
       case measure => omega
       case rel => exact ⟨i + 1, (by first | rfl | (rw [HWR.out])), ⟨by have := HI.out; omega⟩, ⟨HUN.out _ (HU.out.below (pw_below_drewN (Below.refl _ _) nd3))⟩, ⟨(Below.heap_setCell _ _ _ _ (by have := HGU.out; show w.heap.size ≠ gu; omega)).trans HE.out⟩, ⟨below_trans (pw_below_drewN HB.out nd3) (((Holds.refl (wr.drewN nd3).heap.size gu gu (wr.drewN nd3)).set ⟨gu, p, none⟩ (.int .i64 (v + 1)) (.inl rfl)).below (M := w.heap.size) HB.out.size (by have := HGU.out; omega) (by have := HGU.out; omega))⟩⟩
      have c1 : decide ((i : Int) < (wid nb : Int)) = false := decide_eq_false (by omega)
      have c2 : decide (i < wid nb) = false := decide_eq_false hi
      have hii : i = wid nb := by have := HI.out; omega
      have HU1 := Aside0.mk (show UsedAt gu wr (fun j => ((0 : Int) + inR sa (wid na) j) + inR sb (wid nb) j) from hii ▸ HU.out)
      clear hi hii HU HI
      go_upto_region 35 with (go_at_call 27; (with_reducible refine (sluiceref11_width.calls nb _ _ HWV.out).mono ?_); rintro e w7 ⟨rfl, ⟨nd3, rfl⟩⟩)
      have HU := Aside0.mk (HU1.out.below (pw_below_drewN (Below.refl _ _) nd3))
      have n0_ := Aside0.mk (show (wr.drewN nd3).heap[w.heap.size]? = some (.cells #[.int .i64 words, .int .i64 s0, .int .i64 s1, .int .i64 s2, .int .i64 s3, .int .i64 s4, .int .i64 s5, .int .i64 s6, .int .i64 s7, .int .i64 g0, .int .i64 g1, .int .i64 g2, .int .i64 g3, .int .i64 g4, .int .i64 g5, .int .i64 g6, .int .i64 g7, .int .i64 t0, .int .i64 t1, .int .i64 t2, .int .i64 t3, .int .i64 ma, .int .i64 mb, .int .i64 sa, .int .i64 na, .int .i64 sb, .int .i64 nb, .bool both, h0, h1, h2, h3, h4] 31 (0, 0)) from HE.out)
      have n1_ := Aside0.mk (pw_below_drewN HB.out nd3)
      clear HU1 HE HB c1 c2 he21 he22 he23 he24 he25 he26
      have HE := n0_
      have HB := n1_
      clear n0_ n1_
      generalize wr.drewN nd3 = w8 at HU HE HB ⊢
      have he21 : _ = some (Value.int .i64 ma) := blk_cell HE.out 21
      have he22 : _ = some (Value.int .i64 mb) := blk_cell HE.out 22
      have he23 : _ = some (Value.int .i64 sa) := blk_cell HE.out 23
      have he24 : _ = some (Value.int .i64 na) := blk_cell HE.out 24
      have he25 : _ = some (Value.int .i64 sb) := blk_cell HE.out 25
      have he26 : _ = some (Value.int .i64 nb) := blk_cell HE.out 26
      have HU := Aside0.mk (HU.out.eq (f2 := useF sa na sb nb) (fun j hj => by unfold useF; rw [if_neg HZ1.out, if_neg HZ2.out]; try omega))
      clear y2
      go_wp2
      go_loopg [13] 16 (fun kq v13 w' => ∃ i : Nat, v13 = .int .i64 (i : Int) ∧ Aside0 (kq + i = 16) ∧ Aside0 (∀ j, j < i → useF sa na sb nb j ≤ 1) ∧ w' = w8)
      case atStart => exact ⟨0, rfl, ⟨rfl⟩, ⟨fun j hj => by omega⟩, rfl⟩
      case round =>
       obtain ⟨i, rfl, HI, HQ, rfl⟩ := hrel
       by_cases hi : i < 16
       ·have c1 : decide ((i : Int) < 16) = true := decide_eq_true (by omega)
        have H1 := Aside0.mk hi
        have q1 : 0 ≤ (i : Int) ∧ (i : Int) < 16 := by omega
        have hcl := (HU.out.cell i hi).1
        obtain ⟨v, hv⟩ : ∃ v, v = useF sa na sb nb i := ⟨_, rfl⟩
        rw [← hv] at hcl
        have HV := Aside0.mk hv
        have hwr : wrap64 ((i : Int) + 1) = ((i + 1 : Nat) : Int) := by
         unfold wrap64
         omega
        have HWR := Aside0.mk hwr
        obtain ⟨k1_, rfl⟩ : ∃ k1_, gk = k1_ + 1 := ⟨gk - 1, by have := HI.out; omega⟩
        clear hi hv hwr
        by_cases hz : v > 1
        ·have c2 : decide (v > 1) = true := decide_eq_true hz
         have HF := Aside0.mk (show r = false by
          rw [HR8.out]
          exact Bool.eq_false_iff.mpr (fun h => absurd ((use_all HRA.out HRB.out).2 h i H1.out) (by rw [← HV.out]; omega)))
         clear hz
         go_wp2_with (fail)
         go_ret
         exact ⟨by (rw [HF.out]; rfl), (by repeat (first | (with_reducible first | exact HB.out | apply below_alloc | apply pw_below_drewN | apply below_drew1) | exact HB.out))⟩
        have c2 : decide (v > 1) = false := decide_eq_false hz
        have HT := Aside0.mk (show useF sa na sb nb i ≤ 1 by rw [← HV.out]; omega)
        clear hz
        go_wp2
        go_roundg k1_
        case measure => omega
        case rel => exact ⟨i + 1, (by first | rfl | (rw [HWR.out])), ⟨by have := HI.out; omega⟩, ⟨fun j hj => by
         by_cases e : j = i
         ·rw [e]; exact HT.out
         exact HQ.out j (by omega)⟩, rfl⟩
       have c1 : decide ((i : Int) < 16) = false := decide_eq_false (by omega)
       have HF := Aside0.mk (show r = true by
        rw [HR8.out]
        exact (use_all HRA.out HRB.out).1 (fun j hj => HQ.out j (by have := HI.out; omega)))
       clear hi
       go_wp2_with (fail)
       go_ret
       exact ⟨by (rw [HF.out]; rfl), (by repeat (first | (with_reducible first | exact HB.out | apply below_alloc | apply pw_below_drewN | apply below_drew1) | exact HB.out))⟩
end HeadsQ
end Go.Proofs.Ytcpcpmojallcdaa.QLoomChecks
