/- LoomChecks: CheckQ. Conditions: as each theorem says. -/
import Derived.Test.YtcpcpmojallcdaaLcQ
import Derived.Test.YtcpcpmojallcdaaLcGK
import Derived.Test.YtcpcpmojallcdaaLcGU
import Derived.Test.YtcpcpmojallcdaaLcGV
namespace Go.Proofs.Ytcpcpmojallcdaa.QLoomChecks
open Go.RowKit Go.Proofs.YtcpcpmojallcdaaW.PrintWords Go.Proofs.YtcpcpmojallcdaaW.PrintLast Go.Proofs.YtcpcpmojallcdaaW.PrintMore
set_option linter.unusedVariables false
set_option linter.unusedSimpArgs false
section CheckQ
theorem heads_runs {words : Int} {st ag ct : List Int} {ma mb sa na sb nb : Int} (h : headsB words st ag ct ma mb sa na sb nb = true) : (runP st).2 = true ∧ (runP ag).2 = true := by
 unfold headsB at h
 simp only [Bool.and_eq_true] at h
 exact ⟨h.2.2.2.2.1.1, h.2.2.2.2.1.2.1⟩
set_option maxHeartbeats 8000000 in
set_option maxRecDepth 100000 in
theorem checkQR (words s0 s1 s2 s3 s4 s5 s6 s7 g0 g1 g2 g3 g4 g5 g6 g7 t0 t1 t2 t3 ma mb sa na sb nb : Int) (both : Bool) (h0 h1 h2 h3 h4 : Value) (A : Nat → Option Addr) (c : Nat → Nat) (L : Nat → List S42) (w : World) (hH : ∀ j, j < 5 → [h0, h1, h2, h3, h4].getD j undef = .slice (A j) (L j).length (c j) ∧ Kd.C k42 w (A j) (L j).length (L j) ∧ (L j).length ≤ c j ∧ (L j).length ≤ 9223372036854775807) :
  Calls Try.prog 6 #[.agg #[.int .i64 words, .int .i64 s0, .int .i64 s1, .int .i64 s2, .int .i64 s3, .int .i64 s4, .int .i64 s5, .int .i64 s6, .int .i64 s7, .int .i64 g0, .int .i64 g1, .int .i64 g2, .int .i64 g3, .int .i64 g4, .int .i64 g5, .int .i64 g6, .int .i64 g7, .int .i64 t0, .int .i64 t1, .int .i64 t2, .int .i64 t3, .int .i64 ma, .int .i64 mb, .int .i64 sa, .int .i64 na, .int .i64 sb, .int .i64 nb, .bool both, h0, h1, h2, h3, h4]] w fun e w' => e = .returned (.tuple #[.int .i64 (checkP words [s0, s1, s2, s3, s4, s5, s6, s7] [g0, g1, g2, g3, g4, g5, g6, g7] [t0, t1, t2, t3] ma mb sa na sb nb L).1, .int .i64 (checkP words [s0, s1, s2, s3, s4, s5, s6, s7] [g0, g1, g2, g3, g4, g5, g6, g7] [t0, t1, t2, t3] ma mb sa na sb nb L).2.1, .int .i64 (checkP words [s0, s1, s2, s3, s4, s5, s6, s7] [g0, g1, g2, g3, g4, g5, g6, g7] [t0, t1, t2, t3] ma mb sa na sb nb L).2.2]) ∧ Below w.heap.size w w' := by
 have HC := Aside0.mk (heap_alloc_new w (.cells #[.int .i64 words, .int .i64 s0, .int .i64 s1, .int .i64 s2, .int .i64 s3, .int .i64 s4, .int .i64 s5, .int .i64 s6, .int .i64 s7, .int .i64 g0, .int .i64 g1, .int .i64 g2, .int .i64 g3, .int .i64 g4, .int .i64 g5, .int .i64 g6, .int .i64 g7, .int .i64 t0, .int .i64 t1, .int .i64 t2, .int .i64 t3, .int .i64 ma, .int .i64 mb, .int .i64 sa, .int .i64 na, .int .i64 sb, .int .i64 nb, .bool both, h0, h1, h2, h3, h4] 31))
 have HB := Aside0.mk (below_alloc (Below.refl w.heap.size w) (.cells #[.int .i64 words, .int .i64 s0, .int .i64 s1, .int .i64 s2, .int .i64 s3, .int .i64 s4, .int .i64 s5, .int .i64 s6, .int .i64 s7, .int .i64 g0, .int .i64 g1, .int .i64 g2, .int .i64 g3, .int .i64 g4, .int .i64 g5, .int .i64 g6, .int .i64 g7, .int .i64 t0, .int .i64 t1, .int .i64 t2, .int .i64 t3, .int .i64 ma, .int .i64 mb, .int .i64 sa, .int .i64 na, .int .i64 sb, .int .i64 nb, .bool both, h0, h1, h2, h3, h4] 31))
 have HHD := Aside0.mk (fun (W : World) => headsQR words s0 s1 s2 s3 s4 s5 s6 s7 g0 g1 g2 g3 g4 g5 g6 g7 t0 t1 t2 t3 ma mb sa na sb nb both h0 h1 h2 h3 h4 W)
 obtain ⟨hz, hhz⟩ : ∃ z, headsB words [s0, s1, s2, s3, s4, s5, s6, s7] [g0, g1, g2, g3, g4, g5, g6, g7] [t0, t1, t2, t3] ma mb sa na sb nb = z := ⟨_, rfl⟩
 rw [hhz] at HHD
 have HHZ := Aside0.mk hhz
 have HHH := Aside0.mk hH
 obtain ⟨R, hR⟩ : ∃ R, R = (checkP words [s0, s1, s2, s3, s4, s5, s6, s7] [g0, g1, g2, g3, g4, g5, g6, g7] [t0, t1, t2, t3] ma mb sa na sb nb L) := ⟨_, rfl⟩
 rw [← hR]
 have HR := Aside0.mk hR
 clear hR hhz hH
 go_enter Try.func6, Try.ntmps6
 go_upto_region 1 with (fail)
 generalize w.alloc (.cells #[.int .i64 words, .int .i64 s0, .int .i64 s1, .int .i64 s2, .int .i64 s3, .int .i64 s4, .int .i64 s5, .int .i64 s6, .int .i64 s7, .int .i64 g0, .int .i64 g1, .int .i64 g2, .int .i64 g3, .int .i64 g4, .int .i64 g5, .int .i64 g6, .int .i64 g7, .int .i64 t0, .int .i64 t1, .int .i64 t2, .int .i64 t3, .int .i64 ma, .int .i64 mb, .int .i64 sa, .int .i64 na, .int .i64 sb, .int .i64 nb, .bool both, h0, h1, h2, h3, h4] 31) = w1 at HC HB ⊢
 rcases hz with _ | _
 ·have HRB := Aside0.mk (HR.out.trans (check_heads (L := L) HHZ.out))
  go_wp2_with (first | ((with_reducible refine wpList_load_row rfl 31 (.tmp 1) rfl w.heap.size rfl _ _ _ _ HC.out Try.underlying31 rfl (by kernel_rfl) ?_)) | (go_at_call 12; (with_reducible refine (HHD.out _).mono ?_); rintro e w5 ⟨rfl, hb⟩; have n0_ := Aside0.mk ((hb.block _ (blk_lt HC.out)).trans HC.out); have n1_ := Aside0.mk (below_then HB.out HB.out.size hb); clear HC HB hb; have HC := n0_; have HB := n1_; clear n0_ n1_))
  go_ret3
  exact ⟨by have h := HRB.out; subst h; rfl, HB.out⟩
 have HRN := Aside0.mk (heads_runs HHZ.out)
 go_upto_region 3 with (first | ((with_reducible refine wpList_load_row rfl 31 (.tmp 1) rfl w.heap.size rfl _ _ _ _ HC.out Try.underlying31 rfl (by kernel_rfl) ?_)) | (go_at_call 12; (with_reducible refine (HHD.out _).mono ?_); rintro e w5 ⟨rfl, hb⟩; have n0_ := Aside0.mk ((hb.block _ (blk_lt HC.out)).trans HC.out); have n1_ := Aside0.mk (below_then HB.out HB.out.size hb); clear HC HB hb; have HC := n0_; have HB := n1_; clear n0_ n1_))
 clear HHD
 go_wp2
 go_loopg [5] 5 (fun kq v5 w' => ∃ j : Nat, v5 = .int .i64 (j : Int) ∧ Aside0 (kq + j = 5) ∧ Aside0 (∀ q, q < j → ¬ 0 ≤ walkP [s0, s1, s2, s3, s4, s5, s6, s7] [g0, g1, g2, g3, g4, g5, g6, g7] [t0, t1, t2, t3] ma mb q (L q)) ∧ Aside0 (w'.heap[w.heap.size]? = some (.cells #[.int .i64 words, .int .i64 s0, .int .i64 s1, .int .i64 s2, .int .i64 s3, .int .i64 s4, .int .i64 s5, .int .i64 s6, .int .i64 s7, .int .i64 g0, .int .i64 g1, .int .i64 g2, .int .i64 g3, .int .i64 g4, .int .i64 g5, .int .i64 g6, .int .i64 g7, .int .i64 t0, .int .i64 t1, .int .i64 t2, .int .i64 t3, .int .i64 ma, .int .i64 mb, .int .i64 sa, .int .i64 na, .int .i64 sb, .int .i64 nb, .bool both, h0, h1, h2, h3, h4] 31 (0, 0))) ∧ Aside0 (Below w.heap.size w w'))
 case atStart => exact ⟨0, rfl, ⟨rfl⟩, ⟨fun q hq => by omega⟩, HC, HB⟩
 case round =>
  clear HC HB
  obtain ⟨j, rfl, HJ, HQ, HC, HB⟩ := hrel
  by_cases hj : j < 5
  ·have d1 : decide ((j : Int) < 5) = true := decide_eq_true (by omega)
   have hh := HHH.out j hj
   have HWQ := Aside0.mk (walkQR words s0 s1 s2 s3 s4 s5 s6 s7 g0 g1 g2 g3 g4 g5 g6 g7 t0 t1 t2 t3 ma mb sa na sb nb both h0 h1 h2 h3 h4 j (c j) hj (A j) (L j) wr (by
    rw [← hh.1]
    have : j = 0 ∨ j = 1 ∨ j = 2 ∨ j = 3 ∨ j = 4 := by omega
    rcases this with rfl | rfl | rfl | rfl | rfl <;> rfl) (Kd.C_below hh.2.1 HB.out) hh.2.2.1 HRN.out.1 HRN.out.2)
   have HJ5 := Aside0.mk hj
   have HWR := Aside0.mk (show wrap64 ((j : Int) + 1) = ((j + 1 : Nat) : Int) by
    unfold wrap64
    omega)
   obtain ⟨k1_, rfl⟩ : ∃ k1_, gk = k1_ + 1 := ⟨gk - 1, by have := HJ.out; omega⟩
   obtain ⟨z, hz⟩ : ∃ z, walkP [s0, s1, s2, s3, s4, s5, s6, s7] [g0, g1, g2, g3, g4, g5, g6, g7] [t0, t1, t2, t3] ma mb j (L j) = z := ⟨_, rfl⟩
   rw [hz] at HWQ
   have HZ := Aside0.mk hz
   clear hj hh hz
   by_cases hw : z ≥ 0
   ·have d2 : decide (z ≥ 0) = true := decide_eq_true hw
    have HRB := Aside0.mk (HR.out.trans (check_bad (L := L) HHZ.out HJ5.out (by rw [HZ.out]; exact hw) HQ.out))
    clear hw
    go_wp2_with (first | ((with_reducible refine wpList_load_row rfl 31 (.tmp 1) rfl w.heap.size rfl _ _ _ _ HC.out Try.underlying31 rfl (by kernel_rfl) ?_)) | (go_at_call 13; (with_reducible refine HWQ.out.mono ?_); rintro e w6 ⟨⟨v_, rfl⟩, hb⟩; have n0_ := Aside0.mk ((hb.block _ (blk_lt HC.out)).trans HC.out); have n1_ := Aside0.mk (below_then HB.out HB.out.size hb); clear HC HB hb; have HC := n0_; have HB := n1_; clear n0_ n1_))
    go_ret3
    exact ⟨by have h := HRB.out; rw [HZ.out] at h; subst h; rfl, HB.out⟩
   have d2 : decide (z ≥ 0) = false := decide_eq_false hw
   have HQ2 := Aside0.mk (show ∀ q, q < j + 1 → ¬ 0 ≤ walkP [s0, s1, s2, s3, s4, s5, s6, s7] [g0, g1, g2, g3, g4, g5, g6, g7] [t0, t1, t2, t3] ma mb q (L q) from fun q hq => by
    by_cases e : q = j
    ·rw [e, HZ.out]; exact hw
    exact HQ.out q (by omega))
   clear hw
   go_wp2_with (first | ((with_reducible refine wpList_load_row rfl 31 (.tmp 1) rfl w.heap.size rfl _ _ _ _ HC.out Try.underlying31 rfl (by kernel_rfl) ?_)) | (go_at_call 13; (with_reducible refine HWQ.out.mono ?_); rintro e w6 ⟨⟨v_, rfl⟩, hb⟩; have n0_ := Aside0.mk ((hb.block _ (blk_lt HC.out)).trans HC.out); have n1_ := Aside0.mk (below_then HB.out HB.out.size hb); clear HC HB hb; have HC := n0_; have HB := n1_; clear n0_ n1_))
   go_roundg k1_
   case measure => omega
   case rel => exact ⟨j + 1, (by first | rfl | (rw [HWR.out])), ⟨by have := HJ.out; omega⟩, HQ2, HC, HB⟩
  have d1 : decide ((j : Int) < 5) = false := decide_eq_false (by omega)
  have HRB := Aside0.mk (HR.out.trans (check_ok (L := L) HHZ.out (fun q hq => HQ.out q (by omega))))
  clear hj
  go_wp2
  go_ret3
  exact ⟨by have h := HRB.out; subst h; rfl, HB.out⟩
end CheckQ
end Go.Proofs.Ytcpcpmojallcdaa.QLoomChecks
