/- LoomChecks: Beh15 BehG. Conditions: as each theorem says. -/
import Derived.BigQuiet
import Derived.Test.YtcpcpmojallcdaaLcQ
import Derived.Test.YtcpcpmojallcdaaLcGM
namespace Go.Proofs.Ytcpcpmojallcdaa.QLoomChecks
open Go.RowKit Go.Proofs.YtcpcpmojallcdaaW.PrintWords Go.Proofs.YtcpcpmojallcdaaW.PrintLast Go.Proofs.YtcpcpmojallcdaaW.PrintMore
set_option linter.unusedVariables false
set_option linter.unusedSimpArgs false
section Beh15
set_option maxHeartbeats 8000000 in
set_option maxRecDepth 100000 in
theorem beh15R (words s0 s1 s2 s3 s4 s5 s6 s7 g0 g1 g2 g3 g4 g5 g6 g7 t0 t1 t2 t3 ma mb sa na sb nb : Int) (both : Bool) (h0 h1 h2 h3 h4 : Value) (hand l0 l1 l2 l3 l4 l5 l6 l7 : Int) (v : Value) (ks : List Int) (a : Nat) (w : World) (hv : StkR w v ks) (hl : ks.length ≤ 32) (ha : a < 4) (hnz : [t0, t1, t2, t3].getD a 0 ≠ 0) :
  Calls Try.prog 30 #[.agg #[.int .i64 words, .int .i64 s0, .int .i64 s1, .int .i64 s2, .int .i64 s3, .int .i64 s4, .int .i64 s5, .int .i64 s6, .int .i64 s7, .int .i64 g0, .int .i64 g1, .int .i64 g2, .int .i64 g3, .int .i64 g4, .int .i64 g5, .int .i64 g6, .int .i64 g7, .int .i64 t0, .int .i64 t1, .int .i64 t2, .int .i64 t3, .int .i64 ma, .int .i64 mb, .int .i64 sa, .int .i64 na, .int .i64 sb, .int .i64 nb, .bool both, h0, h1, h2, h3, h4], .int .i64 hand, .agg #[.int .i64 15, .int .i64 (a : Int)], v, .agg #[.int .i64 l0, .int .i64 l1, .int .i64 l2, .int .i64 l3, .int .i64 l4, .int .i64 l5, .int .i64 l6, .int .i64 l7]] w fun e w' => (afterP (resP hand ma mb) [s0, s1, s2, s3, s4, s5, s6, s7] [g0, g1, g2, g3, g4, g5, g6, g7] [t0, t1, t2, t3] (kindsOf (tabP 15)) (kindsOf (tabQ 15)) (tabS 15) 15 a ks [l0, l1, l2, l3, l4, l5, l6, l7] = none ∧ ∃ (v' : Value) (n0 n1 n2 n3 n4 n5 n6 n7 : Int), e = .returned (.tuple #[v', .agg #[.int .i64 n0, .int .i64 n1, .int .i64 n2, .int .i64 n3, .int .i64 n4, .int .i64 n5, .int .i64 n6, .int .i64 n7], .bool false]) ∧ Below w.heap.size w w') ∨ ∃ s' lo' v', afterP (resP hand ma mb) [s0, s1, s2, s3, s4, s5, s6, s7] [g0, g1, g2, g3, g4, g5, g6, g7] [t0, t1, t2, t3] (kindsOf (tabP 15)) (kindsOf (tabQ 15)) (tabS 15) 15 a ks [l0, l1, l2, l3, l4, l5, l6, l7] = some (s', lo') ∧ e = .returned (.tuple #[v', .agg (nums .i64 lo').toArray, .bool true]) ∧ StkR w' v' s' ∧ Below w.heap.size w w' := by
 have n0_ := blk_alloc (blk_alloc (blk_alloc (heap_alloc_new w (.cells #[.int .i64 words, .int .i64 s0, .int .i64 s1, .int .i64 s2, .int .i64 s3, .int .i64 s4, .int .i64 s5, .int .i64 s6, .int .i64 s7, .int .i64 g0, .int .i64 g1, .int .i64 g2, .int .i64 g3, .int .i64 g4, .int .i64 g5, .int .i64 g6, .int .i64 g7, .int .i64 t0, .int .i64 t1, .int .i64 t2, .int .i64 t3, .int .i64 ma, .int .i64 mb, .int .i64 sa, .int .i64 na, .int .i64 sb, .int .i64 nb, .bool both, h0, h1, h2, h3, h4] 31)) (.cells #[.int .i64 15, .int .i64 (a : Int)] 42)) (.cells #[.int .i64 l0, .int .i64 l1, .int .i64 l2, .int .i64 l3, .int .i64 l4, .int .i64 l5, .int .i64 l6, .int .i64 l7] 23)) (.cells #[.int .i64 0, .int .i64 0, .int .i64 0, .int .i64 0, .int .i64 0, .int .i64 0, .int .i64 0, .int .i64 0] 23)
 have n1_ := blk_alloc (blk_alloc (heap_alloc_new (w.alloc (.cells #[.int .i64 words, .int .i64 s0, .int .i64 s1, .int .i64 s2, .int .i64 s3, .int .i64 s4, .int .i64 s5, .int .i64 s6, .int .i64 s7, .int .i64 g0, .int .i64 g1, .int .i64 g2, .int .i64 g3, .int .i64 g4, .int .i64 g5, .int .i64 g6, .int .i64 g7, .int .i64 t0, .int .i64 t1, .int .i64 t2, .int .i64 t3, .int .i64 ma, .int .i64 mb, .int .i64 sa, .int .i64 na, .int .i64 sb, .int .i64 nb, .bool both, h0, h1, h2, h3, h4] 31)) (.cells #[.int .i64 15, .int .i64 (a : Int)] 42)) (.cells #[.int .i64 l0, .int .i64 l1, .int .i64 l2, .int .i64 l3, .int .i64 l4, .int .i64 l5, .int .i64 l6, .int .i64 l7] 23)) (.cells #[.int .i64 0, .int .i64 0, .int .i64 0, .int .i64 0, .int .i64 0, .int .i64 0, .int .i64 0, .int .i64 0] 23)
 have n2_ := blk_alloc (heap_alloc_new ((w.alloc (.cells #[.int .i64 words, .int .i64 s0, .int .i64 s1, .int .i64 s2, .int .i64 s3, .int .i64 s4, .int .i64 s5, .int .i64 s6, .int .i64 s7, .int .i64 g0, .int .i64 g1, .int .i64 g2, .int .i64 g3, .int .i64 g4, .int .i64 g5, .int .i64 g6, .int .i64 g7, .int .i64 t0, .int .i64 t1, .int .i64 t2, .int .i64 t3, .int .i64 ma, .int .i64 mb, .int .i64 sa, .int .i64 na, .int .i64 sb, .int .i64 nb, .bool both, h0, h1, h2, h3, h4] 31)).alloc (.cells #[.int .i64 15, .int .i64 (a : Int)] 42)) (.cells #[.int .i64 l0, .int .i64 l1, .int .i64 l2, .int .i64 l3, .int .i64 l4, .int .i64 l5, .int .i64 l6, .int .i64 l7] 23)) (.cells #[.int .i64 0, .int .i64 0, .int .i64 0, .int .i64 0, .int .i64 0, .int .i64 0, .int .i64 0, .int .i64 0] 23)
 have n3_ := heap_alloc_new (((w.alloc (.cells #[.int .i64 words, .int .i64 s0, .int .i64 s1, .int .i64 s2, .int .i64 s3, .int .i64 s4, .int .i64 s5, .int .i64 s6, .int .i64 s7, .int .i64 g0, .int .i64 g1, .int .i64 g2, .int .i64 g3, .int .i64 g4, .int .i64 g5, .int .i64 g6, .int .i64 g7, .int .i64 t0, .int .i64 t1, .int .i64 t2, .int .i64 t3, .int .i64 ma, .int .i64 mb, .int .i64 sa, .int .i64 na, .int .i64 sb, .int .i64 nb, .bool both, h0, h1, h2, h3, h4] 31)).alloc (.cells #[.int .i64 15, .int .i64 (a : Int)] 42)).alloc (.cells #[.int .i64 l0, .int .i64 l1, .int .i64 l2, .int .i64 l3, .int .i64 l4, .int .i64 l5, .int .i64 l6, .int .i64 l7] 23)) (.cells #[.int .i64 0, .int .i64 0, .int .i64 0, .int .i64 0, .int .i64 0, .int .i64 0, .int .i64 0, .int .i64 0] 23)
 simp only [World.size_alloc] at n1_ n2_ n3_
 have n4_ := below_alloc (below_alloc (below_alloc (below_alloc (Below.refl w.heap.size w) (.cells #[.int .i64 words, .int .i64 s0, .int .i64 s1, .int .i64 s2, .int .i64 s3, .int .i64 s4, .int .i64 s5, .int .i64 s6, .int .i64 s7, .int .i64 g0, .int .i64 g1, .int .i64 g2, .int .i64 g3, .int .i64 g4, .int .i64 g5, .int .i64 g6, .int .i64 g7, .int .i64 t0, .int .i64 t1, .int .i64 t2, .int .i64 t3, .int .i64 ma, .int .i64 mb, .int .i64 sa, .int .i64 na, .int .i64 sb, .int .i64 nb, .bool both, h0, h1, h2, h3, h4] 31)) (.cells #[.int .i64 15, .int .i64 (a : Int)] 42)) (.cells #[.int .i64 l0, .int .i64 l1, .int .i64 l2, .int .i64 l3, .int .i64 l4, .int .i64 l5, .int .i64 l6, .int .i64 l7] 23)) (.cells #[.int .i64 0, .int .i64 0, .int .i64 0, .int .i64 0, .int .i64 0, .int .i64 0, .int .i64 0, .int .i64 0] 23)
 have HVR := Aside0.mk (hv.below n4_)
 have n5_ := Nat.le_of_eq (World.size_alloc (((w.alloc (.cells #[.int .i64 words, .int .i64 s0, .int .i64 s1, .int .i64 s2, .int .i64 s3, .int .i64 s4, .int .i64 s5, .int .i64 s6, .int .i64 s7, .int .i64 g0, .int .i64 g1, .int .i64 g2, .int .i64 g3, .int .i64 g4, .int .i64 g5, .int .i64 g6, .int .i64 g7, .int .i64 t0, .int .i64 t1, .int .i64 t2, .int .i64 t3, .int .i64 ma, .int .i64 mb, .int .i64 sa, .int .i64 na, .int .i64 sb, .int .i64 nb, .bool both, h0, h1, h2, h3, h4] 31)).alloc (.cells #[.int .i64 15, .int .i64 (a : Int)] 42)).alloc (.cells #[.int .i64 l0, .int .i64 l1, .int .i64 l2, .int .i64 l3, .int .i64 l4, .int .i64 l5, .int .i64 l6, .int .i64 l7] 23)) (.cells #[.int .i64 0, .int .i64 0, .int .i64 0, .int .i64 0, .int .i64 0, .int .i64 0, .int .i64 0, .int .i64 0] 23)).symm
 simp only [World.size_alloc] at n5_
 have HD := Aside0.mk (show DQ w ((((w.alloc (.cells #[.int .i64 words, .int .i64 s0, .int .i64 s1, .int .i64 s2, .int .i64 s3, .int .i64 s4, .int .i64 s5, .int .i64 s6, .int .i64 s7, .int .i64 g0, .int .i64 g1, .int .i64 g2, .int .i64 g3, .int .i64 g4, .int .i64 g5, .int .i64 g6, .int .i64 g7, .int .i64 t0, .int .i64 t1, .int .i64 t2, .int .i64 t3, .int .i64 ma, .int .i64 mb, .int .i64 sa, .int .i64 na, .int .i64 sb, .int .i64 nb, .bool both, h0, h1, h2, h3, h4] 31)).alloc (.cells #[.int .i64 15, .int .i64 (a : Int)] 42)).alloc (.cells #[.int .i64 l0, .int .i64 l1, .int .i64 l2, .int .i64 l3, .int .i64 l4, .int .i64 l5, .int .i64 l6, .int .i64 l7] 23)).alloc (.cells #[.int .i64 0, .int .i64 0, .int .i64 0, .int .i64 0, .int .i64 0, .int .i64 0, .int .i64 0, .int .i64 0] 23)).heap.size words s0 s1 s2 s3 s4 s5 s6 s7 g0 g1 g2 g3 g4 g5 g6 g7 t0 t1 t2 t3 ma mb sa na sb nb both h0 h1 h2 h3 h4 15 a l0 l1 l2 l3 l4 l5 l6 l7 ((((w.alloc (.cells #[.int .i64 words, .int .i64 s0, .int .i64 s1, .int .i64 s2, .int .i64 s3, .int .i64 s4, .int .i64 s5, .int .i64 s6, .int .i64 s7, .int .i64 g0, .int .i64 g1, .int .i64 g2, .int .i64 g3, .int .i64 g4, .int .i64 g5, .int .i64 g6, .int .i64 g7, .int .i64 t0, .int .i64 t1, .int .i64 t2, .int .i64 t3, .int .i64 ma, .int .i64 mb, .int .i64 sa, .int .i64 na, .int .i64 sb, .int .i64 nb, .bool both, h0, h1, h2, h3, h4] 31)).alloc (.cells #[.int .i64 15, .int .i64 (a : Int)] 42)).alloc (.cells #[.int .i64 l0, .int .i64 l1, .int .i64 l2, .int .i64 l3, .int .i64 l4, .int .i64 l5, .int .i64 l6, .int .i64 l7] 23)).alloc (.cells #[.int .i64 0, .int .i64 0, .int .i64 0, .int .i64 0, .int .i64 0, .int .i64 0, .int .i64 0, .int .i64 0] 23)) from ⟨n0_, n1_, n2_, n3_, n4_, Nat.le_refl _, by simp only [World.size_alloc]; omega⟩)
 have HL := Aside0.mk hl
 obtain ⟨Av, cv, hvv, _⟩ := hv.slice
 subst hvv
 clear hv n0_ n1_ n2_ n3_ n4_ n5_
 go_enter Try.func30, Try.ntmps30
 go_upto_region 2 with (fail)
 generalize ((((w.alloc (.cells #[.int .i64 words, .int .i64 s0, .int .i64 s1, .int .i64 s2, .int .i64 s3, .int .i64 s4, .int .i64 s5, .int .i64 s6, .int .i64 s7, .int .i64 g0, .int .i64 g1, .int .i64 g2, .int .i64 g3, .int .i64 g4, .int .i64 g5, .int .i64 g6, .int .i64 g7, .int .i64 t0, .int .i64 t1, .int .i64 t2, .int .i64 t3, .int .i64 ma, .int .i64 mb, .int .i64 sa, .int .i64 na, .int .i64 sb, .int .i64 nb, .bool both, h0, h1, h2, h3, h4] 31)).alloc (.cells #[.int .i64 15, .int .i64 (a : Int)] 42)).alloc (.cells #[.int .i64 l0, .int .i64 l1, .int .i64 l2, .int .i64 l3, .int .i64 l4, .int .i64 l5, .int .i64 l6, .int .i64 l7] 23)).alloc (.cells #[.int .i64 0, .int .i64 0, .int .i64 0, .int .i64 0, .int .i64 0, .int .i64 0, .int .i64 0, .int .i64 0] 23)) = w4 at HD HVR ⊢
 have HO : Aside0 (w4.ownsRow w4.heap.size 22 1 (.slice none 0 0) ([] : List Int).length (nums .i64 [])) := ⟨own_nil _ _ _ _⟩
 go_upto_region 4 with ((with_reducible refine gate_builtin (b := .append) (xs := #[.tmp 21, .tmp 22]) rfl ?_); at_builtin; refine stk_concat w4.heap.size rfl (.tmp 21) (.tmp 22) rfl _ _ [] ks rfl rfl HO.out HVR.out (Nat.le_refl _) (by simpa using Nat.le_trans HL.out (by decide)) ?_; intro v1 w5 hv1 hb1; rw [List.nil_append] at hv1; obtain ⟨A1, c1, hv2, hlc1⟩ := hv1.read.slice; subst hv2; have HV := Aside0.mk hv1; have HB5 := Aside0.mk hb1; clear hv1 hb1)
 have HD := Aside0.mk (HD.out.step HB5.out)
 clear HVR HO HB5
 have HTP := Aside0.mk (table_ok 15 (by decide)).2.2.2.1
 have HTQ := Aside0.mk (table_ok 15 (by decide)).2.2.2.2
 have HAF := Aside0.mk (show afterP (resP hand ma mb) [s0, s1, s2, s3, s4, s5, s6, s7] [g0, g1, g2, g3, g4, g5, g6, g7] [t0, t1, t2, t3] (kindsOf (tabP 15)) (kindsOf (tabQ 15)) (tabS 15) 15 a ks [l0, l1, l2, l3, l4, l5, l6, l7] = specP (resP hand ma mb) [s0, s1, s2, s3, s4, s5, s6, s7] [g0, g1, g2, g3, g4, g5, g6, g7] [t0, t1, t2, t3] 15 a ks [l0, l1, l2, l3, l4, l5, l6, l7] from aft_spec (by decide) (by decide) (by decide))
 rw [show tabP 15 = (⟨#[]⟩ : ByteArray) from by decide +kernel] at HTP
 rw [show tabQ 15 = (⟨#[]⟩ : ByteArray) from by decide +kernel] at HTQ
 have hx0 : _ = some (Value.int .i64 15) := blk_cell HD.out.x 0
 have HPC := Aside0.mk (fun W => sluiceref11_pops.calls 100 15 (⟨#[]⟩ : ByteArray) W HTP.out)
 have HQC := Aside0.mk (fun W => sluiceref11_pushes.calls 100 15 (⟨#[]⟩ : ByteArray) W HTQ.out)
 go_upto_region 7 with (go_at_call 49; refine (HPC.out _).mono ?_; rintro e w6 ⟨rfl, ⟨nd, rfl⟩⟩)
 have n0_ := HD.out.step (pw_below_drewN (Below.refl _ _) nd)
 have n1_ := HV.out.below (pw_below_drewN (Below.refl _ _) nd)
 clear hx0 HPC HD HV
 have HD := Aside0.mk n0_
 have HV := Aside0.mk n1_
 clear n0_ n1_
 generalize w5.drewN nd = w6 at HD HV ⊢
 go_wp2
 go_loopg [16] 1 (fun kq v16 w' => v16 = .int .i64 0 ∧ w' = w6)
 case atStart => exact ⟨rfl, rfl⟩
 case round =>
  obtain ⟨rfl, rfl⟩ := hrel
  have hx0 : _ = some (Value.int .i64 15) := blk_cell HD.out.x 0
  have hx1 : _ = some (Value.int .i64 (a : Int)) := blk_cell HD.out.x 1
  have hsl : ¬ (c1 : Int) < (ks.length : Int) := by omega
  have HT := Aside0.mk (HV.out.take ks.length (Nat.le_refl _))
  rw [List.take_length] at HT
  clear HV
  have HS := Aside0.mk (HAF.out.trans (show specP (resP hand ma mb) [s0, s1, s2, s3, s4, s5, s6, s7] [g0, g1, g2, g3, g4, g5, g6, g7] [t0, t1, t2, t3] 15 a ks [l0, l1, l2, l3, l4, l5, l6, l7] = (popP ([t0, t1, t2, t3].getD a 0) ks).map (fun s2 => (s2, [l0, l1, l2, l3, l4, l5, l6, l7])) from rfl))
  clear HAF
  have hqs_ := kd_cell1 HD.out.c a (by omega)
  have hqk_ := kd_cell3 HD.out.c a ha
  have qa : 0 ≤ (a : Int) ∧ (a : Int) < 8 := by omega
  have qb : 0 ≤ (a : Int) ∧ (a : Int) < 4 := by omega
  have qr : ((a : Int)).tmod 8 = (a : Int) := by rw [Int.tmod_eq_emod_of_nonneg (by omega)]; omega
  obtain ⟨k, hk⟩ : ∃ k, k = [t0, t1, t2, t3].getD a 0 := ⟨_, rfl⟩
  rw [← hk] at hqk_ HS
  have HK0 : Aside0 (k ≠ 0) := ⟨by rw [hk]; exact hnz⟩
  clear hk
  rcases Nat.eq_zero_or_pos ks.length with hz0 | hz0
  ·have hk0 : ks = [] := List.eq_nil_of_length_eq_zero hz0
   have d1 : decide ((ks.length : Int) < 1) = true := decide_eq_true (by omega)
   have d2 : decide (ks.length < 1) = true := decide_eq_true (by omega)
   have HS2 := Aside0.mk (HS.out.trans (show _ = none by rw [hk0]; rfl))
   have hl0_ : _ = some (Value.int .i64 l0) := blk_cell HD.out.lo 0
   have hr0_ : _ = some (Value.int .i64 0) := blk_cell HD.out.rb 0
   have hf0_ := blk_frozen HD.out.rb 0
   have hl1_ : _ = some (Value.int .i64 l1) := blk_cell HD.out.lo 1
   have hr1_ : _ = some (Value.int .i64 0) := blk_cell HD.out.rb 1
   have hf1_ := blk_frozen HD.out.rb 1
   have hl2_ : _ = some (Value.int .i64 l2) := blk_cell HD.out.lo 2
   have hr2_ : _ = some (Value.int .i64 0) := blk_cell HD.out.rb 2
   have hf2_ := blk_frozen HD.out.rb 2
   have hl3_ : _ = some (Value.int .i64 l3) := blk_cell HD.out.lo 3
   have hr3_ : _ = some (Value.int .i64 0) := blk_cell HD.out.rb 3
   have hf3_ := blk_frozen HD.out.rb 3
   have hl4_ : _ = some (Value.int .i64 l4) := blk_cell HD.out.lo 4
   have hr4_ : _ = some (Value.int .i64 0) := blk_cell HD.out.rb 4
   have hf4_ := blk_frozen HD.out.rb 4
   have hl5_ : _ = some (Value.int .i64 l5) := blk_cell HD.out.lo 5
   have hr5_ : _ = some (Value.int .i64 0) := blk_cell HD.out.rb 5
   have hf5_ := blk_frozen HD.out.rb 5
   have hl6_ : _ = some (Value.int .i64 l6) := blk_cell HD.out.lo 6
   have hr6_ : _ = some (Value.int .i64 0) := blk_cell HD.out.rb 6
   have hf6_ := blk_frozen HD.out.rb 6
   have hl7_ : _ = some (Value.int .i64 l7) := blk_cell HD.out.lo 7
   have hr7_ : _ = some (Value.int .i64 0) := blk_cell HD.out.rb 7
   have hf7_ := blk_frozen HD.out.rb 7
   go_wp2
   repeat (go_region; try go_wp2)
   obtain ⟨n3_, n4_, n5_⟩ := fill8 HD.out.rb l0 l1 l2 l3 l4 l5 l6 l7
   have n5_ := n5_ w HD.out.b (by omega)
   generalize ((((((((wr.setCell ⟨(w.heap.size + 1 + 1 + 1), 0, none⟩ (.int .i64 l0)).setCell ⟨(w.heap.size + 1 + 1 + 1), 1, none⟩ (.int .i64 l1)).setCell ⟨(w.heap.size + 1 + 1 + 1), 2, none⟩ (.int .i64 l2)).setCell ⟨(w.heap.size + 1 + 1 + 1), 3, none⟩ (.int .i64 l3)).setCell ⟨(w.heap.size + 1 + 1 + 1), 4, none⟩ (.int .i64 l4)).setCell ⟨(w.heap.size + 1 + 1 + 1), 5, none⟩ (.int .i64 l5)).setCell ⟨(w.heap.size + 1 + 1 + 1), 6, none⟩ (.int .i64 l6)).setCell ⟨(w.heap.size + 1 + 1 + 1), 7, none⟩ (.int .i64 l7)) = w9 at n3_ n4_ n5_ ⊢
   have hc0_ : w9.drew.cell? ⟨(w.heap.size + 1 + 1 + 1), 0, none⟩ = some (.int .i64 l0) := blk_cell n3_ 0
   have hc1_ : w9.drew.cell? ⟨(w.heap.size + 1 + 1 + 1), 1, none⟩ = some (.int .i64 l1) := blk_cell n3_ 1
   have hc2_ : w9.drew.cell? ⟨(w.heap.size + 1 + 1 + 1), 2, none⟩ = some (.int .i64 l2) := blk_cell n3_ 2
   have hc3_ : w9.drew.cell? ⟨(w.heap.size + 1 + 1 + 1), 3, none⟩ = some (.int .i64 l3) := blk_cell n3_ 3
   have hc4_ : w9.drew.cell? ⟨(w.heap.size + 1 + 1 + 1), 4, none⟩ = some (.int .i64 l4) := blk_cell n3_ 4
   have hc5_ : w9.drew.cell? ⟨(w.heap.size + 1 + 1 + 1), 5, none⟩ = some (.int .i64 l5) := blk_cell n3_ 5
   have hc6_ : w9.drew.cell? ⟨(w.heap.size + 1 + 1 + 1), 6, none⟩ = some (.int .i64 l6) := blk_cell n3_ 6
   have hc7_ : w9.drew.cell? ⟨(w.heap.size + 1 + 1 + 1), 7, none⟩ = some (.int .i64 l7) := blk_cell n3_ 7
   refine bodyPost_ret (v := .tuple #[.slice none 0 0, .agg #[.int .i64 l0, .int .i64 l1, .int .i64 l2, .int .i64 l3, .int .i64 l4, .int .i64 l5, .int .i64 l6, .int .i64 l7], .bool false]) (by simp [results, Try.results30, go_sem, hc0_, hc1_, hc2_, hc3_, hc4_, hc5_, hc6_, hc7_]) rfl ?_
   exact .inl ⟨HS2.out, _, _, _, _, _, _, _, _, _, rfl, pw_below_drewN n5_ 1⟩
  obtain ⟨n, hn⟩ : ∃ n, ks.length = n + 1 := ⟨ks.length - 1, by omega⟩
  obtain ⟨q, hqA, hqN, hqc, hqs⟩ := HT.out.cell n (by omega)
  subst hqA
  have HP := Aside0.mk (pop_last hn)
  have d1 : decide ((ks.length : Int) < 1) = false := decide_eq_false (by omega)
  have d2 : decide (ks.length < 1) = false := decide_eq_false (by omega)
  have hn1 : n = ks.length - 1 := by omega
  subst hn1
  have q1 : 0 ≤ (ks.length : Int) - 1 ∧ (ks.length : Int) - 1 < (ks.length : Int) := by omega
  have q2 : ¬ (ks.length : Int) - 1 < 0 := by omega
  have q3 : ¬ (c1 : Int) < (ks.length : Int) - 1 := by omega
  obtain ⟨t, ht⟩ : ∃ t, t = ks.getD (ks.length - 1) 0 := ⟨_, rfl⟩
  rw [← ht] at hqc HP
  have HQS := Aside0.mk hqs
  have HQN := Aside0.mk hqN
  have HZ0 := Aside0.mk hz0
  clear hn ht hqs hqN hz0
  by_cases htk : t = k
  ·have d3 : (t != k) = false := bne_eq_false_iff_eq.mpr htk
   have HS2 := Aside0.mk (HS.out.trans (show _ = some (ks.take (ks.length - 1), [l0, l1, l2, l3, l4, l5, l6, l7]) by rw [pop_pos HP.out (.inr htk)]; rfl))
   have n0_ := Aside0.mk (HT.out.take (ks.length - 1) (by omega))
   clear HS HT htk
   have HT := n0_
   clear n0_
   go_upto_region 61 with (fail)
   obtain ⟨r, hr⟩ : ∃ r, r = ks.take (ks.length - 1) := ⟨_, rfl⟩
   rw [← hr] at HS2 HT
   have hrl : ks.length - 1 = r.length := by rw [hr]; exact take_len.symm
   have HS := Aside0.mk (HS2.out.trans (if32 (by have := HL.out; omega)))
   rw [hrl] at HT ⊢
   clear hr hrl HS2
   go_upto_region 62 with (go_at_call 52; refine (HQC.out _).mono ?_; rintro e wq ⟨rfl, ⟨nq, rfl⟩⟩)
   have n0_ := HD.out.step (pw_below_drewN (Below.refl _ _) nq)
   have n1_ := HT.out.below (pw_below_drewN (Below.refl _ _) nq)
   clear hx0 hx1 HQC HD HT
   have HD := Aside0.mk n0_
   have HT := Aside0.mk n1_
   clear n0_ n1_
   generalize wr.drewN nq = wt at HD HT ⊢
   go_wp2
   go_loopg [13, 20] 2 (fun kq v13 v20 w' => v13 = .slice (some ⟨q, 0, none⟩) r.length c1 ∧ v20 = .int .i64 0 ∧ w' = wt)
   case atStart => exact ⟨rfl, rfl, rfl⟩
   case round =>
    obtain ⟨rfl, rfl, rfl⟩ := hrel
    have hl0_ : _ = some (Value.int .i64 l0) := blk_cell HD.out.lo 0
    have hr0_ : _ = some (Value.int .i64 0) := blk_cell HD.out.rb 0
    have hf0_ := blk_frozen HD.out.rb 0
    have hl1_ : _ = some (Value.int .i64 l1) := blk_cell HD.out.lo 1
    have hr1_ : _ = some (Value.int .i64 0) := blk_cell HD.out.rb 1
    have hf1_ := blk_frozen HD.out.rb 1
    have hl2_ : _ = some (Value.int .i64 l2) := blk_cell HD.out.lo 2
    have hr2_ : _ = some (Value.int .i64 0) := blk_cell HD.out.rb 2
    have hf2_ := blk_frozen HD.out.rb 2
    have hl3_ : _ = some (Value.int .i64 l3) := blk_cell HD.out.lo 3
    have hr3_ : _ = some (Value.int .i64 0) := blk_cell HD.out.rb 3
    have hf3_ := blk_frozen HD.out.rb 3
    have hl4_ : _ = some (Value.int .i64 l4) := blk_cell HD.out.lo 4
    have hr4_ : _ = some (Value.int .i64 0) := blk_cell HD.out.rb 4
    have hf4_ := blk_frozen HD.out.rb 4
    have hl5_ : _ = some (Value.int .i64 l5) := blk_cell HD.out.lo 5
    have hr5_ : _ = some (Value.int .i64 0) := blk_cell HD.out.rb 5
    have hf5_ := blk_frozen HD.out.rb 5
    have hl6_ : _ = some (Value.int .i64 l6) := blk_cell HD.out.lo 6
    have hr6_ : _ = some (Value.int .i64 0) := blk_cell HD.out.rb 6
    have hf6_ := blk_frozen HD.out.rb 6
    have hl7_ : _ = some (Value.int .i64 l7) := blk_cell HD.out.lo 7
    have hr7_ : _ = some (Value.int .i64 0) := blk_cell HD.out.rb 7
    have hf7_ := blk_frozen HD.out.rb 7
    by_cases hq : r.length ≤ 32
    ·have d9 : decide ((r.length : Int) ≤ 32) = true := decide_eq_true (by omega)
     have HS2 := Aside0.mk (HS.out.trans (if_pos hq))
     clear hq
     go_wp2
     repeat (go_region; try go_wp2)
     obtain ⟨n3_, n4_, n5_⟩ := fill8 HD.out.rb l0 l1 l2 l3 l4 l5 l6 l7
     have n5_ := n5_ w HD.out.b (by omega)
     generalize ((((((((wr.setCell ⟨(w.heap.size + 1 + 1 + 1), 0, none⟩ (.int .i64 l0)).setCell ⟨(w.heap.size + 1 + 1 + 1), 1, none⟩ (.int .i64 l1)).setCell ⟨(w.heap.size + 1 + 1 + 1), 2, none⟩ (.int .i64 l2)).setCell ⟨(w.heap.size + 1 + 1 + 1), 3, none⟩ (.int .i64 l3)).setCell ⟨(w.heap.size + 1 + 1 + 1), 4, none⟩ (.int .i64 l4)).setCell ⟨(w.heap.size + 1 + 1 + 1), 5, none⟩ (.int .i64 l5)).setCell ⟨(w.heap.size + 1 + 1 + 1), 6, none⟩ (.int .i64 l6)).setCell ⟨(w.heap.size + 1 + 1 + 1), 7, none⟩ (.int .i64 l7)) = w9 at n3_ n4_ n5_ ⊢
     have hc0_ : w9.drew.cell? ⟨(w.heap.size + 1 + 1 + 1), 0, none⟩ = some (.int .i64 l0) := blk_cell n3_ 0
     have hc1_ : w9.drew.cell? ⟨(w.heap.size + 1 + 1 + 1), 1, none⟩ = some (.int .i64 l1) := blk_cell n3_ 1
     have hc2_ : w9.drew.cell? ⟨(w.heap.size + 1 + 1 + 1), 2, none⟩ = some (.int .i64 l2) := blk_cell n3_ 2
     have hc3_ : w9.drew.cell? ⟨(w.heap.size + 1 + 1 + 1), 3, none⟩ = some (.int .i64 l3) := blk_cell n3_ 3
     have hc4_ : w9.drew.cell? ⟨(w.heap.size + 1 + 1 + 1), 4, none⟩ = some (.int .i64 l4) := blk_cell n3_ 4
     have hc5_ : w9.drew.cell? ⟨(w.heap.size + 1 + 1 + 1), 5, none⟩ = some (.int .i64 l5) := blk_cell n3_ 5
     have hc6_ : w9.drew.cell? ⟨(w.heap.size + 1 + 1 + 1), 6, none⟩ = some (.int .i64 l6) := blk_cell n3_ 6
     have hc7_ : w9.drew.cell? ⟨(w.heap.size + 1 + 1 + 1), 7, none⟩ = some (.int .i64 l7) := blk_cell n3_ 7
     refine bodyPost_ret (v := .tuple #[.slice (some ⟨q, 0, none⟩) r.length c1, .agg #[.int .i64 l0, .int .i64 l1, .int .i64 l2, .int .i64 l3, .int .i64 l4, .int .i64 l5, .int .i64 l6, .int .i64 l7], .bool true]) (by simp [results, Try.results30, go_sem, hc0_, hc1_, hc2_, hc3_, hc4_, hc5_, hc6_, hc7_]) rfl ?_
     exact .inr ⟨_, _, _, HS2.out, rfl, (n4_ _ _ HT.out.read).below (pw_below_drewN (Below.refl _ _) 1), pw_below_drewN n5_ 1⟩
    have d9 : decide ((r.length : Int) ≤ 32) = false := decide_eq_false (by omega)
    have HS2 := Aside0.mk (HS.out.trans (if_neg hq))
    clear hq
    go_wp2
    repeat (go_region; try go_wp2)
    obtain ⟨n3_, n4_, n5_⟩ := fill8 HD.out.rb l0 l1 l2 l3 l4 l5 l6 l7
    have n5_ := n5_ w HD.out.b (by omega)
    generalize ((((((((wr.setCell ⟨(w.heap.size + 1 + 1 + 1), 0, none⟩ (.int .i64 l0)).setCell ⟨(w.heap.size + 1 + 1 + 1), 1, none⟩ (.int .i64 l1)).setCell ⟨(w.heap.size + 1 + 1 + 1), 2, none⟩ (.int .i64 l2)).setCell ⟨(w.heap.size + 1 + 1 + 1), 3, none⟩ (.int .i64 l3)).setCell ⟨(w.heap.size + 1 + 1 + 1), 4, none⟩ (.int .i64 l4)).setCell ⟨(w.heap.size + 1 + 1 + 1), 5, none⟩ (.int .i64 l5)).setCell ⟨(w.heap.size + 1 + 1 + 1), 6, none⟩ (.int .i64 l6)).setCell ⟨(w.heap.size + 1 + 1 + 1), 7, none⟩ (.int .i64 l7)) = w9 at n3_ n4_ n5_ ⊢
    have hc0_ : w9.drew.cell? ⟨(w.heap.size + 1 + 1 + 1), 0, none⟩ = some (.int .i64 l0) := blk_cell n3_ 0
    have hc1_ : w9.drew.cell? ⟨(w.heap.size + 1 + 1 + 1), 1, none⟩ = some (.int .i64 l1) := blk_cell n3_ 1
    have hc2_ : w9.drew.cell? ⟨(w.heap.size + 1 + 1 + 1), 2, none⟩ = some (.int .i64 l2) := blk_cell n3_ 2
    have hc3_ : w9.drew.cell? ⟨(w.heap.size + 1 + 1 + 1), 3, none⟩ = some (.int .i64 l3) := blk_cell n3_ 3
    have hc4_ : w9.drew.cell? ⟨(w.heap.size + 1 + 1 + 1), 4, none⟩ = some (.int .i64 l4) := blk_cell n3_ 4
    have hc5_ : w9.drew.cell? ⟨(w.heap.size + 1 + 1 + 1), 5, none⟩ = some (.int .i64 l5) := blk_cell n3_ 5
    have hc6_ : w9.drew.cell? ⟨(w.heap.size + 1 + 1 + 1), 6, none⟩ = some (.int .i64 l6) := blk_cell n3_ 6
    have hc7_ : w9.drew.cell? ⟨(w.heap.size + 1 + 1 + 1), 7, none⟩ = some (.int .i64 l7) := blk_cell n3_ 7
    refine bodyPost_ret (v := .tuple #[.slice (some ⟨q, 0, none⟩) r.length c1, .agg #[.int .i64 l0, .int .i64 l1, .int .i64 l2, .int .i64 l3, .int .i64 l4, .int .i64 l5, .int .i64 l6, .int .i64 l7], .bool false]) (by simp [results, Try.results30, go_sem, hc0_, hc1_, hc2_, hc3_, hc4_, hc5_, hc6_, hc7_]) rfl ?_
    exact .inl ⟨HS2.out, _, _, _, _, _, _, _, _, _, rfl, pw_below_drewN n5_ 1⟩
  have d3 : (t != k) = true := bne_iff_ne.mpr htk
  have HS2 := Aside0.mk (HS.out.trans (show _ = none by rw [pop_neg HP.out HK0.out htk]; rfl))
  clear HS htk
  have hl0_ : _ = some (Value.int .i64 l0) := blk_cell HD.out.lo 0
  have hr0_ : _ = some (Value.int .i64 0) := blk_cell HD.out.rb 0
  have hf0_ := blk_frozen HD.out.rb 0
  have hl1_ : _ = some (Value.int .i64 l1) := blk_cell HD.out.lo 1
  have hr1_ : _ = some (Value.int .i64 0) := blk_cell HD.out.rb 1
  have hf1_ := blk_frozen HD.out.rb 1
  have hl2_ : _ = some (Value.int .i64 l2) := blk_cell HD.out.lo 2
  have hr2_ : _ = some (Value.int .i64 0) := blk_cell HD.out.rb 2
  have hf2_ := blk_frozen HD.out.rb 2
  have hl3_ : _ = some (Value.int .i64 l3) := blk_cell HD.out.lo 3
  have hr3_ : _ = some (Value.int .i64 0) := blk_cell HD.out.rb 3
  have hf3_ := blk_frozen HD.out.rb 3
  have hl4_ : _ = some (Value.int .i64 l4) := blk_cell HD.out.lo 4
  have hr4_ : _ = some (Value.int .i64 0) := blk_cell HD.out.rb 4
  have hf4_ := blk_frozen HD.out.rb 4
  have hl5_ : _ = some (Value.int .i64 l5) := blk_cell HD.out.lo 5
  have hr5_ : _ = some (Value.int .i64 0) := blk_cell HD.out.rb 5
  have hf5_ := blk_frozen HD.out.rb 5
  have hl6_ : _ = some (Value.int .i64 l6) := blk_cell HD.out.lo 6
  have hr6_ : _ = some (Value.int .i64 0) := blk_cell HD.out.rb 6
  have hf6_ := blk_frozen HD.out.rb 6
  have hl7_ : _ = some (Value.int .i64 l7) := blk_cell HD.out.lo 7
  have hr7_ : _ = some (Value.int .i64 0) := blk_cell HD.out.rb 7
  have hf7_ := blk_frozen HD.out.rb 7
  go_wp2
  repeat (go_region; try go_wp2)
  obtain ⟨n3_, n4_, n5_⟩ := fill8 HD.out.rb l0 l1 l2 l3 l4 l5 l6 l7
  have n5_ := n5_ w HD.out.b (by omega)
  generalize ((((((((wr.setCell ⟨(w.heap.size + 1 + 1 + 1), 0, none⟩ (.int .i64 l0)).setCell ⟨(w.heap.size + 1 + 1 + 1), 1, none⟩ (.int .i64 l1)).setCell ⟨(w.heap.size + 1 + 1 + 1), 2, none⟩ (.int .i64 l2)).setCell ⟨(w.heap.size + 1 + 1 + 1), 3, none⟩ (.int .i64 l3)).setCell ⟨(w.heap.size + 1 + 1 + 1), 4, none⟩ (.int .i64 l4)).setCell ⟨(w.heap.size + 1 + 1 + 1), 5, none⟩ (.int .i64 l5)).setCell ⟨(w.heap.size + 1 + 1 + 1), 6, none⟩ (.int .i64 l6)).setCell ⟨(w.heap.size + 1 + 1 + 1), 7, none⟩ (.int .i64 l7)) = w9 at n3_ n4_ n5_ ⊢
  have hc0_ : w9.drew.cell? ⟨(w.heap.size + 1 + 1 + 1), 0, none⟩ = some (.int .i64 l0) := blk_cell n3_ 0
  have hc1_ : w9.drew.cell? ⟨(w.heap.size + 1 + 1 + 1), 1, none⟩ = some (.int .i64 l1) := blk_cell n3_ 1
  have hc2_ : w9.drew.cell? ⟨(w.heap.size + 1 + 1 + 1), 2, none⟩ = some (.int .i64 l2) := blk_cell n3_ 2
  have hc3_ : w9.drew.cell? ⟨(w.heap.size + 1 + 1 + 1), 3, none⟩ = some (.int .i64 l3) := blk_cell n3_ 3
  have hc4_ : w9.drew.cell? ⟨(w.heap.size + 1 + 1 + 1), 4, none⟩ = some (.int .i64 l4) := blk_cell n3_ 4
  have hc5_ : w9.drew.cell? ⟨(w.heap.size + 1 + 1 + 1), 5, none⟩ = some (.int .i64 l5) := blk_cell n3_ 5
  have hc6_ : w9.drew.cell? ⟨(w.heap.size + 1 + 1 + 1), 6, none⟩ = some (.int .i64 l6) := blk_cell n3_ 6
  have hc7_ : w9.drew.cell? ⟨(w.heap.size + 1 + 1 + 1), 7, none⟩ = some (.int .i64 l7) := blk_cell n3_ 7
  refine bodyPost_ret (v := .tuple #[.slice none 0 0, .agg #[.int .i64 l0, .int .i64 l1, .int .i64 l2, .int .i64 l3, .int .i64 l4, .int .i64 l5, .int .i64 l6, .int .i64 l7], .bool false]) (by simp [results, Try.results30, go_sem, hc0_, hc1_, hc2_, hc3_, hc4_, hc5_, hc6_, hc7_]) rfl ?_
  exact .inl ⟨HS2.out, _, _, _, _, _, _, _, _, _, rfl, pw_below_drewN n5_ 1⟩
end Beh15
section BehG
theorem letter_val (b : UInt8) : sluiceref11_letter.f ((b.toNat : Int)) = some (kindOf1 b) := kind_val b
theorem pops_val : ∀ (K s : List Int), (∀ k ∈ K, k ≠ 0) → popsP K s = if K.length ≤ s.length ∧ s.drop (s.length - K.length) = K.reverse then some (s.take (s.length - K.length)) else none
 | [], s, _ => by
  rw [if_pos ⟨Nat.zero_le _, by simp⟩]
  simp [popsP]
 | k :: r, s, h => by
  have ih := fun s => pops_val r s (fun x hx => h x (List.mem_cons_of_mem _ hx))
  have hk : k ≠ 0 := h k List.mem_cons_self
  rcases List.eq_nil_or_concat s with rfl | ⟨ys, t, rfl⟩
  ·rw [if_neg (fun g => by simp at g)]
   rfl
  simp only [List.concat_eq_append]
  have e1 : popP k (ys ++ [t]) = if t ≠ k then none else some ys := by
   unfold popP
   rw [show (ys ++ [t]).getLast? = some t by simp, List.dropLast_concat]
   by_cases e : t = k
   ·simp [e]
   simp [e, hk]
  show (popP k (ys ++ [t])).bind (popsP r) = _
  rw [e1]
  simp only [List.length_append, List.length_singleton, List.length_cons, List.length_nil, Nat.zero_add, List.reverse_cons]
  rw [show ys.length + 1 - (r.length + 1) = ys.length - r.length by omega, List.drop_append_of_le_length (by omega), List.take_append_of_le_length (by omega)]
  by_cases e : t = k
  ·subst e
   rw [if_neg (fun g => g rfl), Option.bind_some, ih ys]
   by_cases g : r.length ≤ ys.length ∧ ys.drop (ys.length - r.length) = r.reverse
   ·rw [if_pos g, if_pos ⟨by omega, by rw [g.2]⟩]
   rw [if_neg g, if_neg (fun g2 => g ⟨by omega, List.append_cancel_right g2.2⟩)]
  rw [if_pos e, Option.bind_none, if_neg]
  rintro ⟨_, g⟩
  have := congrArg List.getLast? g
  simp at this
  exact e this
theorem pushes_val : ∀ (K s : List Int), s.length ≤ 32 → pushesP K s = if (s ++ K).length ≤ 32 then some (s ++ K) else none
 | [], s, h => by rw [List.append_nil, if_pos h]; rfl
 | k :: r, s, h => by
  show (pushP k s).bind (pushesP r) = _
  unfold pushP
  by_cases c : 32 ≤ s.length
  ·rw [if_pos c, if_neg (by rw [List.length_append, List.length_cons]; omega)]; rfl
  rw [if_neg c, Option.bind_some, pushes_val r (s ++ [k]) (by rw [List.length_append, List.length_singleton]; omega), List.append_assoc]
  rfl
theorem kinds_ne (p : ByteArray) : ∀ k ∈ (kindsOf p).reverse, k ≠ 0 := by
 intro k hk
 rw [List.mem_reverse, kindsOf, List.mem_map] at hk
 obtain ⟨b, _, rfl⟩ := hk
 exact kind_ne b
theorem after_gen {res st ag ct : List Int} {op a : Nat} {s lo : List Int} {p q : ByteArray} (hs : s.length ≤ 32) : afterP res st ag ct (kindsOf p) (kindsOf q) false op a s lo = if p.size ≤ s.length ∧ s.drop (s.length - p.size) = kindsOf p then (if (s.take (s.length - p.size) ++ kindsOf q).length ≤ 32 then some (s.take (s.length - p.size) ++ kindsOf q, lo) else none) else none := by
 unfold afterP
 rw [pops_val _ _ (kinds_ne p), List.length_reverse, kinds_len, List.reverse_reverse]
 by_cases g : p.size ≤ s.length ∧ s.drop (s.length - p.size) = kindsOf p
 ·rw [if_pos g, if_pos g, Option.bind_some]
  show (pushesP (kindsOf q) (s.take (s.length - p.size))).map _ = _
  rw [pushes_val _ _ (by rw [List.length_take]; omega)]
  split <;> rfl
 rw [if_neg g, if_neg g]; rfl
theorem drop_kinds {s : List Int} {p : ByteArray} (hl : p.size ≤ s.length) (h : ∀ (j : Nat) (hj : j < p.size), s.getD (s.length - p.size + j) 0 = kindOf1 p[j]) : s.drop (s.length - p.size) = kindsOf p := by
 refine eq_ext (by rw [List.length_drop, kinds_len]; omega) fun j hj => ?_
 rw [List.length_drop] at hj
 rw [kinds_get p j (by omega), ← h j (by omega), List.getD_eq_getElem?_getD, List.getElem?_drop, ← List.getD_eq_getElem?_getD]
theorem drop_ne {s : List Int} {p : ByteArray} (j : Nat) (hl : p.size ≤ s.length) (hj : j < p.size) (h : s.getD (s.length - p.size + j) 0 ≠ kindOf1 p[j]) : s.drop (s.length - p.size) ≠ kindsOf p := by
 intro e
 apply h
 rw [← kinds_get p j hj, ← e, List.getD_eq_getElem?_getD, List.getD_eq_getElem?_getD, List.getElem?_drop]
theorem kinds_snoc {q : ByteArray} {j : Nat} (hj : j < q.size) : (kindsOf q).take (j + 1) = (kindsOf q).take j ++ [kindOf1 q[j]] := by
 rw [List.take_add_one, List.getElem?_eq_getElem (by rw [kinds_len]; exact hj)]
 have := kinds_get q j hj
 rw [List.getD_eq_getElem?_getD, List.getElem?_eq_getElem (by rw [kinds_len]; exact hj)] at this
 rw [show (kindsOf q)[j]'(by rw [kinds_len]; exact hj) = kindOf1 q[j] from this]
 rfl
theorem not_special {op : Nat} (hop : op < 69) (hs : tabS op = false) : ((op : Int) == 0) = false ∧ ((op : Int) == 4) = false ∧ ((op : Int) == 5) = false ∧ ((op : Int) == 6) = false ∧ ((op : Int) == 7) = false ∧ ((op : Int) == 8) = false ∧ ((op : Int) == 9) = false ∧ ((op : Int) == 10) = false ∧ ((op : Int) == 11) = false ∧ ((op : Int) == 12) = false ∧ ((op : Int) == 13) = false ∧ ((op : Int) == 14) = false ∧ ((op : Int) == 15) = false := by
 have h : ¬ (op = 0 ∨ (4 ≤ op ∧ op ≤ 15)) := fun h => by rw [tab_special2 op hop h] at hs; cases hs
 refine ⟨?_, ?_, ?_, ?_, ?_, ?_, ?_, ?_, ?_, ?_, ?_, ?_, ?_⟩ <;> exact beq_eq_false_iff_ne.mpr (by omega)
set_option maxHeartbeats 8000000 in
set_option maxRecDepth 100000 in
theorem behGR (words s0 s1 s2 s3 s4 s5 s6 s7 g0 g1 g2 g3 g4 g5 g6 g7 t0 t1 t2 t3 ma mb sa na sb nb : Int) (both : Bool) (h0 h1 h2 h3 h4 : Value) (hand l0 l1 l2 l3 l4 l5 l6 l7 : Int) (v : Value) (ks : List Int) (a : Nat) (w : World) (hv : StkR w v ks) (hl : ks.length ≤ 32) (op : Nat) (ar : Int) (hop : op < 69) (hsp : tabS op = false) :
  Calls Try.prog 30 #[.agg #[.int .i64 words, .int .i64 s0, .int .i64 s1, .int .i64 s2, .int .i64 s3, .int .i64 s4, .int .i64 s5, .int .i64 s6, .int .i64 s7, .int .i64 g0, .int .i64 g1, .int .i64 g2, .int .i64 g3, .int .i64 g4, .int .i64 g5, .int .i64 g6, .int .i64 g7, .int .i64 t0, .int .i64 t1, .int .i64 t2, .int .i64 t3, .int .i64 ma, .int .i64 mb, .int .i64 sa, .int .i64 na, .int .i64 sb, .int .i64 nb, .bool both, h0, h1, h2, h3, h4], .int .i64 hand, .agg #[.int .i64 (op : Int), .int .i64 ar], v, .agg #[.int .i64 l0, .int .i64 l1, .int .i64 l2, .int .i64 l3, .int .i64 l4, .int .i64 l5, .int .i64 l6, .int .i64 l7]] w fun e w' => (afterP (resP hand ma mb) [s0, s1, s2, s3, s4, s5, s6, s7] [g0, g1, g2, g3, g4, g5, g6, g7] [t0, t1, t2, t3] (kindsOf (tabP op)) (kindsOf (tabQ op)) (tabS op) op a ks [l0, l1, l2, l3, l4, l5, l6, l7] = none ∧ ∃ (v' : Value) (n0 n1 n2 n3 n4 n5 n6 n7 : Int), e = .returned (.tuple #[v', .agg #[.int .i64 n0, .int .i64 n1, .int .i64 n2, .int .i64 n3, .int .i64 n4, .int .i64 n5, .int .i64 n6, .int .i64 n7], .bool false]) ∧ Below w.heap.size w w') ∨ ∃ s' lo' v', afterP (resP hand ma mb) [s0, s1, s2, s3, s4, s5, s6, s7] [g0, g1, g2, g3, g4, g5, g6, g7] [t0, t1, t2, t3] (kindsOf (tabP op)) (kindsOf (tabQ op)) (tabS op) op a ks [l0, l1, l2, l3, l4, l5, l6, l7] = some (s', lo') ∧ e = .returned (.tuple #[v', .agg (nums .i64 lo').toArray, .bool true]) ∧ StkR w' v' s' ∧ Below w.heap.size w w' := by
 have n0_ := blk_alloc (blk_alloc (blk_alloc (heap_alloc_new w (.cells #[.int .i64 words, .int .i64 s0, .int .i64 s1, .int .i64 s2, .int .i64 s3, .int .i64 s4, .int .i64 s5, .int .i64 s6, .int .i64 s7, .int .i64 g0, .int .i64 g1, .int .i64 g2, .int .i64 g3, .int .i64 g4, .int .i64 g5, .int .i64 g6, .int .i64 g7, .int .i64 t0, .int .i64 t1, .int .i64 t2, .int .i64 t3, .int .i64 ma, .int .i64 mb, .int .i64 sa, .int .i64 na, .int .i64 sb, .int .i64 nb, .bool both, h0, h1, h2, h3, h4] 31)) (.cells #[.int .i64 (op : Int), .int .i64 ar] 42)) (.cells #[.int .i64 l0, .int .i64 l1, .int .i64 l2, .int .i64 l3, .int .i64 l4, .int .i64 l5, .int .i64 l6, .int .i64 l7] 23)) (.cells #[.int .i64 0, .int .i64 0, .int .i64 0, .int .i64 0, .int .i64 0, .int .i64 0, .int .i64 0, .int .i64 0] 23)
 have n1_ := blk_alloc (blk_alloc (heap_alloc_new (w.alloc (.cells #[.int .i64 words, .int .i64 s0, .int .i64 s1, .int .i64 s2, .int .i64 s3, .int .i64 s4, .int .i64 s5, .int .i64 s6, .int .i64 s7, .int .i64 g0, .int .i64 g1, .int .i64 g2, .int .i64 g3, .int .i64 g4, .int .i64 g5, .int .i64 g6, .int .i64 g7, .int .i64 t0, .int .i64 t1, .int .i64 t2, .int .i64 t3, .int .i64 ma, .int .i64 mb, .int .i64 sa, .int .i64 na, .int .i64 sb, .int .i64 nb, .bool both, h0, h1, h2, h3, h4] 31)) (.cells #[.int .i64 (op : Int), .int .i64 ar] 42)) (.cells #[.int .i64 l0, .int .i64 l1, .int .i64 l2, .int .i64 l3, .int .i64 l4, .int .i64 l5, .int .i64 l6, .int .i64 l7] 23)) (.cells #[.int .i64 0, .int .i64 0, .int .i64 0, .int .i64 0, .int .i64 0, .int .i64 0, .int .i64 0, .int .i64 0] 23)
 have n2_ := blk_alloc (heap_alloc_new ((w.alloc (.cells #[.int .i64 words, .int .i64 s0, .int .i64 s1, .int .i64 s2, .int .i64 s3, .int .i64 s4, .int .i64 s5, .int .i64 s6, .int .i64 s7, .int .i64 g0, .int .i64 g1, .int .i64 g2, .int .i64 g3, .int .i64 g4, .int .i64 g5, .int .i64 g6, .int .i64 g7, .int .i64 t0, .int .i64 t1, .int .i64 t2, .int .i64 t3, .int .i64 ma, .int .i64 mb, .int .i64 sa, .int .i64 na, .int .i64 sb, .int .i64 nb, .bool both, h0, h1, h2, h3, h4] 31)).alloc (.cells #[.int .i64 (op : Int), .int .i64 ar] 42)) (.cells #[.int .i64 l0, .int .i64 l1, .int .i64 l2, .int .i64 l3, .int .i64 l4, .int .i64 l5, .int .i64 l6, .int .i64 l7] 23)) (.cells #[.int .i64 0, .int .i64 0, .int .i64 0, .int .i64 0, .int .i64 0, .int .i64 0, .int .i64 0, .int .i64 0] 23)
 have n3_ := heap_alloc_new (((w.alloc (.cells #[.int .i64 words, .int .i64 s0, .int .i64 s1, .int .i64 s2, .int .i64 s3, .int .i64 s4, .int .i64 s5, .int .i64 s6, .int .i64 s7, .int .i64 g0, .int .i64 g1, .int .i64 g2, .int .i64 g3, .int .i64 g4, .int .i64 g5, .int .i64 g6, .int .i64 g7, .int .i64 t0, .int .i64 t1, .int .i64 t2, .int .i64 t3, .int .i64 ma, .int .i64 mb, .int .i64 sa, .int .i64 na, .int .i64 sb, .int .i64 nb, .bool both, h0, h1, h2, h3, h4] 31)).alloc (.cells #[.int .i64 (op : Int), .int .i64 ar] 42)).alloc (.cells #[.int .i64 l0, .int .i64 l1, .int .i64 l2, .int .i64 l3, .int .i64 l4, .int .i64 l5, .int .i64 l6, .int .i64 l7] 23)) (.cells #[.int .i64 0, .int .i64 0, .int .i64 0, .int .i64 0, .int .i64 0, .int .i64 0, .int .i64 0, .int .i64 0] 23)
 simp only [World.size_alloc] at n1_ n2_ n3_
 have n4_ := below_alloc (below_alloc (below_alloc (below_alloc (Below.refl w.heap.size w) (.cells #[.int .i64 words, .int .i64 s0, .int .i64 s1, .int .i64 s2, .int .i64 s3, .int .i64 s4, .int .i64 s5, .int .i64 s6, .int .i64 s7, .int .i64 g0, .int .i64 g1, .int .i64 g2, .int .i64 g3, .int .i64 g4, .int .i64 g5, .int .i64 g6, .int .i64 g7, .int .i64 t0, .int .i64 t1, .int .i64 t2, .int .i64 t3, .int .i64 ma, .int .i64 mb, .int .i64 sa, .int .i64 na, .int .i64 sb, .int .i64 nb, .bool both, h0, h1, h2, h3, h4] 31)) (.cells #[.int .i64 (op : Int), .int .i64 ar] 42)) (.cells #[.int .i64 l0, .int .i64 l1, .int .i64 l2, .int .i64 l3, .int .i64 l4, .int .i64 l5, .int .i64 l6, .int .i64 l7] 23)) (.cells #[.int .i64 0, .int .i64 0, .int .i64 0, .int .i64 0, .int .i64 0, .int .i64 0, .int .i64 0, .int .i64 0] 23)
 have HVR := Aside0.mk (hv.below n4_)
 have n5_ := Nat.le_of_eq (World.size_alloc (((w.alloc (.cells #[.int .i64 words, .int .i64 s0, .int .i64 s1, .int .i64 s2, .int .i64 s3, .int .i64 s4, .int .i64 s5, .int .i64 s6, .int .i64 s7, .int .i64 g0, .int .i64 g1, .int .i64 g2, .int .i64 g3, .int .i64 g4, .int .i64 g5, .int .i64 g6, .int .i64 g7, .int .i64 t0, .int .i64 t1, .int .i64 t2, .int .i64 t3, .int .i64 ma, .int .i64 mb, .int .i64 sa, .int .i64 na, .int .i64 sb, .int .i64 nb, .bool both, h0, h1, h2, h3, h4] 31)).alloc (.cells #[.int .i64 (op : Int), .int .i64 ar] 42)).alloc (.cells #[.int .i64 l0, .int .i64 l1, .int .i64 l2, .int .i64 l3, .int .i64 l4, .int .i64 l5, .int .i64 l6, .int .i64 l7] 23)) (.cells #[.int .i64 0, .int .i64 0, .int .i64 0, .int .i64 0, .int .i64 0, .int .i64 0, .int .i64 0, .int .i64 0] 23)).symm
 simp only [World.size_alloc] at n5_
 have HD := Aside0.mk (show DQ w ((((w.alloc (.cells #[.int .i64 words, .int .i64 s0, .int .i64 s1, .int .i64 s2, .int .i64 s3, .int .i64 s4, .int .i64 s5, .int .i64 s6, .int .i64 s7, .int .i64 g0, .int .i64 g1, .int .i64 g2, .int .i64 g3, .int .i64 g4, .int .i64 g5, .int .i64 g6, .int .i64 g7, .int .i64 t0, .int .i64 t1, .int .i64 t2, .int .i64 t3, .int .i64 ma, .int .i64 mb, .int .i64 sa, .int .i64 na, .int .i64 sb, .int .i64 nb, .bool both, h0, h1, h2, h3, h4] 31)).alloc (.cells #[.int .i64 (op : Int), .int .i64 ar] 42)).alloc (.cells #[.int .i64 l0, .int .i64 l1, .int .i64 l2, .int .i64 l3, .int .i64 l4, .int .i64 l5, .int .i64 l6, .int .i64 l7] 23)).alloc (.cells #[.int .i64 0, .int .i64 0, .int .i64 0, .int .i64 0, .int .i64 0, .int .i64 0, .int .i64 0, .int .i64 0] 23)).heap.size words s0 s1 s2 s3 s4 s5 s6 s7 g0 g1 g2 g3 g4 g5 g6 g7 t0 t1 t2 t3 ma mb sa na sb nb both h0 h1 h2 h3 h4 (op : Int) ar l0 l1 l2 l3 l4 l5 l6 l7 ((((w.alloc (.cells #[.int .i64 words, .int .i64 s0, .int .i64 s1, .int .i64 s2, .int .i64 s3, .int .i64 s4, .int .i64 s5, .int .i64 s6, .int .i64 s7, .int .i64 g0, .int .i64 g1, .int .i64 g2, .int .i64 g3, .int .i64 g4, .int .i64 g5, .int .i64 g6, .int .i64 g7, .int .i64 t0, .int .i64 t1, .int .i64 t2, .int .i64 t3, .int .i64 ma, .int .i64 mb, .int .i64 sa, .int .i64 na, .int .i64 sb, .int .i64 nb, .bool both, h0, h1, h2, h3, h4] 31)).alloc (.cells #[.int .i64 (op : Int), .int .i64 ar] 42)).alloc (.cells #[.int .i64 l0, .int .i64 l1, .int .i64 l2, .int .i64 l3, .int .i64 l4, .int .i64 l5, .int .i64 l6, .int .i64 l7] 23)).alloc (.cells #[.int .i64 0, .int .i64 0, .int .i64 0, .int .i64 0, .int .i64 0, .int .i64 0, .int .i64 0, .int .i64 0] 23)) from ⟨n0_, n1_, n2_, n3_, n4_, Nat.le_refl _, by simp only [World.size_alloc]; omega⟩)
 have HL := Aside0.mk hl
 obtain ⟨Av, cv, hvv, _⟩ := hv.slice
 subst hvv
 clear hv n0_ n1_ n2_ n3_ n4_ n5_
 have HTP := Aside0.mk (table_ok op hop).2.2.2.1
 have HTQ := Aside0.mk (table_ok op hop).2.2.2.2
 have HNS := Aside0.mk (not_special hop hsp)
 have hp4 := (tab_small op hop).1
 have hq4 := (tab_small op hop).2
 have n0_ : afterP (resP hand ma mb) [s0, s1, s2, s3, s4, s5, s6, s7] [g0, g1, g2, g3, g4, g5, g6, g7] [t0, t1, t2, t3] (kindsOf (tabP op)) (kindsOf (tabQ op)) (tabS op) op a ks [l0, l1, l2, l3, l4, l5, l6, l7] = afterP (resP hand ma mb) [s0, s1, s2, s3, s4, s5, s6, s7] [g0, g1, g2, g3, g4, g5, g6, g7] [t0, t1, t2, t3] (kindsOf (tabP op)) (kindsOf (tabQ op)) false op a ks [l0, l1, l2, l3, l4, l5, l6, l7] := by rw [hsp]
 have HAF := Aside0.mk (n0_.trans (after_gen HL.out))
 clear n0_
 generalize hp_ : tabP op = p at *
 generalize hq_ : tabQ op = q at *
 generalize hs_ : tabS op = sp at *
 clear hp_ hq_ hs_ hop hsp
 go_enter Try.func30, Try.ntmps30
 go_upto_region 2 with (fail)
 generalize ((((w.alloc (.cells #[.int .i64 words, .int .i64 s0, .int .i64 s1, .int .i64 s2, .int .i64 s3, .int .i64 s4, .int .i64 s5, .int .i64 s6, .int .i64 s7, .int .i64 g0, .int .i64 g1, .int .i64 g2, .int .i64 g3, .int .i64 g4, .int .i64 g5, .int .i64 g6, .int .i64 g7, .int .i64 t0, .int .i64 t1, .int .i64 t2, .int .i64 t3, .int .i64 ma, .int .i64 mb, .int .i64 sa, .int .i64 na, .int .i64 sb, .int .i64 nb, .bool both, h0, h1, h2, h3, h4] 31)).alloc (.cells #[.int .i64 (op : Int), .int .i64 ar] 42)).alloc (.cells #[.int .i64 l0, .int .i64 l1, .int .i64 l2, .int .i64 l3, .int .i64 l4, .int .i64 l5, .int .i64 l6, .int .i64 l7] 23)).alloc (.cells #[.int .i64 0, .int .i64 0, .int .i64 0, .int .i64 0, .int .i64 0, .int .i64 0, .int .i64 0, .int .i64 0] 23)) = w4 at HD HVR ⊢
 have HO : Aside0 (w4.ownsRow w4.heap.size 22 1 (.slice none 0 0) ([] : List Int).length (nums .i64 [])) := ⟨own_nil _ _ _ _⟩
 go_upto_region 4 with ((with_reducible refine gate_builtin (b := .append) (xs := #[.tmp 21, .tmp 22]) rfl ?_); at_builtin; refine stk_concat w4.heap.size rfl (.tmp 21) (.tmp 22) rfl _ _ [] ks rfl rfl HO.out HVR.out (Nat.le_refl _) (by simpa using Nat.le_trans HL.out (by decide)) ?_; intro v1 w5 hv1 hb1; rw [List.nil_append] at hv1; obtain ⟨A1, c1, hv2, hlc1⟩ := hv1.read.slice; subst hv2; have HV := Aside0.mk hv1; have HB5 := Aside0.mk hb1; clear hv1 hb1)
 have HD := Aside0.mk (HD.out.step HB5.out)
 clear HVR HO HB5
 have hx0 : _ = some (Value.int .i64 (op : Int)) := blk_cell HD.out.x 0
 have HPC := Aside0.mk (fun W => sluiceref11_pops.calls 100 (op : Int) p W HTP.out)
 have HQC := Aside0.mk (fun W => sluiceref11_pushes.calls 100 (op : Int) q W HTQ.out)
 go_upto_region 5 with (go_at_call 49; refine (HPC.out _).mono ?_; rintro e w6 ⟨rfl, ⟨nd, rfl⟩⟩)
 clear hx0 HPC
 have n0_ := Aside0.mk (HD.out.step (pw_below_drewN (Below.refl _ _) nd))
 have n1_ := Aside0.mk (HV.out.below (pw_below_drewN (Below.refl _ _) nd))
 clear HD HV
 have HD := n0_
 have HV := n1_
 clear n0_ n1_
 generalize w5.drewN nd = w6 at HD HV ⊢
 by_cases hpl : ks.length < p.size
 ·have d1 : decide ((p.size : Int) > (ks.length : Int)) = true := decide_eq_true (by omega)
  have d2 : decide ((ks.length : Int) < (p.size : Int)) = true := decide_eq_true (by omega)
  have d3 : decide (ks.length < p.size) = true := decide_eq_true hpl
  have HS2 := Aside0.mk (HAF.out.trans (if_neg (fun g => by omega)))
  clear HAF hpl
  have hl0_ : _ = some (Value.int .i64 l0) := blk_cell HD.out.lo 0
  have hr0_ : _ = some (Value.int .i64 0) := blk_cell HD.out.rb 0
  have hf0_ := blk_frozen HD.out.rb 0
  have hl1_ : _ = some (Value.int .i64 l1) := blk_cell HD.out.lo 1
  have hr1_ : _ = some (Value.int .i64 0) := blk_cell HD.out.rb 1
  have hf1_ := blk_frozen HD.out.rb 1
  have hl2_ : _ = some (Value.int .i64 l2) := blk_cell HD.out.lo 2
  have hr2_ : _ = some (Value.int .i64 0) := blk_cell HD.out.rb 2
  have hf2_ := blk_frozen HD.out.rb 2
  have hl3_ : _ = some (Value.int .i64 l3) := blk_cell HD.out.lo 3
  have hr3_ : _ = some (Value.int .i64 0) := blk_cell HD.out.rb 3
  have hf3_ := blk_frozen HD.out.rb 3
  have hl4_ : _ = some (Value.int .i64 l4) := blk_cell HD.out.lo 4
  have hr4_ : _ = some (Value.int .i64 0) := blk_cell HD.out.rb 4
  have hf4_ := blk_frozen HD.out.rb 4
  have hl5_ : _ = some (Value.int .i64 l5) := blk_cell HD.out.lo 5
  have hr5_ : _ = some (Value.int .i64 0) := blk_cell HD.out.rb 5
  have hf5_ := blk_frozen HD.out.rb 5
  have hl6_ : _ = some (Value.int .i64 l6) := blk_cell HD.out.lo 6
  have hr6_ : _ = some (Value.int .i64 0) := blk_cell HD.out.rb 6
  have hf6_ := blk_frozen HD.out.rb 6
  have hl7_ : _ = some (Value.int .i64 l7) := blk_cell HD.out.lo 7
  have hr7_ : _ = some (Value.int .i64 0) := blk_cell HD.out.rb 7
  have hf7_ := blk_frozen HD.out.rb 7
  go_wp2
  repeat (go_region; try go_wp2)
  obtain ⟨n3_, n4_, n5_⟩ := fill8 HD.out.rb l0 l1 l2 l3 l4 l5 l6 l7
  have n5_ := n5_ w HD.out.b (by omega)
  generalize ((((((((w6.setCell ⟨(w.heap.size + 1 + 1 + 1), 0, none⟩ (.int .i64 l0)).setCell ⟨(w.heap.size + 1 + 1 + 1), 1, none⟩ (.int .i64 l1)).setCell ⟨(w.heap.size + 1 + 1 + 1), 2, none⟩ (.int .i64 l2)).setCell ⟨(w.heap.size + 1 + 1 + 1), 3, none⟩ (.int .i64 l3)).setCell ⟨(w.heap.size + 1 + 1 + 1), 4, none⟩ (.int .i64 l4)).setCell ⟨(w.heap.size + 1 + 1 + 1), 5, none⟩ (.int .i64 l5)).setCell ⟨(w.heap.size + 1 + 1 + 1), 6, none⟩ (.int .i64 l6)).setCell ⟨(w.heap.size + 1 + 1 + 1), 7, none⟩ (.int .i64 l7)) = w9 at n3_ n4_ n5_ ⊢
  have hc0_ : w9.drew.cell? ⟨(w.heap.size + 1 + 1 + 1), 0, none⟩ = some (.int .i64 l0) := blk_cell n3_ 0
  have hc1_ : w9.drew.cell? ⟨(w.heap.size + 1 + 1 + 1), 1, none⟩ = some (.int .i64 l1) := blk_cell n3_ 1
  have hc2_ : w9.drew.cell? ⟨(w.heap.size + 1 + 1 + 1), 2, none⟩ = some (.int .i64 l2) := blk_cell n3_ 2
  have hc3_ : w9.drew.cell? ⟨(w.heap.size + 1 + 1 + 1), 3, none⟩ = some (.int .i64 l3) := blk_cell n3_ 3
  have hc4_ : w9.drew.cell? ⟨(w.heap.size + 1 + 1 + 1), 4, none⟩ = some (.int .i64 l4) := blk_cell n3_ 4
  have hc5_ : w9.drew.cell? ⟨(w.heap.size + 1 + 1 + 1), 5, none⟩ = some (.int .i64 l5) := blk_cell n3_ 5
  have hc6_ : w9.drew.cell? ⟨(w.heap.size + 1 + 1 + 1), 6, none⟩ = some (.int .i64 l6) := blk_cell n3_ 6
  have hc7_ : w9.drew.cell? ⟨(w.heap.size + 1 + 1 + 1), 7, none⟩ = some (.int .i64 l7) := blk_cell n3_ 7
  refine bodyPost_ret (v := .tuple #[.slice none 0 0, .agg #[.int .i64 l0, .int .i64 l1, .int .i64 l2, .int .i64 l3, .int .i64 l4, .int .i64 l5, .int .i64 l6, .int .i64 l7], .bool false]) (by simp [results, Try.results30, go_sem, hc0_, hc1_, hc2_, hc3_, hc4_, hc5_, hc6_, hc7_]) rfl ?_
  exact .inl ⟨HS2.out, _, _, _, _, _, _, _, _, _, rfl, pw_below_drewN n5_ 1⟩
 have d1 : decide ((p.size : Int) > (ks.length : Int)) = false := decide_eq_false (by omega)
 have d2 : decide ((ks.length : Int) < (p.size : Int)) = false := decide_eq_false (by omega)
 have d3 : decide (ks.length < p.size) = false := decide_eq_false hpl
 have HPL := Aside0.mk (show p.size ≤ ks.length by omega)
 clear hpl
 go_wp2
 clear d1 d2 d3
 go_loopg [16] p.size (fun kq v16 w' => ∃ j : Nat, v16 = .int .i64 (j : Int) ∧ Aside0 (kq + j = p.size) ∧ Aside0 (∀ (i : Nat) (hi : i < p.size), i < j → ks.getD (ks.length - p.size + i) 0 = kindOf1 p[i]) ∧ Aside0 (DQ w w4.heap.size words s0 s1 s2 s3 s4 s5 s6 s7 g0 g1 g2 g3 g4 g5 g6 g7 t0 t1 t2 t3 ma mb sa na sb nb both h0 h1 h2 h3 h4 (op : Int) ar l0 l1 l2 l3 l4 l5 l6 l7 w') ∧ Aside0 (StkV w4.heap.size w' (.slice A1 ks.length c1) ks))
 case atStart => exact ⟨0, rfl, ⟨rfl⟩, ⟨fun i _ h => absurd h (Nat.not_lt_zero _)⟩, HD, HV⟩
 case round =>
  clear HD HV
  obtain ⟨j, rfl, HJ, HEQ, HD, HV⟩ := hrel
  by_cases hjp : j < p.size
  ·have d1 : decide ((j : Int) < (p.size : Int)) = true := decide_eq_true (by omega)
   have d2 : decide (j < p.size) = true := decide_eq_true hjp
   have HJP := Aside0.mk hjp
   have hix := fun W => index9 p W j HJP.out
   have hpl := HPL.out
   obtain ⟨q_, hqA, hqN, hqc, hqs⟩ := HV.out.cell (ks.length - p.size + j) (by omega)
   subst hqA
   have q1 : 0 ≤ (ks.length : Int) - (p.size : Int) + (j : Int) ∧ (ks.length : Int) - (p.size : Int) + (j : Int) < (ks.length : Int) := by omega
   have hto : ((ks.length : Int) - (p.size : Int) + (j : Int)).toNat = ks.length - p.size + j := by omega
   obtain ⟨x, hx⟩ : ∃ x, x = ks.getD (ks.length - p.size + j) 0 := ⟨_, rfl⟩
   rw [← hx] at hqc
   have HXX := Aside0.mk hx
   obtain ⟨b, hb⟩ : ∃ b, b = p[j] := ⟨_, rfl⟩
   rw [← hb] at hix
   have HBB := Aside0.mk hb
   have HKV := Aside0.mk (letter_val b)
   obtain ⟨kb, hkb⟩ : ∃ x, x = kindOf1 b := ⟨_, rfl⟩
   rw [← hkb] at HKV
   have HKB := Aside0.mk hkb
   have hw1 : IntKind.i64.wrap ((ks.length : Int) - (p.size : Int)) = (ks.length : Int) - (p.size : Int) := by rw [IntKind.wrap_i64]; omega
   have hw2 : IntKind.i64.wrap ((ks.length : Int) - (p.size : Int) + (j : Int)) = (ks.length : Int) - (p.size : Int) + (j : Int) := by rw [IntKind.wrap_i64]; omega
   have HWR := Aside0.mk (show wrap64 ((j : Int) + 1) = ((j + 1 : Nat) : Int) by unfold wrap64; omega)
   clear hx hb hkb hqs hqN hpl
   obtain ⟨k1_, rfl⟩ : ∃ k1_, gk = k1_ + 1 := ⟨gk - 1, by have := HJ.out; have := HJP.out; omega⟩
   go_upto_region 10 with (fail)
   go_quiet ((go_at_call 50; refine Calls.quiet_of (v := .int .i64 kb) ((sluiceref11_letter.calls _ _ _ HKV.out).mono ?_); rintro e w9 ⟨rfl, ⟨nd9, rfl⟩⟩; exact ⟨rfl, nd9, rfl⟩))
   have n0_ := Aside0.mk (HD.out.step (pw_below_drewN (Below.refl _ _) nq))
   have n1_ := Aside0.mk (HV.out.below (pw_below_drewN (Below.refl _ _) nq))
   clear HD HV
   have HD := n0_
   have HV := n1_
   clear n0_ n1_
   clear hqc
   generalize wr.drewN nq = wq at HD HV ⊢
   by_cases hxk : x = kb
   ·have d5 : (x != kb) = false := bne_eq_false_iff_eq.mpr hxk
    have HXK := Aside0.mk hxk
    clear hxk
    go_wp2
    go_roundg k1_
    case measure => omega
    case rel =>
     refine ⟨j + 1, (by first | rfl | (rw [HWR.out])), ⟨by have := HJ.out; omega⟩, ⟨fun i hi hij => ?_⟩, HD, HV⟩
     by_cases e : i < j
     ·exact HEQ.out i hi e
     have e : i = j := by omega
     subst e
     rw [← HXX.out, HXK.out, HKB.out, HBB.out]
   have d5 : (x != kb) = true := bne_iff_ne.mpr hxk
   have HS2 := Aside0.mk (HAF.out.trans (if_neg (fun g => drop_ne j HPL.out HJP.out (by rw [← HXX.out, ← HBB.out, ← HKB.out]; exact hxk) g.2)))
   clear HAF hxk
   have hl0_ : _ = some (Value.int .i64 l0) := blk_cell HD.out.lo 0
   have hr0_ : _ = some (Value.int .i64 0) := blk_cell HD.out.rb 0
   have hf0_ := blk_frozen HD.out.rb 0
   have hl1_ : _ = some (Value.int .i64 l1) := blk_cell HD.out.lo 1
   have hr1_ : _ = some (Value.int .i64 0) := blk_cell HD.out.rb 1
   have hf1_ := blk_frozen HD.out.rb 1
   have hl2_ : _ = some (Value.int .i64 l2) := blk_cell HD.out.lo 2
   have hr2_ : _ = some (Value.int .i64 0) := blk_cell HD.out.rb 2
   have hf2_ := blk_frozen HD.out.rb 2
   have hl3_ : _ = some (Value.int .i64 l3) := blk_cell HD.out.lo 3
   have hr3_ : _ = some (Value.int .i64 0) := blk_cell HD.out.rb 3
   have hf3_ := blk_frozen HD.out.rb 3
   have hl4_ : _ = some (Value.int .i64 l4) := blk_cell HD.out.lo 4
   have hr4_ : _ = some (Value.int .i64 0) := blk_cell HD.out.rb 4
   have hf4_ := blk_frozen HD.out.rb 4
   have hl5_ : _ = some (Value.int .i64 l5) := blk_cell HD.out.lo 5
   have hr5_ : _ = some (Value.int .i64 0) := blk_cell HD.out.rb 5
   have hf5_ := blk_frozen HD.out.rb 5
   have hl6_ : _ = some (Value.int .i64 l6) := blk_cell HD.out.lo 6
   have hr6_ : _ = some (Value.int .i64 0) := blk_cell HD.out.rb 6
   have hf6_ := blk_frozen HD.out.rb 6
   have hl7_ : _ = some (Value.int .i64 l7) := blk_cell HD.out.lo 7
   have hr7_ : _ = some (Value.int .i64 0) := blk_cell HD.out.rb 7
   have hf7_ := blk_frozen HD.out.rb 7
   go_wp2
   repeat (go_region; try go_wp2)
   obtain ⟨n3_, n4_, n5_⟩ := fill8 HD.out.rb l0 l1 l2 l3 l4 l5 l6 l7
   have n5_ := n5_ w HD.out.b (by omega)
   generalize ((((((((wq.setCell ⟨(w.heap.size + 1 + 1 + 1), 0, none⟩ (.int .i64 l0)).setCell ⟨(w.heap.size + 1 + 1 + 1), 1, none⟩ (.int .i64 l1)).setCell ⟨(w.heap.size + 1 + 1 + 1), 2, none⟩ (.int .i64 l2)).setCell ⟨(w.heap.size + 1 + 1 + 1), 3, none⟩ (.int .i64 l3)).setCell ⟨(w.heap.size + 1 + 1 + 1), 4, none⟩ (.int .i64 l4)).setCell ⟨(w.heap.size + 1 + 1 + 1), 5, none⟩ (.int .i64 l5)).setCell ⟨(w.heap.size + 1 + 1 + 1), 6, none⟩ (.int .i64 l6)).setCell ⟨(w.heap.size + 1 + 1 + 1), 7, none⟩ (.int .i64 l7)) = w9 at n3_ n4_ n5_ ⊢
   have hc0_ : w9.drew.cell? ⟨(w.heap.size + 1 + 1 + 1), 0, none⟩ = some (.int .i64 l0) := blk_cell n3_ 0
   have hc1_ : w9.drew.cell? ⟨(w.heap.size + 1 + 1 + 1), 1, none⟩ = some (.int .i64 l1) := blk_cell n3_ 1
   have hc2_ : w9.drew.cell? ⟨(w.heap.size + 1 + 1 + 1), 2, none⟩ = some (.int .i64 l2) := blk_cell n3_ 2
   have hc3_ : w9.drew.cell? ⟨(w.heap.size + 1 + 1 + 1), 3, none⟩ = some (.int .i64 l3) := blk_cell n3_ 3
   have hc4_ : w9.drew.cell? ⟨(w.heap.size + 1 + 1 + 1), 4, none⟩ = some (.int .i64 l4) := blk_cell n3_ 4
   have hc5_ : w9.drew.cell? ⟨(w.heap.size + 1 + 1 + 1), 5, none⟩ = some (.int .i64 l5) := blk_cell n3_ 5
   have hc6_ : w9.drew.cell? ⟨(w.heap.size + 1 + 1 + 1), 6, none⟩ = some (.int .i64 l6) := blk_cell n3_ 6
   have hc7_ : w9.drew.cell? ⟨(w.heap.size + 1 + 1 + 1), 7, none⟩ = some (.int .i64 l7) := blk_cell n3_ 7
   refine bodyPost_ret (v := .tuple #[.slice none 0 0, .agg #[.int .i64 l0, .int .i64 l1, .int .i64 l2, .int .i64 l3, .int .i64 l4, .int .i64 l5, .int .i64 l6, .int .i64 l7], .bool false]) (by simp [results, Try.results30, go_sem, hc0_, hc1_, hc2_, hc3_, hc4_, hc5_, hc6_, hc7_]) rfl ?_
   exact .inl ⟨HS2.out, _, _, _, _, _, _, _, _, _, rfl, pw_below_drewN n5_ 1⟩
  have d1 : decide ((j : Int) < (p.size : Int)) = false := decide_eq_false (by omega)
  have d2 : decide (j < p.size) = false := decide_eq_false hjp
  have HS2 := Aside0.mk (HAF.out.trans (if_pos ⟨HPL.out, drop_kinds HPL.out (fun i hi => HEQ.out i hi (by omega))⟩))
  have HT := Aside0.mk (HV.out.take (ks.length - p.size) (by omega))
  obtain ⟨z, hz⟩ : ∃ z, z = ks.take (ks.length - p.size) := ⟨_, rfl⟩
  have hzl : ks.length - p.size = z.length := by rw [hz, List.length_take]; omega
  rw [← hz] at HS2 HT
  rw [hzl] at HT
  have hpl := HPL.out
  have q2 : ¬ (ks.length : Int) - (p.size : Int) < 0 := by omega
  have q3 : ¬ (c1 : Int) < (ks.length : Int) - (p.size : Int) := by omega
  have q4 : 0 ≤ (ks.length : Int) - (p.size : Int) := by omega
  have q5 : (ks.length : Int) - (p.size : Int) ≤ (c1 : Int) := by omega
  have hto : ((ks.length : Int) - (p.size : Int)).toNat = ks.length - p.size := by omega
  have HZL := Aside0.mk hzl
  have HZZ := Aside0.mk (show z.length ≤ 32 by have := HL.out; omega)
  have hx0 : _ = some (Value.int .i64 (op : Int)) := blk_cell HD.out.x 0
  clear HAF hz HV HEQ hjp hzl
  have nd0_ := HNS.out.1; have nd4_ := HNS.out.2.1; have nd5_ := HNS.out.2.2.1; have nd6_ := HNS.out.2.2.2.1; have nd7_ := HNS.out.2.2.2.2.1; have nd8_ := HNS.out.2.2.2.2.2.1; have nd9_ := HNS.out.2.2.2.2.2.2.1; have nd10_ := HNS.out.2.2.2.2.2.2.2.1; have nd11_ := HNS.out.2.2.2.2.2.2.2.2.1; have nd12_ := HNS.out.2.2.2.2.2.2.2.2.2.1; have nd13_ := HNS.out.2.2.2.2.2.2.2.2.2.2.1; have nd14_ := HNS.out.2.2.2.2.2.2.2.2.2.2.2.1; have nd15_ := HNS.out.2.2.2.2.2.2.2.2.2.2.2.2
  go_upto_region 61 with (fail)
  rw [HZL.out]
  have HV := HT
  clear HT hpl q2 q3 q4 q5 hto d1 d2 nd0_ nd4_ nd5_ nd6_ nd7_ nd8_ nd9_ nd10_ nd11_ nd12_ nd13_ nd14_ nd15_
  go_upto_region 62 with (go_at_call 52; refine (HQC.out _).mono ?_; rintro e wq ⟨rfl, ⟨nq, rfl⟩⟩)
  have n0_ := Aside0.mk (HD.out.step (pw_below_drewN (Below.refl _ _) nq))
  have n1_ := Aside0.mk (HV.out.below (pw_below_drewN (Below.refl _ _) nq))
  clear HD HV
  have HD := n0_
  have HV := n1_
  clear n0_ n1_
  clear hx0 HQC
  generalize wr.drewN nq = wt at HD HV ⊢
  go_wp2
  go_loopg [13, 20] q.size (fun kq v13 v20 w' => ∃ (j : Nat) (s : List Int) (A : Option Addr) (c : Nat), v13 = .slice A s.length c ∧ v20 = .int .i64 (j : Int) ∧ Aside0 (kq + j = q.size) ∧ Aside0 (s = z ++ (kindsOf q).take j) ∧ Aside0 (DQ w w4.heap.size words s0 s1 s2 s3 s4 s5 s6 s7 g0 g1 g2 g3 g4 g5 g6 g7 t0 t1 t2 t3 ma mb sa na sb nb both h0 h1 h2 h3 h4 (op : Int) ar l0 l1 l2 l3 l4 l5 l6 l7 w') ∧ Aside0 (StkV w4.heap.size w' (.slice A s.length c) s))
  case atStart => exact ⟨0, z, A1, c1, rfl, rfl, ⟨rfl⟩, ⟨by simp⟩, HD, HV⟩
  case round =>
   clear HD HV HJ
   obtain ⟨j, s, A, c, rfl, rfl, HJ, HSE, HD, HV⟩ := hrel
   have HSL := Aside0.mk (show s.length ≤ 36 by
    rw [HSE.out, List.length_append, List.length_take, kinds_len]
    have := HZZ.out
    omega)
   by_cases hjq : j < q.size
   ·have d1 : decide ((j : Int) < (q.size : Int)) = true := decide_eq_true (by omega)
    have d2 : decide (j < q.size) = true := decide_eq_true hjq
    have HJQ := Aside0.mk hjq
    have hix := fun W => index9 q W j HJQ.out
    have HSN := Aside0.mk (kinds_snoc hjq)
    obtain ⟨b, hb⟩ : ∃ b, b = q[j] := ⟨_, rfl⟩
    rw [← hb] at hix HSN
    have HKV := Aside0.mk (letter_val b)
    obtain ⟨kb, hkb⟩ : ∃ x, x = kindOf1 b := ⟨_, rfl⟩
    rw [← hkb] at HKV HSN
    have HWR := Aside0.mk (show wrap64 ((j : Int) + 1) = ((j + 1 : Nat) : Int) by unfold wrap64; omega)
    clear hb hkb hjq
    obtain ⟨k1_, rfl⟩ : ∃ k1_, gk = k1_ + 1 := ⟨gk - 1, by have := HJ.out; have := HJQ.out; omega⟩
    go_wp2_with (first | (go_at_call 50; refine (sluiceref11_letter.calls _ _ _ HKV.out).mono ?_; rintro e w9 ⟨rfl, ⟨nd, rfl⟩⟩) | ((with_reducible refine gate_builtin (b := .append) (xs := #[.tmp 251, .tmp 256]) rfl ?_); at_builtin; refine stk_append w4.heap.size rfl (.tmp 251) (.tmp 256) rfl _ s kb rfl rfl (HV.out.below (pw_below_drewN (Below.refl _ _) _)) (Nat.le_trans HD.out.n (Nat.le_refl _)) (by have := HSL.out; omega) ?_; intro v1 wz hv1 hb1; obtain ⟨A2, c2, hv2, _⟩ := hv1.read.slice; subst hv2; have n0_ := Aside0.mk ((HD.out.step (pw_below_drewN (Below.refl _ _) _)).hold hb1); have n1_ := Aside0.mk hv1; clear HD HV hv1 hb1; have HD := n0_; have HV := n1_; clear n0_ n1_))
    go_roundg k1_
    case measure => omega
    case rel => exact ⟨j + 1, s ++ [kb], _, _, (by first | rfl | (simp only [List.length_append, List.length_singleton])), (by first | rfl | (rw [HWR.out])), ⟨by have := HJ.out; omega⟩, ⟨by rw [HSN.out, HSE.out, List.append_assoc]⟩, HD, HV⟩
   have d1 : decide ((j : Int) < (q.size : Int)) = false := decide_eq_false (by omega)
   have d2 : decide (j < q.size) = false := decide_eq_false hjq
   have HSE2 := Aside0.mk (show s = z ++ kindsOf q by rw [HSE.out, List.take_of_length_le (by rw [kinds_len]; omega)])
   have HS := HS2
   clear HS2 hjq
   rw [← HSE2.out] at HS
   have hl0_ : _ = some (Value.int .i64 l0) := blk_cell HD.out.lo 0
   have hr0_ : _ = some (Value.int .i64 0) := blk_cell HD.out.rb 0
   have hf0_ := blk_frozen HD.out.rb 0
   have hl1_ : _ = some (Value.int .i64 l1) := blk_cell HD.out.lo 1
   have hr1_ : _ = some (Value.int .i64 0) := blk_cell HD.out.rb 1
   have hf1_ := blk_frozen HD.out.rb 1
   have hl2_ : _ = some (Value.int .i64 l2) := blk_cell HD.out.lo 2
   have hr2_ : _ = some (Value.int .i64 0) := blk_cell HD.out.rb 2
   have hf2_ := blk_frozen HD.out.rb 2
   have hl3_ : _ = some (Value.int .i64 l3) := blk_cell HD.out.lo 3
   have hr3_ : _ = some (Value.int .i64 0) := blk_cell HD.out.rb 3
   have hf3_ := blk_frozen HD.out.rb 3
   have hl4_ : _ = some (Value.int .i64 l4) := blk_cell HD.out.lo 4
   have hr4_ : _ = some (Value.int .i64 0) := blk_cell HD.out.rb 4
   have hf4_ := blk_frozen HD.out.rb 4
   have hl5_ : _ = some (Value.int .i64 l5) := blk_cell HD.out.lo 5
   have hr5_ : _ = some (Value.int .i64 0) := blk_cell HD.out.rb 5
   have hf5_ := blk_frozen HD.out.rb 5
   have hl6_ : _ = some (Value.int .i64 l6) := blk_cell HD.out.lo 6
   have hr6_ : _ = some (Value.int .i64 0) := blk_cell HD.out.rb 6
   have hf6_ := blk_frozen HD.out.rb 6
   have hl7_ : _ = some (Value.int .i64 l7) := blk_cell HD.out.lo 7
   have hr7_ : _ = some (Value.int .i64 0) := blk_cell HD.out.rb 7
   have hf7_ := blk_frozen HD.out.rb 7
   by_cases hq : s.length ≤ 32
   ·have d9 : decide ((s.length : Int) ≤ 32) = true := decide_eq_true (by omega)
    have HS2 := Aside0.mk (HS.out.trans (if_pos hq))
    clear hq
    go_wp2
    repeat (go_region; try go_wp2)
    obtain ⟨n3_, n4_, n5_⟩ := fill8 HD.out.rb l0 l1 l2 l3 l4 l5 l6 l7
    have n5_ := n5_ w HD.out.b (by omega)
    generalize ((((((((wr.setCell ⟨(w.heap.size + 1 + 1 + 1), 0, none⟩ (.int .i64 l0)).setCell ⟨(w.heap.size + 1 + 1 + 1), 1, none⟩ (.int .i64 l1)).setCell ⟨(w.heap.size + 1 + 1 + 1), 2, none⟩ (.int .i64 l2)).setCell ⟨(w.heap.size + 1 + 1 + 1), 3, none⟩ (.int .i64 l3)).setCell ⟨(w.heap.size + 1 + 1 + 1), 4, none⟩ (.int .i64 l4)).setCell ⟨(w.heap.size + 1 + 1 + 1), 5, none⟩ (.int .i64 l5)).setCell ⟨(w.heap.size + 1 + 1 + 1), 6, none⟩ (.int .i64 l6)).setCell ⟨(w.heap.size + 1 + 1 + 1), 7, none⟩ (.int .i64 l7)) = w9 at n3_ n4_ n5_ ⊢
    have hc0_ : w9.drew.cell? ⟨(w.heap.size + 1 + 1 + 1), 0, none⟩ = some (.int .i64 l0) := blk_cell n3_ 0
    have hc1_ : w9.drew.cell? ⟨(w.heap.size + 1 + 1 + 1), 1, none⟩ = some (.int .i64 l1) := blk_cell n3_ 1
    have hc2_ : w9.drew.cell? ⟨(w.heap.size + 1 + 1 + 1), 2, none⟩ = some (.int .i64 l2) := blk_cell n3_ 2
    have hc3_ : w9.drew.cell? ⟨(w.heap.size + 1 + 1 + 1), 3, none⟩ = some (.int .i64 l3) := blk_cell n3_ 3
    have hc4_ : w9.drew.cell? ⟨(w.heap.size + 1 + 1 + 1), 4, none⟩ = some (.int .i64 l4) := blk_cell n3_ 4
    have hc5_ : w9.drew.cell? ⟨(w.heap.size + 1 + 1 + 1), 5, none⟩ = some (.int .i64 l5) := blk_cell n3_ 5
    have hc6_ : w9.drew.cell? ⟨(w.heap.size + 1 + 1 + 1), 6, none⟩ = some (.int .i64 l6) := blk_cell n3_ 6
    have hc7_ : w9.drew.cell? ⟨(w.heap.size + 1 + 1 + 1), 7, none⟩ = some (.int .i64 l7) := blk_cell n3_ 7
    refine bodyPost_ret (v := .tuple #[.slice A s.length c, .agg #[.int .i64 l0, .int .i64 l1, .int .i64 l2, .int .i64 l3, .int .i64 l4, .int .i64 l5, .int .i64 l6, .int .i64 l7], .bool true]) (by simp [results, Try.results30, go_sem, hc0_, hc1_, hc2_, hc3_, hc4_, hc5_, hc6_, hc7_]) rfl ?_
    exact .inr ⟨_, _, _, HS2.out, rfl, (n4_ _ _ HV.out.read).below (pw_below_drewN (Below.refl _ _) 1), pw_below_drewN n5_ 1⟩
   have d9 : decide ((s.length : Int) ≤ 32) = false := decide_eq_false (by omega)
   have HS2 := Aside0.mk (HS.out.trans (if_neg hq))
   clear hq
   go_wp2
   repeat (go_region; try go_wp2)
   obtain ⟨n3_, n4_, n5_⟩ := fill8 HD.out.rb l0 l1 l2 l3 l4 l5 l6 l7
   have n5_ := n5_ w HD.out.b (by omega)
   generalize ((((((((wr.setCell ⟨(w.heap.size + 1 + 1 + 1), 0, none⟩ (.int .i64 l0)).setCell ⟨(w.heap.size + 1 + 1 + 1), 1, none⟩ (.int .i64 l1)).setCell ⟨(w.heap.size + 1 + 1 + 1), 2, none⟩ (.int .i64 l2)).setCell ⟨(w.heap.size + 1 + 1 + 1), 3, none⟩ (.int .i64 l3)).setCell ⟨(w.heap.size + 1 + 1 + 1), 4, none⟩ (.int .i64 l4)).setCell ⟨(w.heap.size + 1 + 1 + 1), 5, none⟩ (.int .i64 l5)).setCell ⟨(w.heap.size + 1 + 1 + 1), 6, none⟩ (.int .i64 l6)).setCell ⟨(w.heap.size + 1 + 1 + 1), 7, none⟩ (.int .i64 l7)) = w9 at n3_ n4_ n5_ ⊢
   have hc0_ : w9.drew.cell? ⟨(w.heap.size + 1 + 1 + 1), 0, none⟩ = some (.int .i64 l0) := blk_cell n3_ 0
   have hc1_ : w9.drew.cell? ⟨(w.heap.size + 1 + 1 + 1), 1, none⟩ = some (.int .i64 l1) := blk_cell n3_ 1
   have hc2_ : w9.drew.cell? ⟨(w.heap.size + 1 + 1 + 1), 2, none⟩ = some (.int .i64 l2) := blk_cell n3_ 2
   have hc3_ : w9.drew.cell? ⟨(w.heap.size + 1 + 1 + 1), 3, none⟩ = some (.int .i64 l3) := blk_cell n3_ 3
   have hc4_ : w9.drew.cell? ⟨(w.heap.size + 1 + 1 + 1), 4, none⟩ = some (.int .i64 l4) := blk_cell n3_ 4
   have hc5_ : w9.drew.cell? ⟨(w.heap.size + 1 + 1 + 1), 5, none⟩ = some (.int .i64 l5) := blk_cell n3_ 5
   have hc6_ : w9.drew.cell? ⟨(w.heap.size + 1 + 1 + 1), 6, none⟩ = some (.int .i64 l6) := blk_cell n3_ 6
   have hc7_ : w9.drew.cell? ⟨(w.heap.size + 1 + 1 + 1), 7, none⟩ = some (.int .i64 l7) := blk_cell n3_ 7
   refine bodyPost_ret (v := .tuple #[.slice A s.length c, .agg #[.int .i64 l0, .int .i64 l1, .int .i64 l2, .int .i64 l3, .int .i64 l4, .int .i64 l5, .int .i64 l6, .int .i64 l7], .bool false]) (by simp [results, Try.results30, go_sem, hc0_, hc1_, hc2_, hc3_, hc4_, hc5_, hc6_, hc7_]) rfl ?_
   exact .inl ⟨HS2.out, _, _, _, _, _, _, _, _, _, rfl, pw_below_drewN n5_ 1⟩
end BehG
end Go.Proofs.Ytcpcpmojallcdaa.QLoomChecks
