/- LoomChecks: Beh7 Beh8. Conditions: as each theorem says. -/
import Derived.Test.YtcpcpmojallcdaaLcQ
import Derived.Test.YtcpcpmojallcdaaLcGM
namespace Go.Proofs.Ytcpcpmojallcdaa.QLoomChecks
open Go.RowKit Go.Proofs.YtcpcpmojallcdaaW.PrintWords Go.Proofs.YtcpcpmojallcdaaW.PrintLast Go.Proofs.YtcpcpmojallcdaaW.PrintMore
set_option linter.unusedVariables false
set_option linter.unusedSimpArgs false
section Beh7
set_option maxHeartbeats 8000000 in
set_option maxRecDepth 100000 in
theorem beh7R (words s0 s1 s2 s3 s4 s5 s6 s7 g0 g1 g2 g3 g4 g5 g6 g7 t0 t1 t2 t3 ma mb sa na sb nb : Int) (both : Bool) (h0 h1 h2 h3 h4 : Value) (hand l0 l1 l2 l3 l4 l5 l6 l7 : Int) (v : Value) (ks : List Int) (a : Nat) (w : World) (hv : StkR w v ks) (hl : ks.length ≤ 32) (ha : a < 32) :
  Calls Try.prog 30 #[.agg #[.int .i64 words, .int .i64 s0, .int .i64 s1, .int .i64 s2, .int .i64 s3, .int .i64 s4, .int .i64 s5, .int .i64 s6, .int .i64 s7, .int .i64 g0, .int .i64 g1, .int .i64 g2, .int .i64 g3, .int .i64 g4, .int .i64 g5, .int .i64 g6, .int .i64 g7, .int .i64 t0, .int .i64 t1, .int .i64 t2, .int .i64 t3, .int .i64 ma, .int .i64 mb, .int .i64 sa, .int .i64 na, .int .i64 sb, .int .i64 nb, .bool both, h0, h1, h2, h3, h4], .int .i64 hand, .agg #[.int .i64 7, .int .i64 (a : Int)], v, .agg #[.int .i64 l0, .int .i64 l1, .int .i64 l2, .int .i64 l3, .int .i64 l4, .int .i64 l5, .int .i64 l6, .int .i64 l7]] w fun e w' => (afterP (resP hand ma mb) [s0, s1, s2, s3, s4, s5, s6, s7] [g0, g1, g2, g3, g4, g5, g6, g7] [t0, t1, t2, t3] (kindsOf (tabP 7)) (kindsOf (tabQ 7)) (tabS 7) 7 a ks [l0, l1, l2, l3, l4, l5, l6, l7] = none ∧ ∃ (v' : Value) (n0 n1 n2 n3 n4 n5 n6 n7 : Int), e = .returned (.tuple #[v', .agg #[.int .i64 n0, .int .i64 n1, .int .i64 n2, .int .i64 n3, .int .i64 n4, .int .i64 n5, .int .i64 n6, .int .i64 n7], .bool false]) ∧ Below w.heap.size w w') ∨ ∃ s' lo' v', afterP (resP hand ma mb) [s0, s1, s2, s3, s4, s5, s6, s7] [g0, g1, g2, g3, g4, g5, g6, g7] [t0, t1, t2, t3] (kindsOf (tabP 7)) (kindsOf (tabQ 7)) (tabS 7) 7 a ks [l0, l1, l2, l3, l4, l5, l6, l7] = some (s', lo') ∧ e = .returned (.tuple #[v', .agg (nums .i64 lo').toArray, .bool true]) ∧ StkR w' v' s' ∧ Below w.heap.size w w' := by
 have n0_ := blk_alloc (blk_alloc (blk_alloc (heap_alloc_new w (.cells #[.int .i64 words, .int .i64 s0, .int .i64 s1, .int .i64 s2, .int .i64 s3, .int .i64 s4, .int .i64 s5, .int .i64 s6, .int .i64 s7, .int .i64 g0, .int .i64 g1, .int .i64 g2, .int .i64 g3, .int .i64 g4, .int .i64 g5, .int .i64 g6, .int .i64 g7, .int .i64 t0, .int .i64 t1, .int .i64 t2, .int .i64 t3, .int .i64 ma, .int .i64 mb, .int .i64 sa, .int .i64 na, .int .i64 sb, .int .i64 nb, .bool both, h0, h1, h2, h3, h4] 31)) (.cells #[.int .i64 7, .int .i64 (a : Int)] 42)) (.cells #[.int .i64 l0, .int .i64 l1, .int .i64 l2, .int .i64 l3, .int .i64 l4, .int .i64 l5, .int .i64 l6, .int .i64 l7] 23)) (.cells #[.int .i64 0, .int .i64 0, .int .i64 0, .int .i64 0, .int .i64 0, .int .i64 0, .int .i64 0, .int .i64 0] 23)
 have n1_ := blk_alloc (blk_alloc (heap_alloc_new (w.alloc (.cells #[.int .i64 words, .int .i64 s0, .int .i64 s1, .int .i64 s2, .int .i64 s3, .int .i64 s4, .int .i64 s5, .int .i64 s6, .int .i64 s7, .int .i64 g0, .int .i64 g1, .int .i64 g2, .int .i64 g3, .int .i64 g4, .int .i64 g5, .int .i64 g6, .int .i64 g7, .int .i64 t0, .int .i64 t1, .int .i64 t2, .int .i64 t3, .int .i64 ma, .int .i64 mb, .int .i64 sa, .int .i64 na, .int .i64 sb, .int .i64 nb, .bool both, h0, h1, h2, h3, h4] 31)) (.cells #[.int .i64 7, .int .i64 (a : Int)] 42)) (.cells #[.int .i64 l0, .int .i64 l1, .int .i64 l2, .int .i64 l3, .int .i64 l4, .int .i64 l5, .int .i64 l6, .int .i64 l7] 23)) (.cells #[.int .i64 0, .int .i64 0, .int .i64 0, .int .i64 0, .int .i64 0, .int .i64 0, .int .i64 0, .int .i64 0] 23)
 have n2_ := blk_alloc (heap_alloc_new ((w.alloc (.cells #[.int .i64 words, .int .i64 s0, .int .i64 s1, .int .i64 s2, .int .i64 s3, .int .i64 s4, .int .i64 s5, .int .i64 s6, .int .i64 s7, .int .i64 g0, .int .i64 g1, .int .i64 g2, .int .i64 g3, .int .i64 g4, .int .i64 g5, .int .i64 g6, .int .i64 g7, .int .i64 t0, .int .i64 t1, .int .i64 t2, .int .i64 t3, .int .i64 ma, .int .i64 mb, .int .i64 sa, .int .i64 na, .int .i64 sb, .int .i64 nb, .bool both, h0, h1, h2, h3, h4] 31)).alloc (.cells #[.int .i64 7, .int .i64 (a : Int)] 42)) (.cells #[.int .i64 l0, .int .i64 l1, .int .i64 l2, .int .i64 l3, .int .i64 l4, .int .i64 l5, .int .i64 l6, .int .i64 l7] 23)) (.cells #[.int .i64 0, .int .i64 0, .int .i64 0, .int .i64 0, .int .i64 0, .int .i64 0, .int .i64 0, .int .i64 0] 23)
 have n3_ := heap_alloc_new (((w.alloc (.cells #[.int .i64 words, .int .i64 s0, .int .i64 s1, .int .i64 s2, .int .i64 s3, .int .i64 s4, .int .i64 s5, .int .i64 s6, .int .i64 s7, .int .i64 g0, .int .i64 g1, .int .i64 g2, .int .i64 g3, .int .i64 g4, .int .i64 g5, .int .i64 g6, .int .i64 g7, .int .i64 t0, .int .i64 t1, .int .i64 t2, .int .i64 t3, .int .i64 ma, .int .i64 mb, .int .i64 sa, .int .i64 na, .int .i64 sb, .int .i64 nb, .bool both, h0, h1, h2, h3, h4] 31)).alloc (.cells #[.int .i64 7, .int .i64 (a : Int)] 42)).alloc (.cells #[.int .i64 l0, .int .i64 l1, .int .i64 l2, .int .i64 l3, .int .i64 l4, .int .i64 l5, .int .i64 l6, .int .i64 l7] 23)) (.cells #[.int .i64 0, .int .i64 0, .int .i64 0, .int .i64 0, .int .i64 0, .int .i64 0, .int .i64 0, .int .i64 0] 23)
 simp only [World.size_alloc] at n1_ n2_ n3_
 have n4_ := below_alloc (below_alloc (below_alloc (below_alloc (Below.refl w.heap.size w) (.cells #[.int .i64 words, .int .i64 s0, .int .i64 s1, .int .i64 s2, .int .i64 s3, .int .i64 s4, .int .i64 s5, .int .i64 s6, .int .i64 s7, .int .i64 g0, .int .i64 g1, .int .i64 g2, .int .i64 g3, .int .i64 g4, .int .i64 g5, .int .i64 g6, .int .i64 g7, .int .i64 t0, .int .i64 t1, .int .i64 t2, .int .i64 t3, .int .i64 ma, .int .i64 mb, .int .i64 sa, .int .i64 na, .int .i64 sb, .int .i64 nb, .bool both, h0, h1, h2, h3, h4] 31)) (.cells #[.int .i64 7, .int .i64 (a : Int)] 42)) (.cells #[.int .i64 l0, .int .i64 l1, .int .i64 l2, .int .i64 l3, .int .i64 l4, .int .i64 l5, .int .i64 l6, .int .i64 l7] 23)) (.cells #[.int .i64 0, .int .i64 0, .int .i64 0, .int .i64 0, .int .i64 0, .int .i64 0, .int .i64 0, .int .i64 0] 23)
 have HVR := Aside0.mk (hv.below n4_)
 have n5_ := Nat.le_of_eq (World.size_alloc (((w.alloc (.cells #[.int .i64 words, .int .i64 s0, .int .i64 s1, .int .i64 s2, .int .i64 s3, .int .i64 s4, .int .i64 s5, .int .i64 s6, .int .i64 s7, .int .i64 g0, .int .i64 g1, .int .i64 g2, .int .i64 g3, .int .i64 g4, .int .i64 g5, .int .i64 g6, .int .i64 g7, .int .i64 t0, .int .i64 t1, .int .i64 t2, .int .i64 t3, .int .i64 ma, .int .i64 mb, .int .i64 sa, .int .i64 na, .int .i64 sb, .int .i64 nb, .bool both, h0, h1, h2, h3, h4] 31)).alloc (.cells #[.int .i64 7, .int .i64 (a : Int)] 42)).alloc (.cells #[.int .i64 l0, .int .i64 l1, .int .i64 l2, .int .i64 l3, .int .i64 l4, .int .i64 l5, .int .i64 l6, .int .i64 l7] 23)) (.cells #[.int .i64 0, .int .i64 0, .int .i64 0, .int .i64 0, .int .i64 0, .int .i64 0, .int .i64 0, .int .i64 0] 23)).symm
 simp only [World.size_alloc] at n5_
 have HD := Aside0.mk (show DQ w ((((w.alloc (.cells #[.int .i64 words, .int .i64 s0, .int .i64 s1, .int .i64 s2, .int .i64 s3, .int .i64 s4, .int .i64 s5, .int .i64 s6, .int .i64 s7, .int .i64 g0, .int .i64 g1, .int .i64 g2, .int .i64 g3, .int .i64 g4, .int .i64 g5, .int .i64 g6, .int .i64 g7, .int .i64 t0, .int .i64 t1, .int .i64 t2, .int .i64 t3, .int .i64 ma, .int .i64 mb, .int .i64 sa, .int .i64 na, .int .i64 sb, .int .i64 nb, .bool both, h0, h1, h2, h3, h4] 31)).alloc (.cells #[.int .i64 7, .int .i64 (a : Int)] 42)).alloc (.cells #[.int .i64 l0, .int .i64 l1, .int .i64 l2, .int .i64 l3, .int .i64 l4, .int .i64 l5, .int .i64 l6, .int .i64 l7] 23)).alloc (.cells #[.int .i64 0, .int .i64 0, .int .i64 0, .int .i64 0, .int .i64 0, .int .i64 0, .int .i64 0, .int .i64 0] 23)).heap.size words s0 s1 s2 s3 s4 s5 s6 s7 g0 g1 g2 g3 g4 g5 g6 g7 t0 t1 t2 t3 ma mb sa na sb nb both h0 h1 h2 h3 h4 7 a l0 l1 l2 l3 l4 l5 l6 l7 ((((w.alloc (.cells #[.int .i64 words, .int .i64 s0, .int .i64 s1, .int .i64 s2, .int .i64 s3, .int .i64 s4, .int .i64 s5, .int .i64 s6, .int .i64 s7, .int .i64 g0, .int .i64 g1, .int .i64 g2, .int .i64 g3, .int .i64 g4, .int .i64 g5, .int .i64 g6, .int .i64 g7, .int .i64 t0, .int .i64 t1, .int .i64 t2, .int .i64 t3, .int .i64 ma, .int .i64 mb, .int .i64 sa, .int .i64 na, .int .i64 sb, .int .i64 nb, .bool both, h0, h1, h2, h3, h4] 31)).alloc (.cells #[.int .i64 7, .int .i64 (a : Int)] 42)).alloc (.cells #[.int .i64 l0, .int .i64 l1, .int .i64 l2, .int .i64 l3, .int .i64 l4, .int .i64 l5, .int .i64 l6, .int .i64 l7] 23)).alloc (.cells #[.int .i64 0, .int .i64 0, .int .i64 0, .int .i64 0, .int .i64 0, .int .i64 0, .int .i64 0, .int .i64 0] 23)) from ⟨n0_, n1_, n2_, n3_, n4_, Nat.le_refl _, by simp only [World.size_alloc]; omega⟩)
 have HL := Aside0.mk hl
 obtain ⟨Av, cv, hvv, _⟩ := hv.slice
 subst hvv
 clear hv n0_ n1_ n2_ n3_ n4_ n5_
 go_enter Try.func30, Try.ntmps30
 go_upto_region 2 with (fail)
 generalize ((((w.alloc (.cells #[.int .i64 words, .int .i64 s0, .int .i64 s1, .int .i64 s2, .int .i64 s3, .int .i64 s4, .int .i64 s5, .int .i64 s6, .int .i64 s7, .int .i64 g0, .int .i64 g1, .int .i64 g2, .int .i64 g3, .int .i64 g4, .int .i64 g5, .int .i64 g6, .int .i64 g7, .int .i64 t0, .int .i64 t1, .int .i64 t2, .int .i64 t3, .int .i64 ma, .int .i64 mb, .int .i64 sa, .int .i64 na, .int .i64 sb, .int .i64 nb, .bool both, h0, h1, h2, h3, h4] 31)).alloc (.cells #[.int .i64 7, .int .i64 (a : Int)] 42)).alloc (.cells #[.int .i64 l0, .int .i64 l1, .int .i64 l2, .int .i64 l3, .int .i64 l4, .int .i64 l5, .int .i64 l6, .int .i64 l7] 23)).alloc (.cells #[.int .i64 0, .int .i64 0, .int .i64 0, .int .i64 0, .int .i64 0, .int .i64 0, .int .i64 0, .int .i64 0] 23)) = w4 at HD HVR ⊢
 have HO : Aside0 (w4.ownsRow w4.heap.size 22 1 (.slice none 0 0) ([] : List Int).length (nums .i64 [])) := ⟨own_nil _ _ _ _⟩
 go_upto_region 4 with ((with_reducible refine gate_builtin (b := .append) (xs := #[.tmp 21, .tmp 22]) rfl ?_); at_builtin; refine stk_concat w4.heap.size rfl (.tmp 21) (.tmp 22) rfl _ _ [] ks rfl rfl HO.out HVR.out (Nat.le_refl _) (by simpa using Nat.le_trans HL.out (by decide)) ?_; intro v1 w5 hv1 hb1; rw [List.nil_append] at hv1; obtain ⟨A1, c1, hv2, hlc1⟩ := hv1.read.slice; subst hv2; have HV := Aside0.mk hv1; have HB5 := Aside0.mk hb1; clear hv1 hb1)
 have HD := Aside0.mk (HD.out.step HB5.out)
 clear HVR HO HB5
 have HTP := Aside0.mk (table_ok 7 (by decide)).2.2.2.1
 have HTQ := Aside0.mk (table_ok 7 (by decide)).2.2.2.2
 have HAF := Aside0.mk (show afterP (resP hand ma mb) [s0, s1, s2, s3, s4, s5, s6, s7] [g0, g1, g2, g3, g4, g5, g6, g7] [t0, t1, t2, t3] (kindsOf (tabP 7)) (kindsOf (tabQ 7)) (tabS 7) 7 a ks [l0, l1, l2, l3, l4, l5, l6, l7] = specP (resP hand ma mb) [s0, s1, s2, s3, s4, s5, s6, s7] [g0, g1, g2, g3, g4, g5, g6, g7] [t0, t1, t2, t3] 7 a ks [l0, l1, l2, l3, l4, l5, l6, l7] from aft_spec (by decide) (by decide) (by decide))
 rw [show tabP 7 = (⟨#[]⟩ : ByteArray) from by decide +kernel] at HTP
 rw [show tabQ 7 = (⟨#[]⟩ : ByteArray) from by decide +kernel] at HTQ
 have hx0 : _ = some (Value.int .i64 7) := blk_cell HD.out.x 0
 have HPC := Aside0.mk (fun W => sluiceref11_pops.calls 100 7 (⟨#[]⟩ : ByteArray) W HTP.out)
 have HQC := Aside0.mk (fun W => sluiceref11_pushes.calls 100 7 (⟨#[]⟩ : ByteArray) W HTQ.out)
 go_upto_region 7 with (go_at_call 49; refine (HPC.out _).mono ?_; rintro e w6 ⟨rfl, ⟨nd, rfl⟩⟩)
 have n0_ := HD.out.step (pw_below_drewN (Below.refl _ _) nd)
 have n1_ := HV.out.below (pw_below_drewN (Below.refl _ _) nd)
 clear hx0 HPC HD HV
 have HD := Aside0.mk n0_
 have HV := Aside0.mk n1_
 clear n0_ n1_
 generalize w5.drewN nd = w6 at HD HV ⊢
 go_wp2
 go_loopg [16] 1 (fun kq v16 w' => v16 = .int .i64 0 ∧ w' = w6)
 case atStart => exact ⟨rfl, rfl⟩
 case round =>
  obtain ⟨rfl, rfl⟩ := hrel
  have hx0 : _ = some (Value.int .i64 7) := blk_cell HD.out.x 0
  have hx1 : _ = some (Value.int .i64 (a : Int)) := blk_cell HD.out.x 1
  have hsl : ¬ (c1 : Int) < (ks.length : Int) := by omega
  have HT := Aside0.mk (HV.out.take ks.length (Nat.le_refl _))
  rw [List.take_length] at HT
  clear HV
  have HS := Aside0.mk (HAF.out.trans (show specP (resP hand ma mb) [s0, s1, s2, s3, s4, s5, s6, s7] [g0, g1, g2, g3, g4, g5, g6, g7] [t0, t1, t2, t3] 7 a ks [l0, l1, l2, l3, l4, l5, l6, l7] = (if ks.length < a + 1 then none else (pushP (ks.getD (ks.length - 1 - a) 0) ks).map (fun s2 => (s2, [l0, l1, l2, l3, l4, l5, l6, l7]))) from rfl))
  clear HAF
  by_cases hi : ks.length < a + 1
  ·have HS2 := Aside0.mk (HS.out.trans (if_pos hi))
   have d1 : decide ((a : Int) ≥ (ks.length : Int)) = true := decide_eq_true (by omega)
   have d2 : decide (a ≥ ks.length) = true := decide_eq_true (by omega)
   have d3 : decide (ks.length ≤ a) = true := decide_eq_true (by omega)
   have hl0_ : _ = some (Value.int .i64 l0) := blk_cell HD.out.lo 0
   have hr0_ : _ = some (Value.int .i64 0) := blk_cell HD.out.rb 0
   have hf0_ := blk_frozen HD.out.rb 0
   have hl1_ : _ = some (Value.int .i64 l1) := blk_cell HD.out.lo 1
   have hr1_ : _ = some (Value.int .i64 0) := blk_cell HD.out.rb 1
   have hf1_ := blk_frozen HD.out.rb 1
   have hl2_ : _ = some (Value.int .i64 l2) := blk_cell HD.out.lo 2
   have hr2_ : _ = some (Value.int .i64 0) := blk_cell HD.out.rb 2
   have hf2_ := blk_frozen HD.out.rb 2
   have hl3_ : _ = some (Value.int .i64 l3) := blk_cell HD.out.lo 3
   have hr3_ : _ = some (Value.int .i64 0) := blk_cell HD.out.rb 3
   have hf3_ := blk_frozen HD.out.rb 3
   have hl4_ : _ = some (Value.int .i64 l4) := blk_cell HD.out.lo 4
   have hr4_ : _ = some (Value.int .i64 0) := blk_cell HD.out.rb 4
   have hf4_ := blk_frozen HD.out.rb 4
   have hl5_ : _ = some (Value.int .i64 l5) := blk_cell HD.out.lo 5
   have hr5_ : _ = some (Value.int .i64 0) := blk_cell HD.out.rb 5
   have hf5_ := blk_frozen HD.out.rb 5
   have hl6_ : _ = some (Value.int .i64 l6) := blk_cell HD.out.lo 6
   have hr6_ : _ = some (Value.int .i64 0) := blk_cell HD.out.rb 6
   have hf6_ := blk_frozen HD.out.rb 6
   have hl7_ : _ = some (Value.int .i64 l7) := blk_cell HD.out.lo 7
   have hr7_ : _ = some (Value.int .i64 0) := blk_cell HD.out.rb 7
   have hf7_ := blk_frozen HD.out.rb 7
   go_wp2
   repeat (go_region; try go_wp2)
   obtain ⟨n3_, n4_, n5_⟩ := fill8 HD.out.rb l0 l1 l2 l3 l4 l5 l6 l7
   have n5_ := n5_ w HD.out.b (by omega)
   generalize ((((((((wr.setCell ⟨(w.heap.size + 1 + 1 + 1), 0, none⟩ (.int .i64 l0)).setCell ⟨(w.heap.size + 1 + 1 + 1), 1, none⟩ (.int .i64 l1)).setCell ⟨(w.heap.size + 1 + 1 + 1), 2, none⟩ (.int .i64 l2)).setCell ⟨(w.heap.size + 1 + 1 + 1), 3, none⟩ (.int .i64 l3)).setCell ⟨(w.heap.size + 1 + 1 + 1), 4, none⟩ (.int .i64 l4)).setCell ⟨(w.heap.size + 1 + 1 + 1), 5, none⟩ (.int .i64 l5)).setCell ⟨(w.heap.size + 1 + 1 + 1), 6, none⟩ (.int .i64 l6)).setCell ⟨(w.heap.size + 1 + 1 + 1), 7, none⟩ (.int .i64 l7)) = w9 at n3_ n4_ n5_ ⊢
   have hc0_ : w9.drew.cell? ⟨(w.heap.size + 1 + 1 + 1), 0, none⟩ = some (.int .i64 l0) := blk_cell n3_ 0
   have hc1_ : w9.drew.cell? ⟨(w.heap.size + 1 + 1 + 1), 1, none⟩ = some (.int .i64 l1) := blk_cell n3_ 1
   have hc2_ : w9.drew.cell? ⟨(w.heap.size + 1 + 1 + 1), 2, none⟩ = some (.int .i64 l2) := blk_cell n3_ 2
   have hc3_ : w9.drew.cell? ⟨(w.heap.size + 1 + 1 + 1), 3, none⟩ = some (.int .i64 l3) := blk_cell n3_ 3
   have hc4_ : w9.drew.cell? ⟨(w.heap.size + 1 + 1 + 1), 4, none⟩ = some (.int .i64 l4) := blk_cell n3_ 4
   have hc5_ : w9.drew.cell? ⟨(w.heap.size + 1 + 1 + 1), 5, none⟩ = some (.int .i64 l5) := blk_cell n3_ 5
   have hc6_ : w9.drew.cell? ⟨(w.heap.size + 1 + 1 + 1), 6, none⟩ = some (.int .i64 l6) := blk_cell n3_ 6
   have hc7_ : w9.drew.cell? ⟨(w.heap.size + 1 + 1 + 1), 7, none⟩ = some (.int .i64 l7) := blk_cell n3_ 7
   refine bodyPost_ret (v := .tuple #[.slice none 0 0, .agg #[.int .i64 l0, .int .i64 l1, .int .i64 l2, .int .i64 l3, .int .i64 l4, .int .i64 l5, .int .i64 l6, .int .i64 l7], .bool false]) (by simp [results, Try.results30, go_sem, hc0_, hc1_, hc2_, hc3_, hc4_, hc5_, hc6_, hc7_]) rfl ?_
   exact .inl ⟨HS2.out, _, _, _, _, _, _, _, _, _, rfl, pw_below_drewN n5_ 1⟩
  have d1 : decide ((a : Int) ≥ (ks.length : Int)) = false := decide_eq_false (by omega)
  have d2 : decide (a ≥ ks.length) = false := decide_eq_false (by omega)
  have d3 : decide (ks.length ≤ a) = false := decide_eq_false (by omega)
  obtain ⟨q, hqA, hqN, hqc, hqs⟩ := HT.out.cell (ks.length - 1 - a) (by omega)
  subst hqA
  have q1 : 0 ≤ (ks.length : Int) - 1 - (a : Int) ∧ (ks.length : Int) - 1 - (a : Int) < (ks.length : Int) := by omega
  have hto : ((ks.length : Int) - 1 - (a : Int)).toNat = ks.length - 1 - a := by omega
  have HS1 := Aside0.mk (HS.out.trans (if_neg hi))
  obtain ⟨t, ht⟩ : ∃ t, t = ks.getD (ks.length - 1 - a) 0 := ⟨_, rfl⟩
  rw [← ht] at hqc HS1
  clear HS
  have HS := Aside0.mk (HS1.out.trans (push32 t))
  clear HS1 ht hqs hi
  go_upto_region 61 with ((with_reducible refine gate_builtin (b := .append) (xs := #[.tmp 127, .tmp 136]) rfl ?_); at_builtin; refine stk_append w4.heap.size rfl (.tmp 127) (.tmp 136) rfl _ ks t rfl rfl HT.out HD.out.n (by have := HL.out; omega) ?_; intro v1 wz hv1 hb1; obtain ⟨A1, c1, hv2, _⟩ := hv1.read.slice; subst hv2; have n0_ := Aside0.mk (HD.out.hold hb1); have n1_ := Aside0.mk hv1; clear HD HT hv1 hb1 hx0 hx1; have HD := n0_; have HT := n1_; clear n0_ n1_; have hx0 : _ = some (Value.int .i64 7) := blk_cell HD.out.x 0; have hx1 : _ = some (Value.int .i64 (a : Int)) := blk_cell HD.out.x 1)
  obtain ⟨r, hr⟩ : ∃ r, r = ks ++ [t] := ⟨_, rfl⟩
  rw [← hr] at HT HS
  rw [show ks.length + 1 = r.length by rw [hr, List.length_append]; rfl]
  clear hr
  go_upto_region 62 with (go_at_call 52; refine (HQC.out _).mono ?_; rintro e wq ⟨rfl, ⟨nq, rfl⟩⟩)
  have n0_ := HD.out.step (pw_below_drewN (Below.refl _ _) nq)
  have n1_ := HT.out.below (pw_below_drewN (Below.refl _ _) nq)
  clear hx0 hx1 HQC HD HT
  have HD := Aside0.mk n0_
  have HT := Aside0.mk n1_
  clear n0_ n1_
  generalize wz.drewN nq = wt at HD HT ⊢
  go_wp2
  go_loopg [13, 20] 2 (fun kq v13 v20 w' => v13 = .slice A1 r.length c1 ∧ v20 = .int .i64 0 ∧ w' = wt)
  case atStart => exact ⟨rfl, rfl, rfl⟩
  case round =>
   obtain ⟨rfl, rfl, rfl⟩ := hrel
   have hl0_ : _ = some (Value.int .i64 l0) := blk_cell HD.out.lo 0
   have hr0_ : _ = some (Value.int .i64 0) := blk_cell HD.out.rb 0
   have hf0_ := blk_frozen HD.out.rb 0
   have hl1_ : _ = some (Value.int .i64 l1) := blk_cell HD.out.lo 1
   have hr1_ : _ = some (Value.int .i64 0) := blk_cell HD.out.rb 1
   have hf1_ := blk_frozen HD.out.rb 1
   have hl2_ : _ = some (Value.int .i64 l2) := blk_cell HD.out.lo 2
   have hr2_ : _ = some (Value.int .i64 0) := blk_cell HD.out.rb 2
   have hf2_ := blk_frozen HD.out.rb 2
   have hl3_ : _ = some (Value.int .i64 l3) := blk_cell HD.out.lo 3
   have hr3_ : _ = some (Value.int .i64 0) := blk_cell HD.out.rb 3
   have hf3_ := blk_frozen HD.out.rb 3
   have hl4_ : _ = some (Value.int .i64 l4) := blk_cell HD.out.lo 4
   have hr4_ : _ = some (Value.int .i64 0) := blk_cell HD.out.rb 4
   have hf4_ := blk_frozen HD.out.rb 4
   have hl5_ : _ = some (Value.int .i64 l5) := blk_cell HD.out.lo 5
   have hr5_ : _ = some (Value.int .i64 0) := blk_cell HD.out.rb 5
   have hf5_ := blk_frozen HD.out.rb 5
   have hl6_ : _ = some (Value.int .i64 l6) := blk_cell HD.out.lo 6
   have hr6_ : _ = some (Value.int .i64 0) := blk_cell HD.out.rb 6
   have hf6_ := blk_frozen HD.out.rb 6
   have hl7_ : _ = some (Value.int .i64 l7) := blk_cell HD.out.lo 7
   have hr7_ : _ = some (Value.int .i64 0) := blk_cell HD.out.rb 7
   have hf7_ := blk_frozen HD.out.rb 7
   by_cases hq : r.length ≤ 32
   ·have d9 : decide ((r.length : Int) ≤ 32) = true := decide_eq_true (by omega)
    have HS2 := Aside0.mk (HS.out.trans (if_pos hq))
    clear hq
    go_wp2
    repeat (go_region; try go_wp2)
    obtain ⟨n3_, n4_, n5_⟩ := fill8 HD.out.rb l0 l1 l2 l3 l4 l5 l6 l7
    have n5_ := n5_ w HD.out.b (by omega)
    generalize ((((((((wr.setCell ⟨(w.heap.size + 1 + 1 + 1), 0, none⟩ (.int .i64 l0)).setCell ⟨(w.heap.size + 1 + 1 + 1), 1, none⟩ (.int .i64 l1)).setCell ⟨(w.heap.size + 1 + 1 + 1), 2, none⟩ (.int .i64 l2)).setCell ⟨(w.heap.size + 1 + 1 + 1), 3, none⟩ (.int .i64 l3)).setCell ⟨(w.heap.size + 1 + 1 + 1), 4, none⟩ (.int .i64 l4)).setCell ⟨(w.heap.size + 1 + 1 + 1), 5, none⟩ (.int .i64 l5)).setCell ⟨(w.heap.size + 1 + 1 + 1), 6, none⟩ (.int .i64 l6)).setCell ⟨(w.heap.size + 1 + 1 + 1), 7, none⟩ (.int .i64 l7)) = w9 at n3_ n4_ n5_ ⊢
    have hc0_ : w9.drew.cell? ⟨(w.heap.size + 1 + 1 + 1), 0, none⟩ = some (.int .i64 l0) := blk_cell n3_ 0
    have hc1_ : w9.drew.cell? ⟨(w.heap.size + 1 + 1 + 1), 1, none⟩ = some (.int .i64 l1) := blk_cell n3_ 1
    have hc2_ : w9.drew.cell? ⟨(w.heap.size + 1 + 1 + 1), 2, none⟩ = some (.int .i64 l2) := blk_cell n3_ 2
    have hc3_ : w9.drew.cell? ⟨(w.heap.size + 1 + 1 + 1), 3, none⟩ = some (.int .i64 l3) := blk_cell n3_ 3
    have hc4_ : w9.drew.cell? ⟨(w.heap.size + 1 + 1 + 1), 4, none⟩ = some (.int .i64 l4) := blk_cell n3_ 4
    have hc5_ : w9.drew.cell? ⟨(w.heap.size + 1 + 1 + 1), 5, none⟩ = some (.int .i64 l5) := blk_cell n3_ 5
    have hc6_ : w9.drew.cell? ⟨(w.heap.size + 1 + 1 + 1), 6, none⟩ = some (.int .i64 l6) := blk_cell n3_ 6
    have hc7_ : w9.drew.cell? ⟨(w.heap.size + 1 + 1 + 1), 7, none⟩ = some (.int .i64 l7) := blk_cell n3_ 7
    refine bodyPost_ret (v := .tuple #[.slice A1 r.length c1, .agg #[.int .i64 l0, .int .i64 l1, .int .i64 l2, .int .i64 l3, .int .i64 l4, .int .i64 l5, .int .i64 l6, .int .i64 l7], .bool true]) (by simp [results, Try.results30, go_sem, hc0_, hc1_, hc2_, hc3_, hc4_, hc5_, hc6_, hc7_]) rfl ?_
    exact .inr ⟨_, _, _, HS2.out, rfl, (n4_ _ _ HT.out.read).below (pw_below_drewN (Below.refl _ _) 1), pw_below_drewN n5_ 1⟩
   have d9 : decide ((r.length : Int) ≤ 32) = false := decide_eq_false (by omega)
   have HS2 := Aside0.mk (HS.out.trans (if_neg hq))
   clear hq
   go_wp2
   repeat (go_region; try go_wp2)
   obtain ⟨n3_, n4_, n5_⟩ := fill8 HD.out.rb l0 l1 l2 l3 l4 l5 l6 l7
   have n5_ := n5_ w HD.out.b (by omega)
   generalize ((((((((wr.setCell ⟨(w.heap.size + 1 + 1 + 1), 0, none⟩ (.int .i64 l0)).setCell ⟨(w.heap.size + 1 + 1 + 1), 1, none⟩ (.int .i64 l1)).setCell ⟨(w.heap.size + 1 + 1 + 1), 2, none⟩ (.int .i64 l2)).setCell ⟨(w.heap.size + 1 + 1 + 1), 3, none⟩ (.int .i64 l3)).setCell ⟨(w.heap.size + 1 + 1 + 1), 4, none⟩ (.int .i64 l4)).setCell ⟨(w.heap.size + 1 + 1 + 1), 5, none⟩ (.int .i64 l5)).setCell ⟨(w.heap.size + 1 + 1 + 1), 6, none⟩ (.int .i64 l6)).setCell ⟨(w.heap.size + 1 + 1 + 1), 7, none⟩ (.int .i64 l7)) = w9 at n3_ n4_ n5_ ⊢
   have hc0_ : w9.drew.cell? ⟨(w.heap.size + 1 + 1 + 1), 0, none⟩ = some (.int .i64 l0) := blk_cell n3_ 0
   have hc1_ : w9.drew.cell? ⟨(w.heap.size + 1 + 1 + 1), 1, none⟩ = some (.int .i64 l1) := blk_cell n3_ 1
   have hc2_ : w9.drew.cell? ⟨(w.heap.size + 1 + 1 + 1), 2, none⟩ = some (.int .i64 l2) := blk_cell n3_ 2
   have hc3_ : w9.drew.cell? ⟨(w.heap.size + 1 + 1 + 1), 3, none⟩ = some (.int .i64 l3) := blk_cell n3_ 3
   have hc4_ : w9.drew.cell? ⟨(w.heap.size + 1 + 1 + 1), 4, none⟩ = some (.int .i64 l4) := blk_cell n3_ 4
   have hc5_ : w9.drew.cell? ⟨(w.heap.size + 1 + 1 + 1), 5, none⟩ = some (.int .i64 l5) := blk_cell n3_ 5
   have hc6_ : w9.drew.cell? ⟨(w.heap.size + 1 + 1 + 1), 6, none⟩ = some (.int .i64 l6) := blk_cell n3_ 6
   have hc7_ : w9.drew.cell? ⟨(w.heap.size + 1 + 1 + 1), 7, none⟩ = some (.int .i64 l7) := blk_cell n3_ 7
   refine bodyPost_ret (v := .tuple #[.slice A1 r.length c1, .agg #[.int .i64 l0, .int .i64 l1, .int .i64 l2, .int .i64 l3, .int .i64 l4, .int .i64 l5, .int .i64 l6, .int .i64 l7], .bool false]) (by simp [results, Try.results30, go_sem, hc0_, hc1_, hc2_, hc3_, hc4_, hc5_, hc6_, hc7_]) rfl ?_
   exact .inl ⟨HS2.out, _, _, _, _, _, _, _, _, _, rfl, pw_below_drewN n5_ 1⟩
end Beh7
section Beh8
set_option maxHeartbeats 8000000 in
set_option maxRecDepth 100000 in
theorem beh8R (words s0 s1 s2 s3 s4 s5 s6 s7 g0 g1 g2 g3 g4 g5 g6 g7 t0 t1 t2 t3 ma mb sa na sb nb : Int) (both : Bool) (h0 h1 h2 h3 h4 : Value) (hand l0 l1 l2 l3 l4 l5 l6 l7 : Int) (v : Value) (ks : List Int) (a : Nat) (w : World) (hv : StkR w v ks) (hl : ks.length ≤ 32) (ha : a < 8) :
  Calls Try.prog 30 #[.agg #[.int .i64 words, .int .i64 s0, .int .i64 s1, .int .i64 s2, .int .i64 s3, .int .i64 s4, .int .i64 s5, .int .i64 s6, .int .i64 s7, .int .i64 g0, .int .i64 g1, .int .i64 g2, .int .i64 g3, .int .i64 g4, .int .i64 g5, .int .i64 g6, .int .i64 g7, .int .i64 t0, .int .i64 t1, .int .i64 t2, .int .i64 t3, .int .i64 ma, .int .i64 mb, .int .i64 sa, .int .i64 na, .int .i64 sb, .int .i64 nb, .bool both, h0, h1, h2, h3, h4], .int .i64 hand, .agg #[.int .i64 8, .int .i64 (a : Int)], v, .agg #[.int .i64 l0, .int .i64 l1, .int .i64 l2, .int .i64 l3, .int .i64 l4, .int .i64 l5, .int .i64 l6, .int .i64 l7]] w fun e w' => (afterP (resP hand ma mb) [s0, s1, s2, s3, s4, s5, s6, s7] [g0, g1, g2, g3, g4, g5, g6, g7] [t0, t1, t2, t3] (kindsOf (tabP 8)) (kindsOf (tabQ 8)) (tabS 8) 8 a ks [l0, l1, l2, l3, l4, l5, l6, l7] = none ∧ ∃ (v' : Value) (n0 n1 n2 n3 n4 n5 n6 n7 : Int), e = .returned (.tuple #[v', .agg #[.int .i64 n0, .int .i64 n1, .int .i64 n2, .int .i64 n3, .int .i64 n4, .int .i64 n5, .int .i64 n6, .int .i64 n7], .bool false]) ∧ Below w.heap.size w w') ∨ ∃ s' lo' v', afterP (resP hand ma mb) [s0, s1, s2, s3, s4, s5, s6, s7] [g0, g1, g2, g3, g4, g5, g6, g7] [t0, t1, t2, t3] (kindsOf (tabP 8)) (kindsOf (tabQ 8)) (tabS 8) 8 a ks [l0, l1, l2, l3, l4, l5, l6, l7] = some (s', lo') ∧ e = .returned (.tuple #[v', .agg (nums .i64 lo').toArray, .bool true]) ∧ StkR w' v' s' ∧ Below w.heap.size w w' := by
 have n0_ := blk_alloc (blk_alloc (blk_alloc (heap_alloc_new w (.cells #[.int .i64 words, .int .i64 s0, .int .i64 s1, .int .i64 s2, .int .i64 s3, .int .i64 s4, .int .i64 s5, .int .i64 s6, .int .i64 s7, .int .i64 g0, .int .i64 g1, .int .i64 g2, .int .i64 g3, .int .i64 g4, .int .i64 g5, .int .i64 g6, .int .i64 g7, .int .i64 t0, .int .i64 t1, .int .i64 t2, .int .i64 t3, .int .i64 ma, .int .i64 mb, .int .i64 sa, .int .i64 na, .int .i64 sb, .int .i64 nb, .bool both, h0, h1, h2, h3, h4] 31)) (.cells #[.int .i64 8, .int .i64 (a : Int)] 42)) (.cells #[.int .i64 l0, .int .i64 l1, .int .i64 l2, .int .i64 l3, .int .i64 l4, .int .i64 l5, .int .i64 l6, .int .i64 l7] 23)) (.cells #[.int .i64 0, .int .i64 0, .int .i64 0, .int .i64 0, .int .i64 0, .int .i64 0, .int .i64 0, .int .i64 0] 23)
 have n1_ := blk_alloc (blk_alloc (heap_alloc_new (w.alloc (.cells #[.int .i64 words, .int .i64 s0, .int .i64 s1, .int .i64 s2, .int .i64 s3, .int .i64 s4, .int .i64 s5, .int .i64 s6, .int .i64 s7, .int .i64 g0, .int .i64 g1, .int .i64 g2, .int .i64 g3, .int .i64 g4, .int .i64 g5, .int .i64 g6, .int .i64 g7, .int .i64 t0, .int .i64 t1, .int .i64 t2, .int .i64 t3, .int .i64 ma, .int .i64 mb, .int .i64 sa, .int .i64 na, .int .i64 sb, .int .i64 nb, .bool both, h0, h1, h2, h3, h4] 31)) (.cells #[.int .i64 8, .int .i64 (a : Int)] 42)) (.cells #[.int .i64 l0, .int .i64 l1, .int .i64 l2, .int .i64 l3, .int .i64 l4, .int .i64 l5, .int .i64 l6, .int .i64 l7] 23)) (.cells #[.int .i64 0, .int .i64 0, .int .i64 0, .int .i64 0, .int .i64 0, .int .i64 0, .int .i64 0, .int .i64 0] 23)
 have n2_ := blk_alloc (heap_alloc_new ((w.alloc (.cells #[.int .i64 words, .int .i64 s0, .int .i64 s1, .int .i64 s2, .int .i64 s3, .int .i64 s4, .int .i64 s5, .int .i64 s6, .int .i64 s7, .int .i64 g0, .int .i64 g1, .int .i64 g2, .int .i64 g3, .int .i64 g4, .int .i64 g5, .int .i64 g6, .int .i64 g7, .int .i64 t0, .int .i64 t1, .int .i64 t2, .int .i64 t3, .int .i64 ma, .int .i64 mb, .int .i64 sa, .int .i64 na, .int .i64 sb, .int .i64 nb, .bool both, h0, h1, h2, h3, h4] 31)).alloc (.cells #[.int .i64 8, .int .i64 (a : Int)] 42)) (.cells #[.int .i64 l0, .int .i64 l1, .int .i64 l2, .int .i64 l3, .int .i64 l4, .int .i64 l5, .int .i64 l6, .int .i64 l7] 23)) (.cells #[.int .i64 0, .int .i64 0, .int .i64 0, .int .i64 0, .int .i64 0, .int .i64 0, .int .i64 0, .int .i64 0] 23)
 have n3_ := heap_alloc_new (((w.alloc (.cells #[.int .i64 words, .int .i64 s0, .int .i64 s1, .int .i64 s2, .int .i64 s3, .int .i64 s4, .int .i64 s5, .int .i64 s6, .int .i64 s7, .int .i64 g0, .int .i64 g1, .int .i64 g2, .int .i64 g3, .int .i64 g4, .int .i64 g5, .int .i64 g6, .int .i64 g7, .int .i64 t0, .int .i64 t1, .int .i64 t2, .int .i64 t3, .int .i64 ma, .int .i64 mb, .int .i64 sa, .int .i64 na, .int .i64 sb, .int .i64 nb, .bool both, h0, h1, h2, h3, h4] 31)).alloc (.cells #[.int .i64 8, .int .i64 (a : Int)] 42)).alloc (.cells #[.int .i64 l0, .int .i64 l1, .int .i64 l2, .int .i64 l3, .int .i64 l4, .int .i64 l5, .int .i64 l6, .int .i64 l7] 23)) (.cells #[.int .i64 0, .int .i64 0, .int .i64 0, .int .i64 0, .int .i64 0, .int .i64 0, .int .i64 0, .int .i64 0] 23)
 simp only [World.size_alloc] at n1_ n2_ n3_
 have n4_ := below_alloc (below_alloc (below_alloc (below_alloc (Below.refl w.heap.size w) (.cells #[.int .i64 words, .int .i64 s0, .int .i64 s1, .int .i64 s2, .int .i64 s3, .int .i64 s4, .int .i64 s5, .int .i64 s6, .int .i64 s7, .int .i64 g0, .int .i64 g1, .int .i64 g2, .int .i64 g3, .int .i64 g4, .int .i64 g5, .int .i64 g6, .int .i64 g7, .int .i64 t0, .int .i64 t1, .int .i64 t2, .int .i64 t3, .int .i64 ma, .int .i64 mb, .int .i64 sa, .int .i64 na, .int .i64 sb, .int .i64 nb, .bool both, h0, h1, h2, h3, h4] 31)) (.cells #[.int .i64 8, .int .i64 (a : Int)] 42)) (.cells #[.int .i64 l0, .int .i64 l1, .int .i64 l2, .int .i64 l3, .int .i64 l4, .int .i64 l5, .int .i64 l6, .int .i64 l7] 23)) (.cells #[.int .i64 0, .int .i64 0, .int .i64 0, .int .i64 0, .int .i64 0, .int .i64 0, .int .i64 0, .int .i64 0] 23)
 have HVR := Aside0.mk (hv.below n4_)
 have n5_ := Nat.le_of_eq (World.size_alloc (((w.alloc (.cells #[.int .i64 words, .int .i64 s0, .int .i64 s1, .int .i64 s2, .int .i64 s3, .int .i64 s4, .int .i64 s5, .int .i64 s6, .int .i64 s7, .int .i64 g0, .int .i64 g1, .int .i64 g2, .int .i64 g3, .int .i64 g4, .int .i64 g5, .int .i64 g6, .int .i64 g7, .int .i64 t0, .int .i64 t1, .int .i64 t2, .int .i64 t3, .int .i64 ma, .int .i64 mb, .int .i64 sa, .int .i64 na, .int .i64 sb, .int .i64 nb, .bool both, h0, h1, h2, h3, h4] 31)).alloc (.cells #[.int .i64 8, .int .i64 (a : Int)] 42)).alloc (.cells #[.int .i64 l0, .int .i64 l1, .int .i64 l2, .int .i64 l3, .int .i64 l4, .int .i64 l5, .int .i64 l6, .int .i64 l7] 23)) (.cells #[.int .i64 0, .int .i64 0, .int .i64 0, .int .i64 0, .int .i64 0, .int .i64 0, .int .i64 0, .int .i64 0] 23)).symm
 simp only [World.size_alloc] at n5_
 have HD := Aside0.mk (show DQ w ((((w.alloc (.cells #[.int .i64 words, .int .i64 s0, .int .i64 s1, .int .i64 s2, .int .i64 s3, .int .i64 s4, .int .i64 s5, .int .i64 s6, .int .i64 s7, .int .i64 g0, .int .i64 g1, .int .i64 g2, .int .i64 g3, .int .i64 g4, .int .i64 g5, .int .i64 g6, .int .i64 g7, .int .i64 t0, .int .i64 t1, .int .i64 t2, .int .i64 t3, .int .i64 ma, .int .i64 mb, .int .i64 sa, .int .i64 na, .int .i64 sb, .int .i64 nb, .bool both, h0, h1, h2, h3, h4] 31)).alloc (.cells #[.int .i64 8, .int .i64 (a : Int)] 42)).alloc (.cells #[.int .i64 l0, .int .i64 l1, .int .i64 l2, .int .i64 l3, .int .i64 l4, .int .i64 l5, .int .i64 l6, .int .i64 l7] 23)).alloc (.cells #[.int .i64 0, .int .i64 0, .int .i64 0, .int .i64 0, .int .i64 0, .int .i64 0, .int .i64 0, .int .i64 0] 23)).heap.size words s0 s1 s2 s3 s4 s5 s6 s7 g0 g1 g2 g3 g4 g5 g6 g7 t0 t1 t2 t3 ma mb sa na sb nb both h0 h1 h2 h3 h4 8 a l0 l1 l2 l3 l4 l5 l6 l7 ((((w.alloc (.cells #[.int .i64 words, .int .i64 s0, .int .i64 s1, .int .i64 s2, .int .i64 s3, .int .i64 s4, .int .i64 s5, .int .i64 s6, .int .i64 s7, .int .i64 g0, .int .i64 g1, .int .i64 g2, .int .i64 g3, .int .i64 g4, .int .i64 g5, .int .i64 g6, .int .i64 g7, .int .i64 t0, .int .i64 t1, .int .i64 t2, .int .i64 t3, .int .i64 ma, .int .i64 mb, .int .i64 sa, .int .i64 na, .int .i64 sb, .int .i64 nb, .bool both, h0, h1, h2, h3, h4] 31)).alloc (.cells #[.int .i64 8, .int .i64 (a : Int)] 42)).alloc (.cells #[.int .i64 l0, .int .i64 l1, .int .i64 l2, .int .i64 l3, .int .i64 l4, .int .i64 l5, .int .i64 l6, .int .i64 l7] 23)).alloc (.cells #[.int .i64 0, .int .i64 0, .int .i64 0, .int .i64 0, .int .i64 0, .int .i64 0, .int .i64 0, .int .i64 0] 23)) from ⟨n0_, n1_, n2_, n3_, n4_, Nat.le_refl _, by simp only [World.size_alloc]; omega⟩)
 have HL := Aside0.mk hl
 obtain ⟨Av, cv, hvv, _⟩ := hv.slice
 subst hvv
 clear hv n0_ n1_ n2_ n3_ n4_ n5_
 go_enter Try.func30, Try.ntmps30
 go_upto_region 2 with (fail)
 generalize ((((w.alloc (.cells #[.int .i64 words, .int .i64 s0, .int .i64 s1, .int .i64 s2, .int .i64 s3, .int .i64 s4, .int .i64 s5, .int .i64 s6, .int .i64 s7, .int .i64 g0, .int .i64 g1, .int .i64 g2, .int .i64 g3, .int .i64 g4, .int .i64 g5, .int .i64 g6, .int .i64 g7, .int .i64 t0, .int .i64 t1, .int .i64 t2, .int .i64 t3, .int .i64 ma, .int .i64 mb, .int .i64 sa, .int .i64 na, .int .i64 sb, .int .i64 nb, .bool both, h0, h1, h2, h3, h4] 31)).alloc (.cells #[.int .i64 8, .int .i64 (a : Int)] 42)).alloc (.cells #[.int .i64 l0, .int .i64 l1, .int .i64 l2, .int .i64 l3, .int .i64 l4, .int .i64 l5, .int .i64 l6, .int .i64 l7] 23)).alloc (.cells #[.int .i64 0, .int .i64 0, .int .i64 0, .int .i64 0, .int .i64 0, .int .i64 0, .int .i64 0, .int .i64 0] 23)) = w4 at HD HVR ⊢
 have HO : Aside0 (w4.ownsRow w4.heap.size 22 1 (.slice none 0 0) ([] : List Int).length (nums .i64 [])) := ⟨own_nil _ _ _ _⟩
 go_upto_region 4 with ((with_reducible refine gate_builtin (b := .append) (xs := #[.tmp 21, .tmp 22]) rfl ?_); at_builtin; refine stk_concat w4.heap.size rfl (.tmp 21) (.tmp 22) rfl _ _ [] ks rfl rfl HO.out HVR.out (Nat.le_refl _) (by simpa using Nat.le_trans HL.out (by decide)) ?_; intro v1 w5 hv1 hb1; rw [List.nil_append] at hv1; obtain ⟨A1, c1, hv2, hlc1⟩ := hv1.read.slice; subst hv2; have HV := Aside0.mk hv1; have HB5 := Aside0.mk hb1; clear hv1 hb1)
 have HD := Aside0.mk (HD.out.step HB5.out)
 clear HVR HO HB5
 have HTP := Aside0.mk (table_ok 8 (by decide)).2.2.2.1
 have HTQ := Aside0.mk (table_ok 8 (by decide)).2.2.2.2
 have HAF := Aside0.mk (show afterP (resP hand ma mb) [s0, s1, s2, s3, s4, s5, s6, s7] [g0, g1, g2, g3, g4, g5, g6, g7] [t0, t1, t2, t3] (kindsOf (tabP 8)) (kindsOf (tabQ 8)) (tabS 8) 8 a ks [l0, l1, l2, l3, l4, l5, l6, l7] = specP (resP hand ma mb) [s0, s1, s2, s3, s4, s5, s6, s7] [g0, g1, g2, g3, g4, g5, g6, g7] [t0, t1, t2, t3] 8 a ks [l0, l1, l2, l3, l4, l5, l6, l7] from aft_spec (by decide) (by decide) (by decide))
 rw [show tabP 8 = (⟨#[]⟩ : ByteArray) from by decide +kernel] at HTP
 rw [show tabQ 8 = (⟨#[]⟩ : ByteArray) from by decide +kernel] at HTQ
 have hx0 : _ = some (Value.int .i64 8) := blk_cell HD.out.x 0
 have HPC := Aside0.mk (fun W => sluiceref11_pops.calls 100 8 (⟨#[]⟩ : ByteArray) W HTP.out)
 have HQC := Aside0.mk (fun W => sluiceref11_pushes.calls 100 8 (⟨#[]⟩ : ByteArray) W HTQ.out)
 go_upto_region 7 with (go_at_call 49; refine (HPC.out _).mono ?_; rintro e w6 ⟨rfl, ⟨nd, rfl⟩⟩)
 have n0_ := HD.out.step (pw_below_drewN (Below.refl _ _) nd)
 have n1_ := HV.out.below (pw_below_drewN (Below.refl _ _) nd)
 clear hx0 HPC HD HV
 have HD := Aside0.mk n0_
 have HV := Aside0.mk n1_
 clear n0_ n1_
 generalize w5.drewN nd = w6 at HD HV ⊢
 go_wp2
 go_loopg [16] 1 (fun kq v16 w' => v16 = .int .i64 0 ∧ w' = w6)
 case atStart => exact ⟨rfl, rfl⟩
 case round =>
  obtain ⟨rfl, rfl⟩ := hrel
  have hx0 : _ = some (Value.int .i64 8) := blk_cell HD.out.x 0
  have hx1 : _ = some (Value.int .i64 (a : Int)) := blk_cell HD.out.x 1
  have hsl : ¬ (c1 : Int) < (ks.length : Int) := by omega
  have HT := Aside0.mk (HV.out.take ks.length (Nat.le_refl _))
  rw [List.take_length] at HT
  clear HV
  have HS := Aside0.mk (HAF.out.trans (show specP (resP hand ma mb) [s0, s1, s2, s3, s4, s5, s6, s7] [g0, g1, g2, g3, g4, g5, g6, g7] [t0, t1, t2, t3] 8 a ks [l0, l1, l2, l3, l4, l5, l6, l7] = (if [l0, l1, l2, l3, l4, l5, l6, l7].getD a 0 = 0 then none else (pushP ([l0, l1, l2, l3, l4, l5, l6, l7].getD a 0) ks).map (fun s2 => (s2, [l0, l1, l2, l3, l4, l5, l6, l7]))) from rfl))
  clear HAF
  have hqc := lo_cell HD.out.lo a ha
  have q1 : 0 ≤ (a : Int) ∧ (a : Int) < 8 := by omega
  obtain ⟨t, ht⟩ : ∃ t, t = [l0, l1, l2, l3, l4, l5, l6, l7].getD a 0 := ⟨_, rfl⟩
  rw [← ht] at hqc HS
  clear ht
  by_cases hi : t = 0
  ·have HS2 := Aside0.mk (HS.out.trans (if_pos hi))
   have d1 : (t == 0) = true := beq_iff_eq.mpr hi
   clear hi
   have hl0_ : _ = some (Value.int .i64 l0) := blk_cell HD.out.lo 0
   have hr0_ : _ = some (Value.int .i64 0) := blk_cell HD.out.rb 0
   have hf0_ := blk_frozen HD.out.rb 0
   have hl1_ : _ = some (Value.int .i64 l1) := blk_cell HD.out.lo 1
   have hr1_ : _ = some (Value.int .i64 0) := blk_cell HD.out.rb 1
   have hf1_ := blk_frozen HD.out.rb 1
   have hl2_ : _ = some (Value.int .i64 l2) := blk_cell HD.out.lo 2
   have hr2_ : _ = some (Value.int .i64 0) := blk_cell HD.out.rb 2
   have hf2_ := blk_frozen HD.out.rb 2
   have hl3_ : _ = some (Value.int .i64 l3) := blk_cell HD.out.lo 3
   have hr3_ : _ = some (Value.int .i64 0) := blk_cell HD.out.rb 3
   have hf3_ := blk_frozen HD.out.rb 3
   have hl4_ : _ = some (Value.int .i64 l4) := blk_cell HD.out.lo 4
   have hr4_ : _ = some (Value.int .i64 0) := blk_cell HD.out.rb 4
   have hf4_ := blk_frozen HD.out.rb 4
   have hl5_ : _ = some (Value.int .i64 l5) := blk_cell HD.out.lo 5
   have hr5_ : _ = some (Value.int .i64 0) := blk_cell HD.out.rb 5
   have hf5_ := blk_frozen HD.out.rb 5
   have hl6_ : _ = some (Value.int .i64 l6) := blk_cell HD.out.lo 6
   have hr6_ : _ = some (Value.int .i64 0) := blk_cell HD.out.rb 6
   have hf6_ := blk_frozen HD.out.rb 6
   have hl7_ : _ = some (Value.int .i64 l7) := blk_cell HD.out.lo 7
   have hr7_ : _ = some (Value.int .i64 0) := blk_cell HD.out.rb 7
   have hf7_ := blk_frozen HD.out.rb 7
   go_wp2
   repeat (go_region; try go_wp2)
   obtain ⟨n3_, n4_, n5_⟩ := fill8 HD.out.rb l0 l1 l2 l3 l4 l5 l6 l7
   have n5_ := n5_ w HD.out.b (by omega)
   generalize ((((((((wr.setCell ⟨(w.heap.size + 1 + 1 + 1), 0, none⟩ (.int .i64 l0)).setCell ⟨(w.heap.size + 1 + 1 + 1), 1, none⟩ (.int .i64 l1)).setCell ⟨(w.heap.size + 1 + 1 + 1), 2, none⟩ (.int .i64 l2)).setCell ⟨(w.heap.size + 1 + 1 + 1), 3, none⟩ (.int .i64 l3)).setCell ⟨(w.heap.size + 1 + 1 + 1), 4, none⟩ (.int .i64 l4)).setCell ⟨(w.heap.size + 1 + 1 + 1), 5, none⟩ (.int .i64 l5)).setCell ⟨(w.heap.size + 1 + 1 + 1), 6, none⟩ (.int .i64 l6)).setCell ⟨(w.heap.size + 1 + 1 + 1), 7, none⟩ (.int .i64 l7)) = w9 at n3_ n4_ n5_ ⊢
   have hc0_ : w9.drew.cell? ⟨(w.heap.size + 1 + 1 + 1), 0, none⟩ = some (.int .i64 l0) := blk_cell n3_ 0
   have hc1_ : w9.drew.cell? ⟨(w.heap.size + 1 + 1 + 1), 1, none⟩ = some (.int .i64 l1) := blk_cell n3_ 1
   have hc2_ : w9.drew.cell? ⟨(w.heap.size + 1 + 1 + 1), 2, none⟩ = some (.int .i64 l2) := blk_cell n3_ 2
   have hc3_ : w9.drew.cell? ⟨(w.heap.size + 1 + 1 + 1), 3, none⟩ = some (.int .i64 l3) := blk_cell n3_ 3
   have hc4_ : w9.drew.cell? ⟨(w.heap.size + 1 + 1 + 1), 4, none⟩ = some (.int .i64 l4) := blk_cell n3_ 4
   have hc5_ : w9.drew.cell? ⟨(w.heap.size + 1 + 1 + 1), 5, none⟩ = some (.int .i64 l5) := blk_cell n3_ 5
   have hc6_ : w9.drew.cell? ⟨(w.heap.size + 1 + 1 + 1), 6, none⟩ = some (.int .i64 l6) := blk_cell n3_ 6
   have hc7_ : w9.drew.cell? ⟨(w.heap.size + 1 + 1 + 1), 7, none⟩ = some (.int .i64 l7) := blk_cell n3_ 7
   refine bodyPost_ret (v := .tuple #[.slice none 0 0, .agg #[.int .i64 l0, .int .i64 l1, .int .i64 l2, .int .i64 l3, .int .i64 l4, .int .i64 l5, .int .i64 l6, .int .i64 l7], .bool false]) (by simp [results, Try.results30, go_sem, hc0_, hc1_, hc2_, hc3_, hc4_, hc5_, hc6_, hc7_]) rfl ?_
   exact .inl ⟨HS2.out, _, _, _, _, _, _, _, _, _, rfl, pw_below_drewN n5_ 1⟩
  have d1 : (t == 0) = false := beq_eq_false_iff_ne.mpr hi
  have HS1 := Aside0.mk (HS.out.trans (if_neg hi))
  clear HS
  have HS := Aside0.mk (HS1.out.trans (push32 t))
  clear HS1 hi
  go_upto_region 61 with ((with_reducible refine gate_builtin (b := .append) (xs := #[.tmp 146, .tmp 151]) rfl ?_); at_builtin; refine stk_append w4.heap.size rfl (.tmp 146) (.tmp 151) rfl _ ks t rfl rfl HT.out HD.out.n (by have := HL.out; omega) ?_; intro v1 wz hv1 hb1; obtain ⟨A1, c1, hv2, _⟩ := hv1.read.slice; subst hv2; have n0_ := Aside0.mk (HD.out.hold hb1); have n1_ := Aside0.mk hv1; clear HD HT hv1 hb1 hx0 hx1; have HD := n0_; have HT := n1_; clear n0_ n1_; have hx0 : _ = some (Value.int .i64 8) := blk_cell HD.out.x 0; have hx1 : _ = some (Value.int .i64 (a : Int)) := blk_cell HD.out.x 1)
  obtain ⟨r, hr⟩ : ∃ r, r = ks ++ [t] := ⟨_, rfl⟩
  rw [← hr] at HT HS
  rw [show ks.length + 1 = r.length by rw [hr, List.length_append]; rfl]
  clear hr
  go_upto_region 62 with (go_at_call 52; refine (HQC.out _).mono ?_; rintro e wq ⟨rfl, ⟨nq, rfl⟩⟩)
  have n0_ := HD.out.step (pw_below_drewN (Below.refl _ _) nq)
  have n1_ := HT.out.below (pw_below_drewN (Below.refl _ _) nq)
  clear hx0 hx1 HQC HD HT
  have HD := Aside0.mk n0_
  have HT := Aside0.mk n1_
  clear n0_ n1_
  generalize wz.drewN nq = wt at HD HT ⊢
  go_wp2
  go_loopg [13, 20] 2 (fun kq v13 v20 w' => v13 = .slice A1 r.length c1 ∧ v20 = .int .i64 0 ∧ w' = wt)
  case atStart => exact ⟨rfl, rfl, rfl⟩
  case round =>
   obtain ⟨rfl, rfl, rfl⟩ := hrel
   have hl0_ : _ = some (Value.int .i64 l0) := blk_cell HD.out.lo 0
   have hr0_ : _ = some (Value.int .i64 0) := blk_cell HD.out.rb 0
   have hf0_ := blk_frozen HD.out.rb 0
   have hl1_ : _ = some (Value.int .i64 l1) := blk_cell HD.out.lo 1
   have hr1_ : _ = some (Value.int .i64 0) := blk_cell HD.out.rb 1
   have hf1_ := blk_frozen HD.out.rb 1
   have hl2_ : _ = some (Value.int .i64 l2) := blk_cell HD.out.lo 2
   have hr2_ : _ = some (Value.int .i64 0) := blk_cell HD.out.rb 2
   have hf2_ := blk_frozen HD.out.rb 2
   have hl3_ : _ = some (Value.int .i64 l3) := blk_cell HD.out.lo 3
   have hr3_ : _ = some (Value.int .i64 0) := blk_cell HD.out.rb 3
   have hf3_ := blk_frozen HD.out.rb 3
   have hl4_ : _ = some (Value.int .i64 l4) := blk_cell HD.out.lo 4
   have hr4_ : _ = some (Value.int .i64 0) := blk_cell HD.out.rb 4
   have hf4_ := blk_frozen HD.out.rb 4
   have hl5_ : _ = some (Value.int .i64 l5) := blk_cell HD.out.lo 5
   have hr5_ : _ = some (Value.int .i64 0) := blk_cell HD.out.rb 5
   have hf5_ := blk_frozen HD.out.rb 5
   have hl6_ : _ = some (Value.int .i64 l6) := blk_cell HD.out.lo 6
   have hr6_ : _ = some (Value.int .i64 0) := blk_cell HD.out.rb 6
   have hf6_ := blk_frozen HD.out.rb 6
   have hl7_ : _ = some (Value.int .i64 l7) := blk_cell HD.out.lo 7
   have hr7_ : _ = some (Value.int .i64 0) := blk_cell HD.out.rb 7
   have hf7_ := blk_frozen HD.out.rb 7
   by_cases hq : r.length ≤ 32
   ·have d9 : decide ((r.length : Int) ≤ 32) = true := decide_eq_true (by omega)
    have HS2 := Aside0.mk (HS.out.trans (if_pos hq))
    clear hq
    go_wp2
    repeat (go_region; try go_wp2)
    obtain ⟨n3_, n4_, n5_⟩ := fill8 HD.out.rb l0 l1 l2 l3 l4 l5 l6 l7
    have n5_ := n5_ w HD.out.b (by omega)
    generalize ((((((((wr.setCell ⟨(w.heap.size + 1 + 1 + 1), 0, none⟩ (.int .i64 l0)).setCell ⟨(w.heap.size + 1 + 1 + 1), 1, none⟩ (.int .i64 l1)).setCell ⟨(w.heap.size + 1 + 1 + 1), 2, none⟩ (.int .i64 l2)).setCell ⟨(w.heap.size + 1 + 1 + 1), 3, none⟩ (.int .i64 l3)).setCell ⟨(w.heap.size + 1 + 1 + 1), 4, none⟩ (.int .i64 l4)).setCell ⟨(w.heap.size + 1 + 1 + 1), 5, none⟩ (.int .i64 l5)).setCell ⟨(w.heap.size + 1 + 1 + 1), 6, none⟩ (.int .i64 l6)).setCell ⟨(w.heap.size + 1 + 1 + 1), 7, none⟩ (.int .i64 l7)) = w9 at n3_ n4_ n5_ ⊢
    have hc0_ : w9.drew.cell? ⟨(w.heap.size + 1 + 1 + 1), 0, none⟩ = some (.int .i64 l0) := blk_cell n3_ 0
    have hc1_ : w9.drew.cell? ⟨(w.heap.size + 1 + 1 + 1), 1, none⟩ = some (.int .i64 l1) := blk_cell n3_ 1
    have hc2_ : w9.drew.cell? ⟨(w.heap.size + 1 + 1 + 1), 2, none⟩ = some (.int .i64 l2) := blk_cell n3_ 2
    have hc3_ : w9.drew.cell? ⟨(w.heap.size + 1 + 1 + 1), 3, none⟩ = some (.int .i64 l3) := blk_cell n3_ 3
    have hc4_ : w9.drew.cell? ⟨(w.heap.size + 1 + 1 + 1), 4, none⟩ = some (.int .i64 l4) := blk_cell n3_ 4
    have hc5_ : w9.drew.cell? ⟨(w.heap.size + 1 + 1 + 1), 5, none⟩ = some (.int .i64 l5) := blk_cell n3_ 5
    have hc6_ : w9.drew.cell? ⟨(w.heap.size + 1 + 1 + 1), 6, none⟩ = some (.int .i64 l6) := blk_cell n3_ 6
    have hc7_ : w9.drew.cell? ⟨(w.heap.size + 1 + 1 + 1), 7, none⟩ = some (.int .i64 l7) := blk_cell n3_ 7
    refine bodyPost_ret (v := .tuple #[.slice A1 r.length c1, .agg #[.int .i64 l0, .int .i64 l1, .int .i64 l2, .int .i64 l3, .int .i64 l4, .int .i64 l5, .int .i64 l6, .int .i64 l7], .bool true]) (by simp [results, Try.results30, go_sem, hc0_, hc1_, hc2_, hc3_, hc4_, hc5_, hc6_, hc7_]) rfl ?_
    exact .inr ⟨_, _, _, HS2.out, rfl, (n4_ _ _ HT.out.read).below (pw_below_drewN (Below.refl _ _) 1), pw_below_drewN n5_ 1⟩
   have d9 : decide ((r.length : Int) ≤ 32) = false := decide_eq_false (by omega)
   have HS2 := Aside0.mk (HS.out.trans (if_neg hq))
   clear hq
   go_wp2
   repeat (go_region; try go_wp2)
   obtain ⟨n3_, n4_, n5_⟩ := fill8 HD.out.rb l0 l1 l2 l3 l4 l5 l6 l7
   have n5_ := n5_ w HD.out.b (by omega)
   generalize ((((((((wr.setCell ⟨(w.heap.size + 1 + 1 + 1), 0, none⟩ (.int .i64 l0)).setCell ⟨(w.heap.size + 1 + 1 + 1), 1, none⟩ (.int .i64 l1)).setCell ⟨(w.heap.size + 1 + 1 + 1), 2, none⟩ (.int .i64 l2)).setCell ⟨(w.heap.size + 1 + 1 + 1), 3, none⟩ (.int .i64 l3)).setCell ⟨(w.heap.size + 1 + 1 + 1), 4, none⟩ (.int .i64 l4)).setCell ⟨(w.heap.size + 1 + 1 + 1), 5, none⟩ (.int .i64 l5)).setCell ⟨(w.heap.size + 1 + 1 + 1), 6, none⟩ (.int .i64 l6)).setCell ⟨(w.heap.size + 1 + 1 + 1), 7, none⟩ (.int .i64 l7)) = w9 at n3_ n4_ n5_ ⊢
   have hc0_ : w9.drew.cell? ⟨(w.heap.size + 1 + 1 + 1), 0, none⟩ = some (.int .i64 l0) := blk_cell n3_ 0
   have hc1_ : w9.drew.cell? ⟨(w.heap.size + 1 + 1 + 1), 1, none⟩ = some (.int .i64 l1) := blk_cell n3_ 1
   have hc2_ : w9.drew.cell? ⟨(w.heap.size + 1 + 1 + 1), 2, none⟩ = some (.int .i64 l2) := blk_cell n3_ 2
   have hc3_ : w9.drew.cell? ⟨(w.heap.size + 1 + 1 + 1), 3, none⟩ = some (.int .i64 l3) := blk_cell n3_ 3
   have hc4_ : w9.drew.cell? ⟨(w.heap.size + 1 + 1 + 1), 4, none⟩ = some (.int .i64 l4) := blk_cell n3_ 4
   have hc5_ : w9.drew.cell? ⟨(w.heap.size + 1 + 1 + 1), 5, none⟩ = some (.int .i64 l5) := blk_cell n3_ 5
   have hc6_ : w9.drew.cell? ⟨(w.heap.size + 1 + 1 + 1), 6, none⟩ = some (.int .i64 l6) := blk_cell n3_ 6
   have hc7_ : w9.drew.cell? ⟨(w.heap.size + 1 + 1 + 1), 7, none⟩ = some (.int .i64 l7) := blk_cell n3_ 7
   refine bodyPost_ret (v := .tuple #[.slice A1 r.length c1, .agg #[.int .i64 l0, .int .i64 l1, .int .i64 l2, .int .i64 l3, .int .i64 l4, .int .i64 l5, .int .i64 l6, .int .i64 l7], .bool false]) (by simp [results, Try.results30, go_sem, hc0_, hc1_, hc2_, hc3_, hc4_, hc5_, hc6_, hc7_]) rfl ?_
   exact .inl ⟨HS2.out, _, _, _, _, _, _, _, _, _, rfl, pw_below_drewN n5_ 1⟩
end Beh8
end Go.Proofs.Ytcpcpmojallcdaa.QLoomChecks
