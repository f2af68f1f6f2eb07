/- LoomChecks: Beh0 Beh4. Conditions: as each theorem says. -/
import Derived.Test.YtcpcpmojallcdaaLcQ
import Derived.Test.YtcpcpmojallcdaaLcGM
namespace Go.Proofs.Ytcpcpmojallcdaa.QLoomChecks
open Go.RowKit Go.Proofs.YtcpcpmojallcdaaW.PrintWords Go.Proofs.YtcpcpmojallcdaaW.PrintLast Go.Proofs.YtcpcpmojallcdaaW.PrintMore
set_option linter.unusedVariables false
set_option linter.unusedSimpArgs false
section Beh0
set_option maxHeartbeats 8000000 in
set_option maxRecDepth 100000 in
theorem beh0R (words s0 s1 s2 s3 s4 s5 s6 s7 g0 g1 g2 g3 g4 g5 g6 g7 t0 t1 t2 t3 ma mb sa na sb nb : Int) (both : Bool) (h0 h1 h2 h3 h4 : Value) (hand l0 l1 l2 l3 l4 l5 l6 l7 : Int) (v : Value) (ks : List Int) (a : Nat) (w : World) (hv : StkR w v ks) (hl : ks.length ≤ 32) :
  Calls Try.prog 30 #[.agg #[.int .i64 words, .int .i64 s0, .int .i64 s1, .int .i64 s2, .int .i64 s3, .int .i64 s4, .int .i64 s5, .int .i64 s6, .int .i64 s7, .int .i64 g0, .int .i64 g1, .int .i64 g2, .int .i64 g3, .int .i64 g4, .int .i64 g5, .int .i64 g6, .int .i64 g7, .int .i64 t0, .int .i64 t1, .int .i64 t2, .int .i64 t3, .int .i64 ma, .int .i64 mb, .int .i64 sa, .int .i64 na, .int .i64 sb, .int .i64 nb, .bool both, h0, h1, h2, h3, h4], .int .i64 hand, .agg #[.int .i64 0, .int .i64 (a : Int)], v, .agg #[.int .i64 l0, .int .i64 l1, .int .i64 l2, .int .i64 l3, .int .i64 l4, .int .i64 l5, .int .i64 l6, .int .i64 l7]] w fun e w' => (afterP (resP hand ma mb) [s0, s1, s2, s3, s4, s5, s6, s7] [g0, g1, g2, g3, g4, g5, g6, g7] [t0, t1, t2, t3] (kindsOf (tabP 0)) (kindsOf (tabQ 0)) (tabS 0) 0 a ks [l0, l1, l2, l3, l4, l5, l6, l7] = none ∧ ∃ (v' : Value) (n0 n1 n2 n3 n4 n5 n6 n7 : Int), e = .returned (.tuple #[v', .agg #[.int .i64 n0, .int .i64 n1, .int .i64 n2, .int .i64 n3, .int .i64 n4, .int .i64 n5, .int .i64 n6, .int .i64 n7], .bool false]) ∧ Below w.heap.size w w') ∨ ∃ s' lo' v', afterP (resP hand ma mb) [s0, s1, s2, s3, s4, s5, s6, s7] [g0, g1, g2, g3, g4, g5, g6, g7] [t0, t1, t2, t3] (kindsOf (tabP 0)) (kindsOf (tabQ 0)) (tabS 0) 0 a ks [l0, l1, l2, l3, l4, l5, l6, l7] = some (s', lo') ∧ e = .returned (.tuple #[v', .agg (nums .i64 lo').toArray, .bool true]) ∧ StkR w' v' s' ∧ Below w.heap.size w w' := by
 have n0_ := blk_alloc (blk_alloc (blk_alloc (heap_alloc_new w (.cells #[.int .i64 words, .int .i64 s0, .int .i64 s1, .int .i64 s2, .int .i64 s3, .int .i64 s4, .int .i64 s5, .int .i64 s6, .int .i64 s7, .int .i64 g0, .int .i64 g1, .int .i64 g2, .int .i64 g3, .int .i64 g4, .int .i64 g5, .int .i64 g6, .int .i64 g7, .int .i64 t0, .int .i64 t1, .int .i64 t2, .int .i64 t3, .int .i64 ma, .int .i64 mb, .int .i64 sa, .int .i64 na, .int .i64 sb, .int .i64 nb, .bool both, h0, h1, h2, h3, h4] 31)) (.cells #[.int .i64 0, .int .i64 (a : Int)] 42)) (.cells #[.int .i64 l0, .int .i64 l1, .int .i64 l2, .int .i64 l3, .int .i64 l4, .int .i64 l5, .int .i64 l6, .int .i64 l7] 23)) (.cells #[.int .i64 0, .int .i64 0, .int .i64 0, .int .i64 0, .int .i64 0, .int .i64 0, .int .i64 0, .int .i64 0] 23)
 have n1_ := blk_alloc (blk_alloc (heap_alloc_new (w.alloc (.cells #[.int .i64 words, .int .i64 s0, .int .i64 s1, .int .i64 s2, .int .i64 s3, .int .i64 s4, .int .i64 s5, .int .i64 s6, .int .i64 s7, .int .i64 g0, .int .i64 g1, .int .i64 g2, .int .i64 g3, .int .i64 g4, .int .i64 g5, .int .i64 g6, .int .i64 g7, .int .i64 t0, .int .i64 t1, .int .i64 t2, .int .i64 t3, .int .i64 ma, .int .i64 mb, .int .i64 sa, .int .i64 na, .int .i64 sb, .int .i64 nb, .bool both, h0, h1, h2, h3, h4] 31)) (.cells #[.int .i64 0, .int .i64 (a : Int)] 42)) (.cells #[.int .i64 l0, .int .i64 l1, .int .i64 l2, .int .i64 l3, .int .i64 l4, .int .i64 l5, .int .i64 l6, .int .i64 l7] 23)) (.cells #[.int .i64 0, .int .i64 0, .int .i64 0, .int .i64 0, .int .i64 0, .int .i64 0, .int .i64 0, .int .i64 0] 23)
 have n2_ := blk_alloc (heap_alloc_new ((w.alloc (.cells #[.int .i64 words, .int .i64 s0, .int .i64 s1, .int .i64 s2, .int .i64 s3, .int .i64 s4, .int .i64 s5, .int .i64 s6, .int .i64 s7, .int .i64 g0, .int .i64 g1, .int .i64 g2, .int .i64 g3, .int .i64 g4, .int .i64 g5, .int .i64 g6, .int .i64 g7, .int .i64 t0, .int .i64 t1, .int .i64 t2, .int .i64 t3, .int .i64 ma, .int .i64 mb, .int .i64 sa, .int .i64 na, .int .i64 sb, .int .i64 nb, .bool both, h0, h1, h2, h3, h4] 31)).alloc (.cells #[.int .i64 0, .int .i64 (a : Int)] 42)) (.cells #[.int .i64 l0, .int .i64 l1, .int .i64 l2, .int .i64 l3, .int .i64 l4, .int .i64 l5, .int .i64 l6, .int .i64 l7] 23)) (.cells #[.int .i64 0, .int .i64 0, .int .i64 0, .int .i64 0, .int .i64 0, .int .i64 0, .int .i64 0, .int .i64 0] 23)
 have n3_ := heap_alloc_new (((w.alloc (.cells #[.int .i64 words, .int .i64 s0, .int .i64 s1, .int .i64 s2, .int .i64 s3, .int .i64 s4, .int .i64 s5, .int .i64 s6, .int .i64 s7, .int .i64 g0, .int .i64 g1, .int .i64 g2, .int .i64 g3, .int .i64 g4, .int .i64 g5, .int .i64 g6, .int .i64 g7, .int .i64 t0, .int .i64 t1, .int .i64 t2, .int .i64 t3, .int .i64 ma, .int .i64 mb, .int .i64 sa, .int .i64 na, .int .i64 sb, .int .i64 nb, .bool both, h0, h1, h2, h3, h4] 31)).alloc (.cells #[.int .i64 0, .int .i64 (a : Int)] 42)).alloc (.cells #[.int .i64 l0, .int .i64 l1, .int .i64 l2, .int .i64 l3, .int .i64 l4, .int .i64 l5, .int .i64 l6, .int .i64 l7] 23)) (.cells #[.int .i64 0, .int .i64 0, .int .i64 0, .int .i64 0, .int .i64 0, .int .i64 0, .int .i64 0, .int .i64 0] 23)
 simp only [World.size_alloc] at n1_ n2_ n3_
 have n4_ := below_alloc (below_alloc (below_alloc (below_alloc (Below.refl w.heap.size w) (.cells #[.int .i64 words, .int .i64 s0, .int .i64 s1, .int .i64 s2, .int .i64 s3, .int .i64 s4, .int .i64 s5, .int .i64 s6, .int .i64 s7, .int .i64 g0, .int .i64 g1, .int .i64 g2, .int .i64 g3, .int .i64 g4, .int .i64 g5, .int .i64 g6, .int .i64 g7, .int .i64 t0, .int .i64 t1, .int .i64 t2, .int .i64 t3, .int .i64 ma, .int .i64 mb, .int .i64 sa, .int .i64 na, .int .i64 sb, .int .i64 nb, .bool both, h0, h1, h2, h3, h4] 31)) (.cells #[.int .i64 0, .int .i64 (a : Int)] 42)) (.cells #[.int .i64 l0, .int .i64 l1, .int .i64 l2, .int .i64 l3, .int .i64 l4, .int .i64 l5, .int .i64 l6, .int .i64 l7] 23)) (.cells #[.int .i64 0, .int .i64 0, .int .i64 0, .int .i64 0, .int .i64 0, .int .i64 0, .int .i64 0, .int .i64 0] 23)
 have HVR := Aside0.mk (hv.below n4_)
 have n5_ := Nat.le_of_eq (World.size_alloc (((w.alloc (.cells #[.int .i64 words, .int .i64 s0, .int .i64 s1, .int .i64 s2, .int .i64 s3, .int .i64 s4, .int .i64 s5, .int .i64 s6, .int .i64 s7, .int .i64 g0, .int .i64 g1, .int .i64 g2, .int .i64 g3, .int .i64 g4, .int .i64 g5, .int .i64 g6, .int .i64 g7, .int .i64 t0, .int .i64 t1, .int .i64 t2, .int .i64 t3, .int .i64 ma, .int .i64 mb, .int .i64 sa, .int .i64 na, .int .i64 sb, .int .i64 nb, .bool both, h0, h1, h2, h3, h4] 31)).alloc (.cells #[.int .i64 0, .int .i64 (a : Int)] 42)).alloc (.cells #[.int .i64 l0, .int .i64 l1, .int .i64 l2, .int .i64 l3, .int .i64 l4, .int .i64 l5, .int .i64 l6, .int .i64 l7] 23)) (.cells #[.int .i64 0, .int .i64 0, .int .i64 0, .int .i64 0, .int .i64 0, .int .i64 0, .int .i64 0, .int .i64 0] 23)).symm
 simp only [World.size_alloc] at n5_
 have HD := Aside0.mk (show DQ w ((((w.alloc (.cells #[.int .i64 words, .int .i64 s0, .int .i64 s1, .int .i64 s2, .int .i64 s3, .int .i64 s4, .int .i64 s5, .int .i64 s6, .int .i64 s7, .int .i64 g0, .int .i64 g1, .int .i64 g2, .int .i64 g3, .int .i64 g4, .int .i64 g5, .int .i64 g6, .int .i64 g7, .int .i64 t0, .int .i64 t1, .int .i64 t2, .int .i64 t3, .int .i64 ma, .int .i64 mb, .int .i64 sa, .int .i64 na, .int .i64 sb, .int .i64 nb, .bool both, h0, h1, h2, h3, h4] 31)).alloc (.cells #[.int .i64 0, .int .i64 (a : Int)] 42)).alloc (.cells #[.int .i64 l0, .int .i64 l1, .int .i64 l2, .int .i64 l3, .int .i64 l4, .int .i64 l5, .int .i64 l6, .int .i64 l7] 23)).alloc (.cells #[.int .i64 0, .int .i64 0, .int .i64 0, .int .i64 0, .int .i64 0, .int .i64 0, .int .i64 0, .int .i64 0] 23)).heap.size words s0 s1 s2 s3 s4 s5 s6 s7 g0 g1 g2 g3 g4 g5 g6 g7 t0 t1 t2 t3 ma mb sa na sb nb both h0 h1 h2 h3 h4 0 a l0 l1 l2 l3 l4 l5 l6 l7 ((((w.alloc (.cells #[.int .i64 words, .int .i64 s0, .int .i64 s1, .int .i64 s2, .int .i64 s3, .int .i64 s4, .int .i64 s5, .int .i64 s6, .int .i64 s7, .int .i64 g0, .int .i64 g1, .int .i64 g2, .int .i64 g3, .int .i64 g4, .int .i64 g5, .int .i64 g6, .int .i64 g7, .int .i64 t0, .int .i64 t1, .int .i64 t2, .int .i64 t3, .int .i64 ma, .int .i64 mb, .int .i64 sa, .int .i64 na, .int .i64 sb, .int .i64 nb, .bool both, h0, h1, h2, h3, h4] 31)).alloc (.cells #[.int .i64 0, .int .i64 (a : Int)] 42)).alloc (.cells #[.int .i64 l0, .int .i64 l1, .int .i64 l2, .int .i64 l3, .int .i64 l4, .int .i64 l5, .int .i64 l6, .int .i64 l7] 23)).alloc (.cells #[.int .i64 0, .int .i64 0, .int .i64 0, .int .i64 0, .int .i64 0, .int .i64 0, .int .i64 0, .int .i64 0] 23)) from ⟨n0_, n1_, n2_, n3_, n4_, Nat.le_refl _, by simp only [World.size_alloc]; omega⟩)
 have HL := Aside0.mk hl
 obtain ⟨Av, cv, hvv, _⟩ := hv.slice
 subst hvv
 clear hv n0_ n1_ n2_ n3_ n4_ n5_
 go_enter Try.func30, Try.ntmps30
 go_upto_region 2 with (fail)
 generalize ((((w.alloc (.cells #[.int .i64 words, .int .i64 s0, .int .i64 s1, .int .i64 s2, .int .i64 s3, .int .i64 s4, .int .i64 s5, .int .i64 s6, .int .i64 s7, .int .i64 g0, .int .i64 g1, .int .i64 g2, .int .i64 g3, .int .i64 g4, .int .i64 g5, .int .i64 g6, .int .i64 g7, .int .i64 t0, .int .i64 t1, .int .i64 t2, .int .i64 t3, .int .i64 ma, .int .i64 mb, .int .i64 sa, .int .i64 na, .int .i64 sb, .int .i64 nb, .bool both, h0, h1, h2, h3, h4] 31)).alloc (.cells #[.int .i64 0, .int .i64 (a : Int)] 42)).alloc (.cells #[.int .i64 l0, .int .i64 l1, .int .i64 l2, .int .i64 l3, .int .i64 l4, .int .i64 l5, .int .i64 l6, .int .i64 l7] 23)).alloc (.cells #[.int .i64 0, .int .i64 0, .int .i64 0, .int .i64 0, .int .i64 0, .int .i64 0, .int .i64 0, .int .i64 0] 23)) = w4 at HD HVR ⊢
 have HO : Aside0 (w4.ownsRow w4.heap.size 22 1 (.slice none 0 0) ([] : List Int).length (nums .i64 [])) := ⟨own_nil _ _ _ _⟩
 go_upto_region 4 with ((with_reducible refine gate_builtin (b := .append) (xs := #[.tmp 21, .tmp 22]) rfl ?_); at_builtin; refine stk_concat w4.heap.size rfl (.tmp 21) (.tmp 22) rfl _ _ [] ks rfl rfl HO.out HVR.out (Nat.le_refl _) (by simpa using Nat.le_trans HL.out (by decide)) ?_; intro v1 w5 hv1 hb1; rw [List.nil_append] at hv1; obtain ⟨A1, c1, hv2, hlc1⟩ := hv1.read.slice; subst hv2; have HV := Aside0.mk hv1; have HB5 := Aside0.mk hb1; clear hv1 hb1)
 have HD := Aside0.mk (HD.out.step HB5.out)
 clear HVR HO HB5
 have HTP := Aside0.mk (table_ok 0 (by decide)).2.2.2.1
 have HTQ := Aside0.mk (table_ok 0 (by decide)).2.2.2.2
 have HAF := Aside0.mk (show afterP (resP hand ma mb) [s0, s1, s2, s3, s4, s5, s6, s7] [g0, g1, g2, g3, g4, g5, g6, g7] [t0, t1, t2, t3] (kindsOf (tabP 0)) (kindsOf (tabQ 0)) (tabS 0) 0 a ks [l0, l1, l2, l3, l4, l5, l6, l7] = specP (resP hand ma mb) [s0, s1, s2, s3, s4, s5, s6, s7] [g0, g1, g2, g3, g4, g5, g6, g7] [t0, t1, t2, t3] 0 a ks [l0, l1, l2, l3, l4, l5, l6, l7] from aft_spec (by decide) (by decide) (by decide))
 rw [show tabP 0 = (⟨#[]⟩ : ByteArray) from by decide +kernel] at HTP
 rw [show tabQ 0 = (⟨#[]⟩ : ByteArray) from by decide +kernel] at HTQ
 have hx0 : _ = some (Value.int .i64 0) := blk_cell HD.out.x 0
 have HPC := Aside0.mk (fun W => sluiceref11_pops.calls 100 0 (⟨#[]⟩ : ByteArray) W HTP.out)
 have HQC := Aside0.mk (fun W => sluiceref11_pushes.calls 100 0 (⟨#[]⟩ : ByteArray) W HTQ.out)
 go_upto_region 7 with (go_at_call 49; refine (HPC.out _).mono ?_; rintro e w6 ⟨rfl, ⟨nd, rfl⟩⟩)
 have n0_ := HD.out.step (pw_below_drewN (Below.refl _ _) nd)
 have n1_ := HV.out.below (pw_below_drewN (Below.refl _ _) nd)
 clear hx0 HPC HD HV
 have HD := Aside0.mk n0_
 have HV := Aside0.mk n1_
 clear n0_ n1_
 generalize w5.drewN nd = w6 at HD HV ⊢
 go_wp2
 go_loopg [16] 1 (fun kq v16 w' => v16 = .int .i64 0 ∧ w' = w6)
 case atStart => exact ⟨rfl, rfl⟩
 case round =>
  obtain ⟨rfl, rfl⟩ := hrel
  have hx0 : _ = some (Value.int .i64 0) := blk_cell HD.out.x 0
  have hx1 : _ = some (Value.int .i64 (a : Int)) := blk_cell HD.out.x 1
  have hsl : ¬ (c1 : Int) < (ks.length : Int) := by omega
  have HT := Aside0.mk (HV.out.take ks.length (Nat.le_refl _))
  rw [List.take_length] at HT
  clear HV
  have HS := Aside0.mk (HAF.out.trans (show specP (resP hand ma mb) [s0, s1, s2, s3, s4, s5, s6, s7] [g0, g1, g2, g3, g4, g5, g6, g7] [t0, t1, t2, t3] 0 a ks [l0, l1, l2, l3, l4, l5, l6, l7] = (if ks = resP hand ma mb then some (ks, [l0, l1, l2, l3, l4, l5, l6, l7]) else none) from rfl))
  clear HAF
  generalize hres : resP hand ma mb = res at HS
  have HCE := Aside0.mk (show ∀ W v, Below wr.heap.size wr W → StkR W v res → Calls Try.prog 32 #[.slice A1 ks.length c1, v] W fun e w' => e = .returned (.bool (decide (ks = res))) ∧ Drawn0 W w' from fun W v hb hv => sameKR W (.slice A1 ks.length c1) v ks _ (HT.out.read.below hb) hv (by have := HL.out; omega))
  obtain ⟨dq, hdq⟩ : ∃ x, x = decide (ks = res) := ⟨_, rfl⟩
  rw [← hdq] at HCE
  have HDQ := Aside0.mk hdq
  clear hdq
  have HDd := HD.out.step (below_drew (Below.refl wr.heap.size wr))
  go_wp2
  refine start_ (n := 10) (S := fun w' => DQ w w4.heap.size words s0 s1 s2 s3 s4 s5 s6 s7 g0 g1 g2 g3 g4 g5 g6 g7 t0 t1 t2 t3 ma mb sa na sb nb both h0 h1 h2 h3 h4 0 a l0 l1 l2 l3 l4 l5 l6 l7 w') (ds := [8]) #[false, false, false, false, false, false, false, false, false, false] (by kernel_rfl) rfl rfl (HDd) (fun hHeld => ?_)
  refine pure_ (i := 0) (N := some 67) (v := ?_) (a' := ?_) #[true, false, false, false, false, false, false, false, false, false] rfl rfl (by kernel_rfl) (fun _ _ _ h => h) (Or.inl ⟨by rfl, ?_⟩) ?_ ?_
  rotate_left
  ·intro w'
   go_simp
   with_reducible rfl
  rotate_left
  ·simp only [Act.put, List.setIfInBounds_toArray, List.set_cons_zero, List.set_cons_succ, i64_w]
   rfl
  refine pure_ (i := 2) (N := some 69) (v := ?_) (a' := ?_) #[true, false, true, false, false, false, false, false, false, false] rfl rfl (by kernel_rfl) (fun _ _ _ h => h) (Or.inl ⟨by rfl, ?_⟩) ?_ ?_
  rotate_left
  ·intro w'
   go_simp
   with_reducible rfl
  rotate_left
  ·simp only [Act.put, List.setIfInBounds_toArray, List.set_cons_zero, List.set_cons_succ, i64_w]
   rfl
  refine pure_ (i := 4) (N := some 71) (v := ?_) (a' := ?_) #[true, false, true, false, true, false, false, false, false, false] rfl rfl (by kernel_rfl) (fun _ _ _ h => h) (Or.inl ⟨by rfl, ?_⟩) ?_ ?_
  rotate_left
  ·intro w'
   go_simp
   with_reducible rfl
  rotate_left
  ·simp only [Act.put, List.setIfInBounds_toArray, List.set_cons_zero, List.set_cons_succ, i64_w]
   rfl
  refine take_ (i := 1) (N := some 68) (v := ?_) (a' := ?_) #[true, true, true, false, true, false, false, false, false, false] rfl rfl (by kernel_rfl) (fun _ _ _ h => h) (Or.inl ⟨by rfl, ?_⟩) hHeld ?_ ?_
  rotate_left
  ·intro w' sq_
   refine exec_load23 (.tmp 9) ?_ ?_ sq_.lo
   ·rfl
   rfl
  rotate_left
  ·simp only [Act.put, List.setIfInBounds_toArray, List.set_cons_zero, List.set_cons_succ, i64_w]
   rfl
  refine take_ (i := 3) (N := some 70) (v := ?_) (a' := ?_) #[true, true, true, true, true, false, false, false, false, false] rfl rfl (by kernel_rfl) (fun _ _ _ h => h) (Or.inl ⟨by rfl, ?_⟩) hHeld ?_ ?_
  rotate_left
  ·intro w' sq_
   refine exec_load31 (.tmp 5) ?_ ?_ sq_.c
   ·rfl
   rfl
  rotate_left
  ·simp only [Act.put, List.setIfInBounds_toArray, List.set_cons_zero, List.set_cons_succ, i64_w]
   rfl
  refine one_ (i := 5) (N := some 72) #[true, true, true, true, true, true, false, false, false, false] rfl rfl (by kernel_rfl) (by decide) (fun K hK => ?_)
  refine goes_ Try.func51 (by kernel_rfl) rfl #[.agg #[.int .i64 words, .int .i64 s0, .int .i64 s1, .int .i64 s2, .int .i64 s3, .int .i64 s4, .int .i64 s5, .int .i64 s6, .int .i64 s7, .int .i64 g0, .int .i64 g1, .int .i64 g2, .int .i64 g3, .int .i64 g4, .int .i64 g5, .int .i64 g6, .int .i64 g7, .int .i64 t0, .int .i64 t1, .int .i64 t2, .int .i64 t3, .int .i64 ma, .int .i64 mb, .int .i64 sa, .int .i64 na, .int .i64 sb, .int .i64 nb, .bool both, h0, h1, h2, h3, h4], .int .i64 hand] (by rfl) rfl rfl (by simp only [List.map_toArray, List.map_cons, List.map_nil]; rfl) ?_
  with_reducible refine ((resultsQR words s0 s1 s2 s3 s4 s5 s6 s7 g0 g1 g2 g3 g4 g5 g6 g7 t0 t1 t2 t3 ma mb sa na sb nb both h0 h1 h2 h3 h4 hand _)).mono ?_
  rintro e w2 ⟨v2, rfl, hv, hb⟩
  refine ⟨_, rfl, ?_⟩
  have HB2 := below_step (below_drew (Below.refl wr.heap.size wr)) hb
  have HD2 := HD.out.step HB2
  rw [hres] at hv
  refine hK.out _ _ (HD2) (fun hHeld => ?_)
  clear hK K
  refine norm_ (a' := ?_) ?_ ?_
  rotate_left
  ·show Act.put _ (some 72) _ = _
   simp only [Act.put, List.setIfInBounds_toArray, List.set_cons_zero, List.set_cons_succ, i64_w]
   rfl
  refine one_ (i := 6) (N := some 73) #[true, true, true, true, true, true, true, false, false, false] rfl rfl (by kernel_rfl) (by decide) (fun K hK => ?_)
  refine goes_ Try.func32 (by kernel_rfl) rfl #[.slice A1 ks.length c1, v2] (by rfl) rfl rfl (by simp only [List.map_toArray, List.map_cons, List.map_nil]; rfl) ?_
  with_reducible refine ((HCE.out _ _ HB2 hv)).mono ?_
  rintro e w3 ⟨rfl, ⟨nd, rfl⟩⟩
  refine ⟨_, rfl, ?_⟩
  have HB3 := pw_below_drewN HB2 nd
  have HD3 := HD.out.step HB3
  have hr0 : _ = some (Value.int .i64 0) := blk_cell HD3.rb 0
  have hr1 : _ = some (Value.int .i64 0) := blk_cell HD3.rb 1
  have hr2 : _ = some (Value.int .i64 0) := blk_cell HD3.rb 2
  have hr3 : _ = some (Value.int .i64 0) := blk_cell HD3.rb 3
  have hr4 : _ = some (Value.int .i64 0) := blk_cell HD3.rb 4
  have hr5 : _ = some (Value.int .i64 0) := blk_cell HD3.rb 5
  have hr6 : _ = some (Value.int .i64 0) := blk_cell HD3.rb 6
  have hr7 : _ = some (Value.int .i64 0) := blk_cell HD3.rb 7
  have hf0 := blk_frozen HD3.rb 0
  have hf1 := blk_frozen HD3.rb 1
  have hf2 := blk_frozen HD3.rb 2
  have hf3 := blk_frozen HD3.rb 3
  have hf4 := blk_frozen HD3.rb 4
  have hf5 := blk_frozen HD3.rb 5
  have hf6 := blk_frozen HD3.rb 6
  have hf7 := blk_frozen HD3.rb 7
  refine hK.out _ _ (HD3) (fun hHeld => ?_)
  clear hK K
  refine norm_ (a' := ?_) ?_ ?_
  rotate_left
  ·show Act.put _ (some 73) _ = _
   simp only [Act.put, List.setIfInBounds_toArray, List.set_cons_zero, List.set_cons_succ, i64_w]
   rfl
  refine pure_ (i := 7) (N := some 10) (v := ?_) (a' := ?_) #[true, true, true, true, true, true, true, true, false, false] rfl rfl (by kernel_rfl) (fun _ _ _ h => h) (Or.inl ⟨by rfl, ?_⟩) ?_ ?_
  rotate_left
  ·intro w'
   go_simp
   with_reducible rfl
  rotate_left
  ·simp only [Act.put, List.setIfInBounds_toArray, List.set_cons_zero, List.set_cons_succ, i64_w]
   rfl
  refine last_ (i := 8) (N := none) #[true, true, true, true, true, true, true, true, true, false] rfl rfl (by kernel_rfl) (by decide) (fun K hK => ?_)
  refine skip_ (w1 := ?_) (by rfl) rfl ?_ ?_
  rotate_left
  ·go_simp
   rfl
  refine hK.out _ _ ?_
  clear hK K
  refine pure_ (i := 9) (N := some 12) (v := ?_) (a' := ?_) #[true, true, true, true, true, true, true, true, true, true] rfl rfl (by kernel_rfl) (fun _ _ _ h => h) (Or.inl ⟨by rfl, ?_⟩) ?_ ?_
  rotate_left
  ·intro w'
   go_simp
   with_reducible rfl
  rotate_left
  ·simp only [Act.put, List.setIfInBounds_toArray, List.set_cons_zero, List.set_cons_succ, i64_w]
   rfl
  refine done_ (by kernel_rfl) ?_

  go_wp2
  have HTR := HT.out.read.below HB3
  obtain ⟨n3_, n4_, n5_⟩ := fill8 HD3.rb l0 l1 l2 l3 l4 l5 l6 l7
  have n5_ := n5_ w HD3.b (by omega)
  have n6_ := n4_ _ _ HTR
  generalize (((((((((w2.drewN nd).setCell ⟨(w.heap.size + 1 + 1 + 1), 0, none⟩ (.int .i64 l0)).setCell ⟨(w.heap.size + 1 + 1 + 1), 1, none⟩ (.int .i64 l1)).setCell ⟨(w.heap.size + 1 + 1 + 1), 2, none⟩ (.int .i64 l2)).setCell ⟨(w.heap.size + 1 + 1 + 1), 3, none⟩ (.int .i64 l3)).setCell ⟨(w.heap.size + 1 + 1 + 1), 4, none⟩ (.int .i64 l4)).setCell ⟨(w.heap.size + 1 + 1 + 1), 5, none⟩ (.int .i64 l5)).setCell ⟨(w.heap.size + 1 + 1 + 1), 6, none⟩ (.int .i64 l6)).setCell ⟨(w.heap.size + 1 + 1 + 1), 7, none⟩ (.int .i64 l7)) = w9 at n3_ n4_ n5_ n6_ ⊢
  have hc0_ : w9.cell? ⟨(w.heap.size + 1 + 1 + 1), 0, none⟩ = some (.int .i64 l0) := blk_cell n3_ 0
  have hc1_ : w9.cell? ⟨(w.heap.size + 1 + 1 + 1), 1, none⟩ = some (.int .i64 l1) := blk_cell n3_ 1
  have hc2_ : w9.cell? ⟨(w.heap.size + 1 + 1 + 1), 2, none⟩ = some (.int .i64 l2) := blk_cell n3_ 2
  have hc3_ : w9.cell? ⟨(w.heap.size + 1 + 1 + 1), 3, none⟩ = some (.int .i64 l3) := blk_cell n3_ 3
  have hc4_ : w9.cell? ⟨(w.heap.size + 1 + 1 + 1), 4, none⟩ = some (.int .i64 l4) := blk_cell n3_ 4
  have hc5_ : w9.cell? ⟨(w.heap.size + 1 + 1 + 1), 5, none⟩ = some (.int .i64 l5) := blk_cell n3_ 5
  have hc6_ : w9.cell? ⟨(w.heap.size + 1 + 1 + 1), 6, none⟩ = some (.int .i64 l6) := blk_cell n3_ 6
  have hc7_ : w9.cell? ⟨(w.heap.size + 1 + 1 + 1), 7, none⟩ = some (.int .i64 l7) := blk_cell n3_ 7
  rcases dq with _ | _
  case true =>
   have HS2 := Aside0.mk (HS.out.trans (if_pos (of_decide_eq_true HDQ.out.symm)))
   rw [← hres] at HS2
   refine bodyPost_ret (v := .tuple #[.slice A1 ks.length c1, .agg #[.int .i64 l0, .int .i64 l1, .int .i64 l2, .int .i64 l3, .int .i64 l4, .int .i64 l5, .int .i64 l6, .int .i64 l7], .bool true]) (by simp [results, Try.results30, go_sem, hc0_, hc1_, hc2_, hc3_, hc4_, hc5_, hc6_, hc7_]) rfl ?_
   exact .inr ⟨_, _, _, HS2.out, rfl, n6_, n5_⟩
  case false =>
   have HS2 := Aside0.mk (HS.out.trans (if_neg (of_decide_eq_false HDQ.out.symm)))
   rw [← hres] at HS2
   refine bodyPost_ret (v := .tuple #[.slice A1 ks.length c1, .agg #[.int .i64 l0, .int .i64 l1, .int .i64 l2, .int .i64 l3, .int .i64 l4, .int .i64 l5, .int .i64 l6, .int .i64 l7], .bool false]) (by simp [results, Try.results30, go_sem, hc0_, hc1_, hc2_, hc3_, hc4_, hc5_, hc6_, hc7_]) rfl ?_
   exact .inl ⟨HS2.out, _, _, _, _, _, _, _, _, _, rfl, n5_⟩
end Beh0
section Beh4
set_option maxHeartbeats 8000000 in
set_option maxRecDepth 100000 in
theorem beh4R (words s0 s1 s2 s3 s4 s5 s6 s7 g0 g1 g2 g3 g4 g5 g6 g7 t0 t1 t2 t3 ma mb sa na sb nb : Int) (both : Bool) (h0 h1 h2 h3 h4 : Value) (hand l0 l1 l2 l3 l4 l5 l6 l7 : Int) (v : Value) (ks : List Int) (a : Nat) (w : World) (hv : StkR w v ks) (hl : ks.length ≤ 32) :
  Calls Try.prog 30 #[.agg #[.int .i64 words, .int .i64 s0, .int .i64 s1, .int .i64 s2, .int .i64 s3, .int .i64 s4, .int .i64 s5, .int .i64 s6, .int .i64 s7, .int .i64 g0, .int .i64 g1, .int .i64 g2, .int .i64 g3, .int .i64 g4, .int .i64 g5, .int .i64 g6, .int .i64 g7, .int .i64 t0, .int .i64 t1, .int .i64 t2, .int .i64 t3, .int .i64 ma, .int .i64 mb, .int .i64 sa, .int .i64 na, .int .i64 sb, .int .i64 nb, .bool both, h0, h1, h2, h3, h4], .int .i64 hand, .agg #[.int .i64 4, .int .i64 (a : Int)], v, .agg #[.int .i64 l0, .int .i64 l1, .int .i64 l2, .int .i64 l3, .int .i64 l4, .int .i64 l5, .int .i64 l6, .int .i64 l7]] w fun e w' => (afterP (resP hand ma mb) [s0, s1, s2, s3, s4, s5, s6, s7] [g0, g1, g2, g3, g4, g5, g6, g7] [t0, t1, t2, t3] (kindsOf (tabP 4)) (kindsOf (tabQ 4)) (tabS 4) 4 a ks [l0, l1, l2, l3, l4, l5, l6, l7] = none ∧ ∃ (v' : Value) (n0 n1 n2 n3 n4 n5 n6 n7 : Int), e = .returned (.tuple #[v', .agg #[.int .i64 n0, .int .i64 n1, .int .i64 n2, .int .i64 n3, .int .i64 n4, .int .i64 n5, .int .i64 n6, .int .i64 n7], .bool false]) ∧ Below w.heap.size w w') ∨ ∃ s' lo' v', afterP (resP hand ma mb) [s0, s1, s2, s3, s4, s5, s6, s7] [g0, g1, g2, g3, g4, g5, g6, g7] [t0, t1, t2, t3] (kindsOf (tabP 4)) (kindsOf (tabQ 4)) (tabS 4) 4 a ks [l0, l1, l2, l3, l4, l5, l6, l7] = some (s', lo') ∧ e = .returned (.tuple #[v', .agg (nums .i64 lo').toArray, .bool true]) ∧ StkR w' v' s' ∧ Below w.heap.size w w' := by
 have n0_ := blk_alloc (blk_alloc (blk_alloc (heap_alloc_new w (.cells #[.int .i64 words, .int .i64 s0, .int .i64 s1, .int .i64 s2, .int .i64 s3, .int .i64 s4, .int .i64 s5, .int .i64 s6, .int .i64 s7, .int .i64 g0, .int .i64 g1, .int .i64 g2, .int .i64 g3, .int .i64 g4, .int .i64 g5, .int .i64 g6, .int .i64 g7, .int .i64 t0, .int .i64 t1, .int .i64 t2, .int .i64 t3, .int .i64 ma, .int .i64 mb, .int .i64 sa, .int .i64 na, .int .i64 sb, .int .i64 nb, .bool both, h0, h1, h2, h3, h4] 31)) (.cells #[.int .i64 4, .int .i64 (a : Int)] 42)) (.cells #[.int .i64 l0, .int .i64 l1, .int .i64 l2, .int .i64 l3, .int .i64 l4, .int .i64 l5, .int .i64 l6, .int .i64 l7] 23)) (.cells #[.int .i64 0, .int .i64 0, .int .i64 0, .int .i64 0, .int .i64 0, .int .i64 0, .int .i64 0, .int .i64 0] 23)
 have n1_ := blk_alloc (blk_alloc (heap_alloc_new (w.alloc (.cells #[.int .i64 words, .int .i64 s0, .int .i64 s1, .int .i64 s2, .int .i64 s3, .int .i64 s4, .int .i64 s5, .int .i64 s6, .int .i64 s7, .int .i64 g0, .int .i64 g1, .int .i64 g2, .int .i64 g3, .int .i64 g4, .int .i64 g5, .int .i64 g6, .int .i64 g7, .int .i64 t0, .int .i64 t1, .int .i64 t2, .int .i64 t3, .int .i64 ma, .int .i64 mb, .int .i64 sa, .int .i64 na, .int .i64 sb, .int .i64 nb, .bool both, h0, h1, h2, h3, h4] 31)) (.cells #[.int .i64 4, .int .i64 (a : Int)] 42)) (.cells #[.int .i64 l0, .int .i64 l1, .int .i64 l2, .int .i64 l3, .int .i64 l4, .int .i64 l5, .int .i64 l6, .int .i64 l7] 23)) (.cells #[.int .i64 0, .int .i64 0, .int .i64 0, .int .i64 0, .int .i64 0, .int .i64 0, .int .i64 0, .int .i64 0] 23)
 have n2_ := blk_alloc (heap_alloc_new ((w.alloc (.cells #[.int .i64 words, .int .i64 s0, .int .i64 s1, .int .i64 s2, .int .i64 s3, .int .i64 s4, .int .i64 s5, .int .i64 s6, .int .i64 s7, .int .i64 g0, .int .i64 g1, .int .i64 g2, .int .i64 g3, .int .i64 g4, .int .i64 g5, .int .i64 g6, .int .i64 g7, .int .i64 t0, .int .i64 t1, .int .i64 t2, .int .i64 t3, .int .i64 ma, .int .i64 mb, .int .i64 sa, .int .i64 na, .int .i64 sb, .int .i64 nb, .bool both, h0, h1, h2, h3, h4] 31)).alloc (.cells #[.int .i64 4, .int .i64 (a : Int)] 42)) (.cells #[.int .i64 l0, .int .i64 l1, .int .i64 l2, .int .i64 l3, .int .i64 l4, .int .i64 l5, .int .i64 l6, .int .i64 l7] 23)) (.cells #[.int .i64 0, .int .i64 0, .int .i64 0, .int .i64 0, .int .i64 0, .int .i64 0, .int .i64 0, .int .i64 0] 23)
 have n3_ := heap_alloc_new (((w.alloc (.cells #[.int .i64 words, .int .i64 s0, .int .i64 s1, .int .i64 s2, .int .i64 s3, .int .i64 s4, .int .i64 s5, .int .i64 s6, .int .i64 s7, .int .i64 g0, .int .i64 g1, .int .i64 g2, .int .i64 g3, .int .i64 g4, .int .i64 g5, .int .i64 g6, .int .i64 g7, .int .i64 t0, .int .i64 t1, .int .i64 t2, .int .i64 t3, .int .i64 ma, .int .i64 mb, .int .i64 sa, .int .i64 na, .int .i64 sb, .int .i64 nb, .bool both, h0, h1, h2, h3, h4] 31)).alloc (.cells #[.int .i64 4, .int .i64 (a : Int)] 42)).alloc (.cells #[.int .i64 l0, .int .i64 l1, .int .i64 l2, .int .i64 l3, .int .i64 l4, .int .i64 l5, .int .i64 l6, .int .i64 l7] 23)) (.cells #[.int .i64 0, .int .i64 0, .int .i64 0, .int .i64 0, .int .i64 0, .int .i64 0, .int .i64 0, .int .i64 0] 23)
 simp only [World.size_alloc] at n1_ n2_ n3_
 have n4_ := below_alloc (below_alloc (below_alloc (below_alloc (Below.refl w.heap.size w) (.cells #[.int .i64 words, .int .i64 s0, .int .i64 s1, .int .i64 s2, .int .i64 s3, .int .i64 s4, .int .i64 s5, .int .i64 s6, .int .i64 s7, .int .i64 g0, .int .i64 g1, .int .i64 g2, .int .i64 g3, .int .i64 g4, .int .i64 g5, .int .i64 g6, .int .i64 g7, .int .i64 t0, .int .i64 t1, .int .i64 t2, .int .i64 t3, .int .i64 ma, .int .i64 mb, .int .i64 sa, .int .i64 na, .int .i64 sb, .int .i64 nb, .bool both, h0, h1, h2, h3, h4] 31)) (.cells #[.int .i64 4, .int .i64 (a : Int)] 42)) (.cells #[.int .i64 l0, .int .i64 l1, .int .i64 l2, .int .i64 l3, .int .i64 l4, .int .i64 l5, .int .i64 l6, .int .i64 l7] 23)) (.cells #[.int .i64 0, .int .i64 0, .int .i64 0, .int .i64 0, .int .i64 0, .int .i64 0, .int .i64 0, .int .i64 0] 23)
 have HVR := Aside0.mk (hv.below n4_)
 have n5_ := Nat.le_of_eq (World.size_alloc (((w.alloc (.cells #[.int .i64 words, .int .i64 s0, .int .i64 s1, .int .i64 s2, .int .i64 s3, .int .i64 s4, .int .i64 s5, .int .i64 s6, .int .i64 s7, .int .i64 g0, .int .i64 g1, .int .i64 g2, .int .i64 g3, .int .i64 g4, .int .i64 g5, .int .i64 g6, .int .i64 g7, .int .i64 t0, .int .i64 t1, .int .i64 t2, .int .i64 t3, .int .i64 ma, .int .i64 mb, .int .i64 sa, .int .i64 na, .int .i64 sb, .int .i64 nb, .bool both, h0, h1, h2, h3, h4] 31)).alloc (.cells #[.int .i64 4, .int .i64 (a : Int)] 42)).alloc (.cells #[.int .i64 l0, .int .i64 l1, .int .i64 l2, .int .i64 l3, .int .i64 l4, .int .i64 l5, .int .i64 l6, .int .i64 l7] 23)) (.cells #[.int .i64 0, .int .i64 0, .int .i64 0, .int .i64 0, .int .i64 0, .int .i64 0, .int .i64 0, .int .i64 0] 23)).symm
 simp only [World.size_alloc] at n5_
 have HD := Aside0.mk (show DQ w ((((w.alloc (.cells #[.int .i64 words, .int .i64 s0, .int .i64 s1, .int .i64 s2, .int .i64 s3, .int .i64 s4, .int .i64 s5, .int .i64 s6, .int .i64 s7, .int .i64 g0, .int .i64 g1, .int .i64 g2, .int .i64 g3, .int .i64 g4, .int .i64 g5, .int .i64 g6, .int .i64 g7, .int .i64 t0, .int .i64 t1, .int .i64 t2, .int .i64 t3, .int .i64 ma, .int .i64 mb, .int .i64 sa, .int .i64 na, .int .i64 sb, .int .i64 nb, .bool both, h0, h1, h2, h3, h4] 31)).alloc (.cells #[.int .i64 4, .int .i64 (a : Int)] 42)).alloc (.cells #[.int .i64 l0, .int .i64 l1, .int .i64 l2, .int .i64 l3, .int .i64 l4, .int .i64 l5, .int .i64 l6, .int .i64 l7] 23)).alloc (.cells #[.int .i64 0, .int .i64 0, .int .i64 0, .int .i64 0, .int .i64 0, .int .i64 0, .int .i64 0, .int .i64 0] 23)).heap.size words s0 s1 s2 s3 s4 s5 s6 s7 g0 g1 g2 g3 g4 g5 g6 g7 t0 t1 t2 t3 ma mb sa na sb nb both h0 h1 h2 h3 h4 4 a l0 l1 l2 l3 l4 l5 l6 l7 ((((w.alloc (.cells #[.int .i64 words, .int .i64 s0, .int .i64 s1, .int .i64 s2, .int .i64 s3, .int .i64 s4, .int .i64 s5, .int .i64 s6, .int .i64 s7, .int .i64 g0, .int .i64 g1, .int .i64 g2, .int .i64 g3, .int .i64 g4, .int .i64 g5, .int .i64 g6, .int .i64 g7, .int .i64 t0, .int .i64 t1, .int .i64 t2, .int .i64 t3, .int .i64 ma, .int .i64 mb, .int .i64 sa, .int .i64 na, .int .i64 sb, .int .i64 nb, .bool both, h0, h1, h2, h3, h4] 31)).alloc (.cells #[.int .i64 4, .int .i64 (a : Int)] 42)).alloc (.cells #[.int .i64 l0, .int .i64 l1, .int .i64 l2, .int .i64 l3, .int .i64 l4, .int .i64 l5, .int .i64 l6, .int .i64 l7] 23)).alloc (.cells #[.int .i64 0, .int .i64 0, .int .i64 0, .int .i64 0, .int .i64 0, .int .i64 0, .int .i64 0, .int .i64 0] 23)) from ⟨n0_, n1_, n2_, n3_, n4_, Nat.le_refl _, by simp only [World.size_alloc]; omega⟩)
 have HL := Aside0.mk hl
 obtain ⟨Av, cv, hvv, _⟩ := hv.slice
 subst hvv
 clear hv n0_ n1_ n2_ n3_ n4_ n5_
 go_enter Try.func30, Try.ntmps30
 go_upto_region 2 with (fail)
 generalize ((((w.alloc (.cells #[.int .i64 words, .int .i64 s0, .int .i64 s1, .int .i64 s2, .int .i64 s3, .int .i64 s4, .int .i64 s5, .int .i64 s6, .int .i64 s7, .int .i64 g0, .int .i64 g1, .int .i64 g2, .int .i64 g3, .int .i64 g4, .int .i64 g5, .int .i64 g6, .int .i64 g7, .int .i64 t0, .int .i64 t1, .int .i64 t2, .int .i64 t3, .int .i64 ma, .int .i64 mb, .int .i64 sa, .int .i64 na, .int .i64 sb, .int .i64 nb, .bool both, h0, h1, h2, h3, h4] 31)).alloc (.cells #[.int .i64 4, .int .i64 (a : Int)] 42)).alloc (.cells #[.int .i64 l0, .int .i64 l1, .int .i64 l2, .int .i64 l3, .int .i64 l4, .int .i64 l5, .int .i64 l6, .int .i64 l7] 23)).alloc (.cells #[.int .i64 0, .int .i64 0, .int .i64 0, .int .i64 0, .int .i64 0, .int .i64 0, .int .i64 0, .int .i64 0] 23)) = w4 at HD HVR ⊢
 have HO : Aside0 (w4.ownsRow w4.heap.size 22 1 (.slice none 0 0) ([] : List Int).length (nums .i64 [])) := ⟨own_nil _ _ _ _⟩
 go_upto_region 4 with ((with_reducible refine gate_builtin (b := .append) (xs := #[.tmp 21, .tmp 22]) rfl ?_); at_builtin; refine stk_concat w4.heap.size rfl (.tmp 21) (.tmp 22) rfl _ _ [] ks rfl rfl HO.out HVR.out (Nat.le_refl _) (by simpa using Nat.le_trans HL.out (by decide)) ?_; intro v1 w5 hv1 hb1; rw [List.nil_append] at hv1; obtain ⟨A1, c1, hv2, hlc1⟩ := hv1.read.slice; subst hv2; have HV := Aside0.mk hv1; have HB5 := Aside0.mk hb1; clear hv1 hb1)
 have HD := Aside0.mk (HD.out.step HB5.out)
 clear HVR HO HB5
 have HTP := Aside0.mk (table_ok 4 (by decide)).2.2.2.1
 have HTQ := Aside0.mk (table_ok 4 (by decide)).2.2.2.2
 have HAF := Aside0.mk (show afterP (resP hand ma mb) [s0, s1, s2, s3, s4, s5, s6, s7] [g0, g1, g2, g3, g4, g5, g6, g7] [t0, t1, t2, t3] (kindsOf (tabP 4)) (kindsOf (tabQ 4)) (tabS 4) 4 a ks [l0, l1, l2, l3, l4, l5, l6, l7] = specP (resP hand ma mb) [s0, s1, s2, s3, s4, s5, s6, s7] [g0, g1, g2, g3, g4, g5, g6, g7] [t0, t1, t2, t3] 4 a ks [l0, l1, l2, l3, l4, l5, l6, l7] from aft_spec (by decide) (by decide) (by decide))
 rw [show tabP 4 = (⟨#[]⟩ : ByteArray) from by decide +kernel] at HTP
 rw [show tabQ 4 = (⟨#[]⟩ : ByteArray) from by decide +kernel] at HTQ
 have hx0 : _ = some (Value.int .i64 4) := blk_cell HD.out.x 0
 have HPC := Aside0.mk (fun W => sluiceref11_pops.calls 100 4 (⟨#[]⟩ : ByteArray) W HTP.out)
 have HQC := Aside0.mk (fun W => sluiceref11_pushes.calls 100 4 (⟨#[]⟩ : ByteArray) W HTQ.out)
 go_upto_region 7 with (go_at_call 49; refine (HPC.out _).mono ?_; rintro e w6 ⟨rfl, ⟨nd, rfl⟩⟩)
 have n0_ := HD.out.step (pw_below_drewN (Below.refl _ _) nd)
 have n1_ := HV.out.below (pw_below_drewN (Below.refl _ _) nd)
 clear hx0 HPC HD HV
 have HD := Aside0.mk n0_
 have HV := Aside0.mk n1_
 clear n0_ n1_
 generalize w5.drewN nd = w6 at HD HV ⊢
 go_wp2
 go_loopg [16] 1 (fun kq v16 w' => v16 = .int .i64 0 ∧ w' = w6)
 case atStart => exact ⟨rfl, rfl⟩
 case round =>
  obtain ⟨rfl, rfl⟩ := hrel
  have hx0 : _ = some (Value.int .i64 4) := blk_cell HD.out.x 0
  have hx1 : _ = some (Value.int .i64 (a : Int)) := blk_cell HD.out.x 1
  have hsl : ¬ (c1 : Int) < (ks.length : Int) := by omega
  have HT := Aside0.mk (HV.out.take ks.length (Nat.le_refl _))
  rw [List.take_length] at HT
  clear HV
  have HS := Aside0.mk (HAF.out.trans (show specP (resP hand ma mb) [s0, s1, s2, s3, s4, s5, s6, s7] [g0, g1, g2, g3, g4, g5, g6, g7] [t0, t1, t2, t3] 4 a ks [l0, l1, l2, l3, l4, l5, l6, l7] = (match ks.getLast? with | none => none | some k => ((pushP k ks.dropLast).bind (pushP k)).map (fun s2 => (s2, [l0, l1, l2, l3, l4, l5, l6, l7]))) from rfl))
  clear HAF
  rcases Nat.eq_zero_or_pos ks.length with hz0 | hz0
  ·have hk0 : ks = [] := List.eq_nil_of_length_eq_zero hz0
   have d1 : decide ((ks.length : Int) < 1) = true := decide_eq_true (by omega)
   have d2 : decide (ks.length < 1) = true := decide_eq_true (by omega)
   have HS2 := Aside0.mk (HS.out.trans (show _ = none by rw [hk0]; rfl))
   have hl0_ : _ = some (Value.int .i64 l0) := blk_cell HD.out.lo 0
   have hr0_ : _ = some (Value.int .i64 0) := blk_cell HD.out.rb 0
   have hf0_ := blk_frozen HD.out.rb 0
   have hl1_ : _ = some (Value.int .i64 l1) := blk_cell HD.out.lo 1
   have hr1_ : _ = some (Value.int .i64 0) := blk_cell HD.out.rb 1
   have hf1_ := blk_frozen HD.out.rb 1
   have hl2_ : _ = some (Value.int .i64 l2) := blk_cell HD.out.lo 2
   have hr2_ : _ = some (Value.int .i64 0) := blk_cell HD.out.rb 2
   have hf2_ := blk_frozen HD.out.rb 2
   have hl3_ : _ = some (Value.int .i64 l3) := blk_cell HD.out.lo 3
   have hr3_ : _ = some (Value.int .i64 0) := blk_cell HD.out.rb 3
   have hf3_ := blk_frozen HD.out.rb 3
   have hl4_ : _ = some (Value.int .i64 l4) := blk_cell HD.out.lo 4
   have hr4_ : _ = some (Value.int .i64 0) := blk_cell HD.out.rb 4
   have hf4_ := blk_frozen HD.out.rb 4
   have hl5_ : _ = some (Value.int .i64 l5) := blk_cell HD.out.lo 5
   have hr5_ : _ = some (Value.int .i64 0) := blk_cell HD.out.rb 5
   have hf5_ := blk_frozen HD.out.rb 5
   have hl6_ : _ = some (Value.int .i64 l6) := blk_cell HD.out.lo 6
   have hr6_ : _ = some (Value.int .i64 0) := blk_cell HD.out.rb 6
   have hf6_ := blk_frozen HD.out.rb 6
   have hl7_ : _ = some (Value.int .i64 l7) := blk_cell HD.out.lo 7
   have hr7_ : _ = some (Value.int .i64 0) := blk_cell HD.out.rb 7
   have hf7_ := blk_frozen HD.out.rb 7
   go_wp2
   repeat (go_region; try go_wp2)
   obtain ⟨n3_, n4_, n5_⟩ := fill8 HD.out.rb l0 l1 l2 l3 l4 l5 l6 l7
   have n5_ := n5_ w HD.out.b (by omega)
   generalize ((((((((wr.setCell ⟨(w.heap.size + 1 + 1 + 1), 0, none⟩ (.int .i64 l0)).setCell ⟨(w.heap.size + 1 + 1 + 1), 1, none⟩ (.int .i64 l1)).setCell ⟨(w.heap.size + 1 + 1 + 1), 2, none⟩ (.int .i64 l2)).setCell ⟨(w.heap.size + 1 + 1 + 1), 3, none⟩ (.int .i64 l3)).setCell ⟨(w.heap.size + 1 + 1 + 1), 4, none⟩ (.int .i64 l4)).setCell ⟨(w.heap.size + 1 + 1 + 1), 5, none⟩ (.int .i64 l5)).setCell ⟨(w.heap.size + 1 + 1 + 1), 6, none⟩ (.int .i64 l6)).setCell ⟨(w.heap.size + 1 + 1 + 1), 7, none⟩ (.int .i64 l7)) = w9 at n3_ n4_ n5_ ⊢
   have hc0_ : w9.drew.cell? ⟨(w.heap.size + 1 + 1 + 1), 0, none⟩ = some (.int .i64 l0) := blk_cell n3_ 0
   have hc1_ : w9.drew.cell? ⟨(w.heap.size + 1 + 1 + 1), 1, none⟩ = some (.int .i64 l1) := blk_cell n3_ 1
   have hc2_ : w9.drew.cell? ⟨(w.heap.size + 1 + 1 + 1), 2, none⟩ = some (.int .i64 l2) := blk_cell n3_ 2
   have hc3_ : w9.drew.cell? ⟨(w.heap.size + 1 + 1 + 1), 3, none⟩ = some (.int .i64 l3) := blk_cell n3_ 3
   have hc4_ : w9.drew.cell? ⟨(w.heap.size + 1 + 1 + 1), 4, none⟩ = some (.int .i64 l4) := blk_cell n3_ 4
   have hc5_ : w9.drew.cell? ⟨(w.heap.size + 1 + 1 + 1), 5, none⟩ = some (.int .i64 l5) := blk_cell n3_ 5
   have hc6_ : w9.drew.cell? ⟨(w.heap.size + 1 + 1 + 1), 6, none⟩ = some (.int .i64 l6) := blk_cell n3_ 6
   have hc7_ : w9.drew.cell? ⟨(w.heap.size + 1 + 1 + 1), 7, none⟩ = some (.int .i64 l7) := blk_cell n3_ 7
   refine bodyPost_ret (v := .tuple #[.slice none 0 0, .agg #[.int .i64 l0, .int .i64 l1, .int .i64 l2, .int .i64 l3, .int .i64 l4, .int .i64 l5, .int .i64 l6, .int .i64 l7], .bool false]) (by simp [results, Try.results30, go_sem, hc0_, hc1_, hc2_, hc3_, hc4_, hc5_, hc6_, hc7_]) rfl ?_
   exact .inl ⟨HS2.out, _, _, _, _, _, _, _, _, _, rfl, pw_below_drewN n5_ 1⟩
  obtain ⟨n, hn⟩ : ∃ n, ks.length = n + 1 := ⟨ks.length - 1, by omega⟩
  obtain ⟨q, hqA, hqN, hqc, hqs⟩ := HT.out.cell n (by omega)
  subst hqA
  have HP := Aside0.mk (pop_last hn)
  have d1 : decide ((ks.length : Int) < 1) = false := decide_eq_false (by omega)
  have d2 : decide (ks.length < 1) = false := decide_eq_false (by omega)
  have hn1 : n = ks.length - 1 := by omega
  subst hn1
  have q1 : 0 ≤ (ks.length : Int) - 1 ∧ (ks.length : Int) - 1 < (ks.length : Int) := by omega
  have q2 : ¬ (ks.length : Int) - 1 < 0 := by omega
  have q3 : ¬ (c1 : Int) < (ks.length : Int) - 1 := by omega
  obtain ⟨t, ht⟩ : ∃ t, t = ks.getD (ks.length - 1) 0 := ⟨_, rfl⟩
  rw [← ht] at hqc HP
  have HQS := Aside0.mk hqs
  have HQN := Aside0.mk hqN
  have HZ0 := Aside0.mk hz0
  clear hn ht hqs hqN hz0
  rw [HP.out] at HS
  have HS := Aside0.mk (HS.out.trans (show _ = if (ks ++ [t]).length ≤ 32 then some (ks ++ [t], [l0, l1, l2, l3, l4, l5, l6, l7]) else none from dup_val HZ0.out HP.out HL.out))
  go_upto_region 61 with ((with_reducible refine gate_builtin (b := .append) (xs := #[.tmp 79, .tmp 85]) rfl ?_); at_builtin; refine stk_append w4.heap.size rfl (.tmp 79) (.tmp 85) rfl _ ks t rfl rfl HT.out HD.out.n (by have := HL.out; omega) ?_; intro v1 wz hv1 hb1; obtain ⟨A1, c1, hv2, _⟩ := hv1.read.slice; subst hv2; have n0_ := Aside0.mk (HD.out.hold hb1); have n1_ := Aside0.mk hv1; clear HD HT hv1 hb1 hx0 hx1; have HD := n0_; have HT := n1_; clear n0_ n1_; have hx0 : _ = some (Value.int .i64 4) := blk_cell HD.out.x 0; have hx1 : _ = some (Value.int .i64 (a : Int)) := blk_cell HD.out.x 1)
  obtain ⟨r, hr⟩ : ∃ r, r = ks ++ [t] := ⟨_, rfl⟩
  rw [← hr] at HT HS
  rw [show ks.length + 1 = r.length by rw [hr, List.length_append]; rfl]
  clear hr
  go_upto_region 62 with (go_at_call 52; refine (HQC.out _).mono ?_; rintro e wq ⟨rfl, ⟨nq, rfl⟩⟩)
  have n0_ := HD.out.step (pw_below_drewN (Below.refl _ _) nq)
  have n1_ := HT.out.below (pw_below_drewN (Below.refl _ _) nq)
  clear hx0 hx1 HQC HD HT
  have HD := Aside0.mk n0_
  have HT := Aside0.mk n1_
  clear n0_ n1_
  generalize wz.drewN nq = wt at HD HT ⊢
  go_wp2
  go_loopg [13, 20] 2 (fun kq v13 v20 w' => v13 = .slice A1 r.length c1 ∧ v20 = .int .i64 0 ∧ w' = wt)
  case atStart => exact ⟨rfl, rfl, rfl⟩
  case round =>
   obtain ⟨rfl, rfl, rfl⟩ := hrel
   have hl0_ : _ = some (Value.int .i64 l0) := blk_cell HD.out.lo 0
   have hr0_ : _ = some (Value.int .i64 0) := blk_cell HD.out.rb 0
   have hf0_ := blk_frozen HD.out.rb 0
   have hl1_ : _ = some (Value.int .i64 l1) := blk_cell HD.out.lo 1
   have hr1_ : _ = some (Value.int .i64 0) := blk_cell HD.out.rb 1
   have hf1_ := blk_frozen HD.out.rb 1
   have hl2_ : _ = some (Value.int .i64 l2) := blk_cell HD.out.lo 2
   have hr2_ : _ = some (Value.int .i64 0) := blk_cell HD.out.rb 2
   have hf2_ := blk_frozen HD.out.rb 2
   have hl3_ : _ = some (Value.int .i64 l3) := blk_cell HD.out.lo 3
   have hr3_ : _ = some (Value.int .i64 0) := blk_cell HD.out.rb 3
   have hf3_ := blk_frozen HD.out.rb 3
   have hl4_ : _ = some (Value.int .i64 l4) := blk_cell HD.out.lo 4
   have hr4_ : _ = some (Value.int .i64 0) := blk_cell HD.out.rb 4
   have hf4_ := blk_frozen HD.out.rb 4
   have hl5_ : _ = some (Value.int .i64 l5) := blk_cell HD.out.lo 5
   have hr5_ : _ = some (Value.int .i64 0) := blk_cell HD.out.rb 5
   have hf5_ := blk_frozen HD.out.rb 5
   have hl6_ : _ = some (Value.int .i64 l6) := blk_cell HD.out.lo 6
   have hr6_ : _ = some (Value.int .i64 0) := blk_cell HD.out.rb 6
   have hf6_ := blk_frozen HD.out.rb 6
   have hl7_ : _ = some (Value.int .i64 l7) := blk_cell HD.out.lo 7
   have hr7_ : _ = some (Value.int .i64 0) := blk_cell HD.out.rb 7
   have hf7_ := blk_frozen HD.out.rb 7
   by_cases hq : r.length ≤ 32
   ·have d9 : decide ((r.length : Int) ≤ 32) = true := decide_eq_true (by omega)
    have HS2 := Aside0.mk (HS.out.trans (if_pos hq))
    clear hq
    go_wp2
    repeat (go_region; try go_wp2)
    obtain ⟨n3_, n4_, n5_⟩ := fill8 HD.out.rb l0 l1 l2 l3 l4 l5 l6 l7
    have n5_ := n5_ w HD.out.b (by omega)
    generalize ((((((((wr.setCell ⟨(w.heap.size + 1 + 1 + 1), 0, none⟩ (.int .i64 l0)).setCell ⟨(w.heap.size + 1 + 1 + 1), 1, none⟩ (.int .i64 l1)).setCell ⟨(w.heap.size + 1 + 1 + 1), 2, none⟩ (.int .i64 l2)).setCell ⟨(w.heap.size + 1 + 1 + 1), 3, none⟩ (.int .i64 l3)).setCell ⟨(w.heap.size + 1 + 1 + 1), 4, none⟩ (.int .i64 l4)).setCell ⟨(w.heap.size + 1 + 1 + 1), 5, none⟩ (.int .i64 l5)).setCell ⟨(w.heap.size + 1 + 1 + 1), 6, none⟩ (.int .i64 l6)).setCell ⟨(w.heap.size + 1 + 1 + 1), 7, none⟩ (.int .i64 l7)) = w9 at n3_ n4_ n5_ ⊢
    have hc0_ : w9.drew.cell? ⟨(w.heap.size + 1 + 1 + 1), 0, none⟩ = some (.int .i64 l0) := blk_cell n3_ 0
    have hc1_ : w9.drew.cell? ⟨(w.heap.size + 1 + 1 + 1), 1, none⟩ = some (.int .i64 l1) := blk_cell n3_ 1
    have hc2_ : w9.drew.cell? ⟨(w.heap.size + 1 + 1 + 1), 2, none⟩ = some (.int .i64 l2) := blk_cell n3_ 2
    have hc3_ : w9.drew.cell? ⟨(w.heap.size + 1 + 1 + 1), 3, none⟩ = some (.int .i64 l3) := blk_cell n3_ 3
    have hc4_ : w9.drew.cell? ⟨(w.heap.size + 1 + 1 + 1), 4, none⟩ = some (.int .i64 l4) := blk_cell n3_ 4
    have hc5_ : w9.drew.cell? ⟨(w.heap.size + 1 + 1 + 1), 5, none⟩ = some (.int .i64 l5) := blk_cell n3_ 5
    have hc6_ : w9.drew.cell? ⟨(w.heap.size + 1 + 1 + 1), 6, none⟩ = some (.int .i64 l6) := blk_cell n3_ 6
    have hc7_ : w9.drew.cell? ⟨(w.heap.size + 1 + 1 + 1), 7, none⟩ = some (.int .i64 l7) := blk_cell n3_ 7
    refine bodyPost_ret (v := .tuple #[.slice A1 r.length c1, .agg #[.int .i64 l0, .int .i64 l1, .int .i64 l2, .int .i64 l3, .int .i64 l4, .int .i64 l5, .int .i64 l6, .int .i64 l7], .bool true]) (by simp [results, Try.results30, go_sem, hc0_, hc1_, hc2_, hc3_, hc4_, hc5_, hc6_, hc7_]) rfl ?_
    exact .inr ⟨_, _, _, HS2.out, rfl, (n4_ _ _ HT.out.read).below (pw_below_drewN (Below.refl _ _) 1), pw_below_drewN n5_ 1⟩
   have d9 : decide ((r.length : Int) ≤ 32) = false := decide_eq_false (by omega)
   have HS2 := Aside0.mk (HS.out.trans (if_neg hq))
   clear hq
   go_wp2
   repeat (go_region; try go_wp2)
   obtain ⟨n3_, n4_, n5_⟩ := fill8 HD.out.rb l0 l1 l2 l3 l4 l5 l6 l7
   have n5_ := n5_ w HD.out.b (by omega)
   generalize ((((((((wr.setCell ⟨(w.heap.size + 1 + 1 + 1), 0, none⟩ (.int .i64 l0)).setCell ⟨(w.heap.size + 1 + 1 + 1), 1, none⟩ (.int .i64 l1)).setCell ⟨(w.heap.size + 1 + 1 + 1), 2, none⟩ (.int .i64 l2)).setCell ⟨(w.heap.size + 1 + 1 + 1), 3, none⟩ (.int .i64 l3)).setCell ⟨(w.heap.size + 1 + 1 + 1), 4, none⟩ (.int .i64 l4)).setCell ⟨(w.heap.size + 1 + 1 + 1), 5, none⟩ (.int .i64 l5)).setCell ⟨(w.heap.size + 1 + 1 + 1), 6, none⟩ (.int .i64 l6)).setCell ⟨(w.heap.size + 1 + 1 + 1), 7, none⟩ (.int .i64 l7)) = w9 at n3_ n4_ n5_ ⊢
   have hc0_ : w9.drew.cell? ⟨(w.heap.size + 1 + 1 + 1), 0, none⟩ = some (.int .i64 l0) := blk_cell n3_ 0
   have hc1_ : w9.drew.cell? ⟨(w.heap.size + 1 + 1 + 1), 1, none⟩ = some (.int .i64 l1) := blk_cell n3_ 1
   have hc2_ : w9.drew.cell? ⟨(w.heap.size + 1 + 1 + 1), 2, none⟩ = some (.int .i64 l2) := blk_cell n3_ 2
   have hc3_ : w9.drew.cell? ⟨(w.heap.size + 1 + 1 + 1), 3, none⟩ = some (.int .i64 l3) := blk_cell n3_ 3
   have hc4_ : w9.drew.cell? ⟨(w.heap.size + 1 + 1 + 1), 4, none⟩ = some (.int .i64 l4) := blk_cell n3_ 4
   have hc5_ : w9.drew.cell? ⟨(w.heap.size + 1 + 1 + 1), 5, none⟩ = some (.int .i64 l5) := blk_cell n3_ 5
   have hc6_ : w9.drew.cell? ⟨(w.heap.size + 1 + 1 + 1), 6, none⟩ = some (.int .i64 l6) := blk_cell n3_ 6
   have hc7_ : w9.drew.cell? ⟨(w.heap.size + 1 + 1 + 1), 7, none⟩ = some (.int .i64 l7) := blk_cell n3_ 7
   refine bodyPost_ret (v := .tuple #[.slice A1 r.length c1, .agg #[.int .i64 l0, .int .i64 l1, .int .i64 l2, .int .i64 l3, .int .i64 l4, .int .i64 l5, .int .i64 l6, .int .i64 l7], .bool false]) (by simp [results, Try.results30, go_sem, hc0_, hc1_, hc2_, hc3_, hc4_, hc5_, hc6_, hc7_]) rfl ?_
   exact .inl ⟨HS2.out, _, _, _, _, _, _, _, _, _, rfl, pw_below_drewN n5_ 1⟩
end Beh4
end Go.Proofs.Ytcpcpmojallcdaa.QLoomChecks
