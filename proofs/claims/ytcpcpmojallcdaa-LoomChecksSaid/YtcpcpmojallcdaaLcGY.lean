/- LoomChecks: Law Read. Conditions: as each theorem says. -/
import Derived.Deep.SlicePairs
import Derived.SizedLaws
import Derived.OpenShut
import Derived.WalkKit
import Derived.Test.YtcpcpmojallcdaaLcQ
import Derived.Test.YtcpcpmojallcdaaLcGX
import Derived.Test.YtcpcpmojallcdaaLcGW
namespace Go.Proofs.Ytcpcpmojallcdaa.QLoomChecks
open Go.RowKit Go.Proofs.YtcpcpmojallcdaaW.PrintWords Go.Proofs.YtcpcpmojallcdaaW.PrintLast Go.Proofs.YtcpcpmojallcdaaW.PrintMore
set_option linter.unusedVariables false
set_option linter.unusedSimpArgs false
section Law
set_option maxHeartbeats 8000000 in
set_option maxRecDepth 100000 in
theorem lawR (words s0 s1 s2 s3 s4 s5 s6 s7 g0 g1 g2 g3 g4 g5 g6 g7 t0 t1 t2 t3 ma mb sa na sb nb : Int) (both : Bool) (h0 h1 h2 h3 h4 : Value) (A : Nat → Option Addr) (c : Nat → Nat) (L : Nat → List S42) (w : World) (hH : ∀ j, j < 5 → [h0, h1, h2, h3, h4].getD j undef = .slice (A j) (L j).length (c j) ∧ Kd.C k42 w (A j) (L j).length (L j) ∧ (L j).length ≤ c j ∧ (L j).length ≤ 8796093021952) :
  Calls Try.prog 3 #[.agg #[.int .i64 words, .int .i64 s0, .int .i64 s1, .int .i64 s2, .int .i64 s3, .int .i64 s4, .int .i64 s5, .int .i64 s6, .int .i64 s7, .int .i64 g0, .int .i64 g1, .int .i64 g2, .int .i64 g3, .int .i64 g4, .int .i64 g5, .int .i64 g6, .int .i64 g7, .int .i64 t0, .int .i64 t1, .int .i64 t2, .int .i64 t3, .int .i64 ma, .int .i64 mb, .int .i64 sa, .int .i64 na, .int .i64 sb, .int .i64 nb, .bool both, h0, h1, h2, h3, h4]] w fun e w' => e = .returned (.bool true) ∧ Below w.heap.size w w' := by
 have HC := Aside0.mk (heap_alloc_new w (.cells #[.int .i64 words, .int .i64 s0, .int .i64 s1, .int .i64 s2, .int .i64 s3, .int .i64 s4, .int .i64 s5, .int .i64 s6, .int .i64 s7, .int .i64 g0, .int .i64 g1, .int .i64 g2, .int .i64 g3, .int .i64 g4, .int .i64 g5, .int .i64 g6, .int .i64 g7, .int .i64 t0, .int .i64 t1, .int .i64 t2, .int .i64 t3, .int .i64 ma, .int .i64 mb, .int .i64 sa, .int .i64 na, .int .i64 sb, .int .i64 nb, .bool both, h0, h1, h2, h3, h4] 31))
 have HB := Aside0.mk (below_alloc (Below.refl w.heap.size w) (.cells #[.int .i64 words, .int .i64 s0, .int .i64 s1, .int .i64 s2, .int .i64 s3, .int .i64 s4, .int .i64 s5, .int .i64 s6, .int .i64 s7, .int .i64 g0, .int .i64 g1, .int .i64 g2, .int .i64 g3, .int .i64 g4, .int .i64 g5, .int .i64 g6, .int .i64 g7, .int .i64 t0, .int .i64 t1, .int .i64 t2, .int .i64 t3, .int .i64 ma, .int .i64 mb, .int .i64 sa, .int .i64 na, .int .i64 sb, .int .i64 nb, .bool both, h0, h1, h2, h3, h4] 31))
 have HH := Aside0.mk hH
 clear hH
 go_enter Try.func3, Try.ntmps3
 go_upto_region 1 with (fail)
 generalize w.alloc (.cells #[.int .i64 words, .int .i64 s0, .int .i64 s1, .int .i64 s2, .int .i64 s3, .int .i64 s4, .int .i64 s5, .int .i64 s6, .int .i64 s7, .int .i64 g0, .int .i64 g1, .int .i64 g2, .int .i64 g3, .int .i64 g4, .int .i64 g5, .int .i64 g6, .int .i64 g7, .int .i64 t0, .int .i64 t1, .int .i64 t2, .int .i64 t3, .int .i64 ma, .int .i64 mb, .int .i64 sa, .int .i64 na, .int .i64 sb, .int .i64 nb, .bool both, h0, h1, h2, h3, h4] 31) = w1 at HC HB ⊢
 have HTW := Aside0.mk (twinR words s0 s1 s2 s3 s4 s5 s6 s7 g0 g1 g2 g3 g4 g5 g6 g7 t0 t1 t2 t3 ma mb sa na sb nb both h0 h1 h2 h3 h4 A c L w1 (fun j hj => ⟨(HH.out j hj).1, Kd.C_below (HH.out j hj).2.1 HB.out, (HH.out j hj).2.2⟩))
 go_upto_region 2 with (first | ((with_reducible refine wpList_load_row rfl 31 (.tmp 1) rfl (w.heap.size) rfl _ _ _ _ HC.out Try.underlying31 rfl (by kernel_rfl) ?_)) | (go_at_call 4; (with_reducible refine HTW.out.mono ?_); rintro e w2 ⟨y0_, y1_, y2_, y3_, y4_, rfl, ht, hb⟩; obtain ⟨A0_, c0_, e0_, _⟩ := ht 0 (by omega); have e0_ : y0_ = .slice A0_ (L 0).length c0_ := e0_; subst e0_; obtain ⟨A1_, c1_, e1_, _⟩ := ht 1 (by omega); have e1_ : y1_ = .slice A1_ (L 1).length c1_ := e1_; subst e1_; obtain ⟨A2_, c2_, e2_, _⟩ := ht 2 (by omega); have e2_ : y2_ = .slice A2_ (L 2).length c2_ := e2_; subst e2_; obtain ⟨A3_, c3_, e3_, _⟩ := ht 3 (by omega); have e3_ : y3_ = .slice A3_ (L 3).length c3_ := e3_; subst e3_; obtain ⟨A4_, c4_, e4_, _⟩ := ht 4 (by omega); have e4_ : y4_ = .slice A4_ (L 4).length c4_ := e4_; subst e4_; have HT := Aside0.mk ht; have n0_ := Aside0.mk ((hb.block _ (blk_lt HC.out)).trans HC.out); have n1_ := Aside0.mk (below_then HB.out HB.out.size hb); clear HC HB HTW ht hb; have HC := n0_; have HB := n1_; clear n0_ n1_; have HS := Aside0.mk (heap_alloc_new w2 (.cells #[.int .i64 0, .int .i64 0, .int .i64 0, .int .i64 0, .int .i64 0, .int .i64 0, .int .i64 0, .int .i64 0, .int .i64 0, .int .i64 0, .int .i64 0, .int .i64 0, .int .i64 0, .int .i64 0, .int .i64 0, .int .i64 0, .int .i64 0, .int .i64 0, .int .i64 0, .int .i64 0, .int .i64 0, .int .i64 0, .int .i64 0, .int .i64 0, .int .i64 0, .int .i64 0, .int .i64 0, .bool false, .slice none 0 0, .slice none 0 0, .slice none 0 0, .slice none 0 0, .slice none 0 0] 31)); have hsz31 : (#[.int .i64 0, .int .i64 0, .int .i64 0, .int .i64 0, .int .i64 0, .int .i64 0, .int .i64 0, .int .i64 0, .int .i64 0, .int .i64 0, .int .i64 0, .int .i64 0, .int .i64 0, .int .i64 0, .int .i64 0, .int .i64 0, .int .i64 0, .int .i64 0, .int .i64 0, .int .i64 0, .int .i64 0, .int .i64 0, .int .i64 0, .int .i64 0, .int .i64 0, .int .i64 0, .int .i64 0, .bool false, .slice none 0 0, .slice none 0 0, .slice none 0 0, .slice none 0 0, .slice none 0 0] : Array Value).size = (#[.int .i64 words, .int .i64 s0, .int .i64 s1, .int .i64 s2, .int .i64 s3, .int .i64 s4, .int .i64 s5, .int .i64 s6, .int .i64 s7, .int .i64 g0, .int .i64 g1, .int .i64 g2, .int .i64 g3, .int .i64 g4, .int .i64 g5, .int .i64 g6, .int .i64 g7, .int .i64 t0, .int .i64 t1, .int .i64 t2, .int .i64 t3, .int .i64 ma, .int .i64 mb, .int .i64 sa, .int .i64 na, .int .i64 sb, .int .i64 nb, .bool both, .slice A0_ (L 0).length c0_, .slice A1_ (L 1).length c1_, .slice A2_ (L 2).length c2_, .slice A3_ (L 3).length c3_, .slice A4_ (L 4).length c4_] : Array Value).size := rfl; have hone : (#[.int .i64 words, .int .i64 s0, .int .i64 s1, .int .i64 s2, .int .i64 s3, .int .i64 s4, .int .i64 s5, .int .i64 s6, .int .i64 s7, .int .i64 g0, .int .i64 g1, .int .i64 g2, .int .i64 g3, .int .i64 g4, .int .i64 g5, .int .i64 g6, .int .i64 g7, .int .i64 t0, .int .i64 t1, .int .i64 t2, .int .i64 t3, .int .i64 ma, .int .i64 mb, .int .i64 sa, .int .i64 na, .int .i64 sb, .int .i64 nb, .bool both, .slice A0_ (L 0).length c0_, .slice A1_ (L 1).length c1_, .slice A2_ (L 2).length c2_, .slice A3_ (L 3).length c3_, .slice A4_ (L 4).length c4_] : Array Value).all (·.oneCell') = true := by simp [Value.oneCell']) | ((with_reducible refine wpList_store_row rfl 31 (.tmp 3) (.tmp 11) rfl w2.heap.size #[.int .i64 words, .int .i64 s0, .int .i64 s1, .int .i64 s2, .int .i64 s3, .int .i64 s4, .int .i64 s5, .int .i64 s6, .int .i64 s7, .int .i64 g0, .int .i64 g1, .int .i64 g2, .int .i64 g3, .int .i64 g4, .int .i64 g5, .int .i64 g6, .int .i64 g7, .int .i64 t0, .int .i64 t1, .int .i64 t2, .int .i64 t3, .int .i64 ma, .int .i64 mb, .int .i64 sa, .int .i64 na, .int .i64 sb, .int .i64 nb, .bool both, .slice A0_ (L 0).length c0_, .slice A1_ (L 1).length c1_, .slice A2_ (L 2).length c2_, .slice A3_ (L 3).length c3_, .slice A4_ (L 4).length c4_] rfl rfl 31 _ HS.out (by kernel_rfl) hsz31 hone ?_)))
 have HK := Aside0.mk (setRow_heap _ w2.heap.size _ #[.int .i64 words, .int .i64 s0, .int .i64 s1, .int .i64 s2, .int .i64 s3, .int .i64 s4, .int .i64 s5, .int .i64 s6, .int .i64 s7, .int .i64 g0, .int .i64 g1, .int .i64 g2, .int .i64 g3, .int .i64 g4, .int .i64 g5, .int .i64 g6, .int .i64 g7, .int .i64 t0, .int .i64 t1, .int .i64 t2, .int .i64 t3, .int .i64 ma, .int .i64 mb, .int .i64 sa, .int .i64 na, .int .i64 sb, .int .i64 nb, .bool both, .slice A0_ (L 0).length c0_, .slice A1_ (L 1).length c1_, .slice A2_ (L 2).length c2_, .slice A3_ (L 3).length c3_, .slice A4_ (L 4).length c4_] 31 (0, 0) HS.out)
 have HT3 := Aside0.mk (show ∀ j, j < 5 → TwR w1.heap.size (L j) ([.slice A0_ (L 0).length c0_, .slice A1_ (L 1).length c1_, .slice A2_ (L 2).length c2_, .slice A3_ (L 3).length c3_, .slice A4_ (L 4).length c4_].getD j undef) ((w2.alloc (.cells #[.int .i64 0, .int .i64 0, .int .i64 0, .int .i64 0, .int .i64 0, .int .i64 0, .int .i64 0, .int .i64 0, .int .i64 0, .int .i64 0, .int .i64 0, .int .i64 0, .int .i64 0, .int .i64 0, .int .i64 0, .int .i64 0, .int .i64 0, .int .i64 0, .int .i64 0, .int .i64 0, .int .i64 0, .int .i64 0, .int .i64 0, .int .i64 0, .int .i64 0, .int .i64 0, .int .i64 0, .bool false, .slice none 0 0, .slice none 0 0, .slice none 0 0, .slice none 0 0, .slice none 0 0] 31)).setRow w2.heap.size #[.int .i64 words, .int .i64 s0, .int .i64 s1, .int .i64 s2, .int .i64 s3, .int .i64 s4, .int .i64 s5, .int .i64 s6, .int .i64 s7, .int .i64 g0, .int .i64 g1, .int .i64 g2, .int .i64 g3, .int .i64 g4, .int .i64 g5, .int .i64 g6, .int .i64 g7, .int .i64 t0, .int .i64 t1, .int .i64 t2, .int .i64 t3, .int .i64 ma, .int .i64 mb, .int .i64 sa, .int .i64 na, .int .i64 sb, .int .i64 nb, .bool both, .slice A0_ (L 0).length c0_, .slice A1_ (L 1).length c1_, .slice A2_ (L 2).length c2_, .slice A3_ (L 3).length c3_, .slice A4_ (L 4).length c4_]) from fun j hj => ((HT.out j hj).below (below_alloc (Below.refl _ _) _)).row HS.out _)
 have HB3 := Aside0.mk (below_setRow (g := w2.heap.size) (below_alloc HB.out (.cells #[.int .i64 0, .int .i64 0, .int .i64 0, .int .i64 0, .int .i64 0, .int .i64 0, .int .i64 0, .int .i64 0, .int .i64 0, .int .i64 0, .int .i64 0, .int .i64 0, .int .i64 0, .int .i64 0, .int .i64 0, .int .i64 0, .int .i64 0, .int .i64 0, .int .i64 0, .int .i64 0, .int .i64 0, .int .i64 0, .int .i64 0, .int .i64 0, .int .i64 0, .int .i64 0, .int .i64 0, .bool false, .slice none 0 0, .slice none 0 0, .slice none 0 0, .slice none 0 0, .slice none 0 0] 31)) HB.out.size #[.int .i64 words, .int .i64 s0, .int .i64 s1, .int .i64 s2, .int .i64 s3, .int .i64 s4, .int .i64 s5, .int .i64 s6, .int .i64 s7, .int .i64 g0, .int .i64 g1, .int .i64 g2, .int .i64 g3, .int .i64 g4, .int .i64 g5, .int .i64 g6, .int .i64 g7, .int .i64 t0, .int .i64 t1, .int .i64 t2, .int .i64 t3, .int .i64 ma, .int .i64 mb, .int .i64 sa, .int .i64 na, .int .i64 sb, .int .i64 nb, .bool both, .slice A0_ (L 0).length c0_, .slice A1_ (L 1).length c1_, .slice A2_ (L 2).length c2_, .slice A3_ (L 3).length c3_, .slice A4_ (L 4).length c4_])
 have HC3 := Aside0.mk ((setRow_other (w2.alloc (.cells #[.int .i64 0, .int .i64 0, .int .i64 0, .int .i64 0, .int .i64 0, .int .i64 0, .int .i64 0, .int .i64 0, .int .i64 0, .int .i64 0, .int .i64 0, .int .i64 0, .int .i64 0, .int .i64 0, .int .i64 0, .int .i64 0, .int .i64 0, .int .i64 0, .int .i64 0, .int .i64 0, .int .i64 0, .int .i64 0, .int .i64 0, .int .i64 0, .int .i64 0, .int .i64 0, .int .i64 0, .bool false, .slice none 0 0, .slice none 0 0, .slice none 0 0, .slice none 0 0, .slice none 0 0] 31)) w2.heap.size w.heap.size #[.int .i64 words, .int .i64 s0, .int .i64 s1, .int .i64 s2, .int .i64 s3, .int .i64 s4, .int .i64 s5, .int .i64 s6, .int .i64 s7, .int .i64 g0, .int .i64 g1, .int .i64 g2, .int .i64 g3, .int .i64 g4, .int .i64 g5, .int .i64 g6, .int .i64 g7, .int .i64 t0, .int .i64 t1, .int .i64 t2, .int .i64 t3, .int .i64 ma, .int .i64 mb, .int .i64 sa, .int .i64 na, .int .i64 sb, .int .i64 nb, .bool both, .slice A0_ (L 0).length c0_, .slice A1_ (L 1).length c1_, .slice A2_ (L 2).length c2_, .slice A3_ (L 3).length c3_, .slice A4_ (L 4).length c4_] (by have := blk_lt HC.out; omega)).trans (blk_alloc HC.out (.cells #[.int .i64 0, .int .i64 0, .int .i64 0, .int .i64 0, .int .i64 0, .int .i64 0, .int .i64 0, .int .i64 0, .int .i64 0, .int .i64 0, .int .i64 0, .int .i64 0, .int .i64 0, .int .i64 0, .int .i64 0, .int .i64 0, .int .i64 0, .int .i64 0, .int .i64 0, .int .i64 0, .int .i64 0, .int .i64 0, .int .i64 0, .int .i64 0, .int .i64 0, .int .i64 0, .int .i64 0, .bool false, .slice none 0 0, .slice none 0 0, .slice none 0 0, .slice none 0 0, .slice none 0 0] 31)))
 clear HT HS HC HB hsz31 hone
 generalize (w2.alloc (.cells #[.int .i64 0, .int .i64 0, .int .i64 0, .int .i64 0, .int .i64 0, .int .i64 0, .int .i64 0, .int .i64 0, .int .i64 0, .int .i64 0, .int .i64 0, .int .i64 0, .int .i64 0, .int .i64 0, .int .i64 0, .int .i64 0, .int .i64 0, .int .i64 0, .int .i64 0, .int .i64 0, .int .i64 0, .int .i64 0, .int .i64 0, .int .i64 0, .int .i64 0, .int .i64 0, .int .i64 0, .bool false, .slice none 0 0, .slice none 0 0, .slice none 0 0, .slice none 0 0, .slice none 0 0] 31)).setRow w2.heap.size #[.int .i64 words, .int .i64 s0, .int .i64 s1, .int .i64 s2, .int .i64 s3, .int .i64 s4, .int .i64 s5, .int .i64 s6, .int .i64 s7, .int .i64 g0, .int .i64 g1, .int .i64 g2, .int .i64 g3, .int .i64 g4, .int .i64 g5, .int .i64 g6, .int .i64 g7, .int .i64 t0, .int .i64 t1, .int .i64 t2, .int .i64 t3, .int .i64 ma, .int .i64 mb, .int .i64 sa, .int .i64 na, .int .i64 sb, .int .i64 nb, .bool both, .slice A0_ (L 0).length c0_, .slice A1_ (L 1).length c1_, .slice A2_ (L 2).length c2_, .slice A3_ (L 3).length c3_, .slice A4_ (L 4).length c4_] = w3 at HK HT3 HB3 HC3 ⊢
 generalize w2.heap.size = kb at HK ⊢
 have HIN := Aside0.mk (show ∀ j, j < 5 → [.slice A0_ (L 0).length c0_, .slice A1_ (L 1).length c1_, .slice A2_ (L 2).length c2_, .slice A3_ (L 3).length c3_, .slice A4_ (L 4).length c4_].getD j undef = .slice ([A0_, A1_, A2_, A3_, A4_].getD j none) (L j).length ([c0_, c1_, c2_, c3_, c4_].getD j 0) ∧ Kd.C k42 w3 ([A0_, A1_, A2_, A3_, A4_].getD j none) (L j).length (L j) ∧ (L j).length ≤ [c0_, c1_, c2_, c3_, c4_].getD j 0 ∧ (L j).length ≤ 9223372036854775807 from five
  (by
   obtain ⟨A, c, e, h1, h2, _⟩ := (HT3.out 0 (by omega)).read
   have e : (Value.slice A0_ (L 0).length c0_) = .slice A (L 0).length c := e
   injection e with e1 e2 e3
   subst e1
   subst e3
   exact ⟨rfl, h2, (by show _ ≤ c0_; omega), by have := (HH.out 0 (by omega)).2.2.2; omega⟩)
  (by
   obtain ⟨A, c, e, h1, h2, _⟩ := (HT3.out 1 (by omega)).read
   have e : (Value.slice A1_ (L 1).length c1_) = .slice A (L 1).length c := e
   injection e with e1 e2 e3
   subst e1
   subst e3
   exact ⟨rfl, h2, (by show _ ≤ c1_; omega), by have := (HH.out 1 (by omega)).2.2.2; omega⟩)
  (by
   obtain ⟨A, c, e, h1, h2, _⟩ := (HT3.out 2 (by omega)).read
   have e : (Value.slice A2_ (L 2).length c2_) = .slice A (L 2).length c := e
   injection e with e1 e2 e3
   subst e1
   subst e3
   exact ⟨rfl, h2, (by show _ ≤ c2_; omega), by have := (HH.out 2 (by omega)).2.2.2; omega⟩)
  (by
   obtain ⟨A, c, e, h1, h2, _⟩ := (HT3.out 3 (by omega)).read
   have e : (Value.slice A3_ (L 3).length c3_) = .slice A (L 3).length c := e
   injection e with e1 e2 e3
   subst e1
   subst e3
   exact ⟨rfl, h2, (by show _ ≤ c3_; omega), by have := (HH.out 3 (by omega)).2.2.2; omega⟩)
  (by
   obtain ⟨A, c, e, h1, h2, _⟩ := (HT3.out 4 (by omega)).read
   have e : (Value.slice A4_ (L 4).length c4_) = .slice A (L 4).length c := e
   injection e with e1 e2 e3
   subst e1
   subst e3
   exact ⟨rfl, h2, (by show _ ≤ c4_; omega), by have := (HH.out 4 (by omega)).2.2.2; omega⟩))
 have HCK := Aside0.mk (checkR words s0 s1 s2 s3 s4 s5 s6 s7 g0 g1 g2 g3 g4 g5 g6 g7 t0 t1 t2 t3 ma mb sa na sb nb both (.slice A0_ (L 0).length c0_) (.slice A1_ (L 1).length c1_) (.slice A2_ (L 2).length c2_) (.slice A3_ (L 3).length c3_) (.slice A4_ (L 4).length c4_) (fun j => [A0_, A1_, A2_, A3_, A4_].getD j none) (fun j => [c0_, c1_, c2_, c3_, c4_].getD j 0) L w3 HIN.out)
 generalize hR : checkP words [s0, s1, s2, s3, s4, s5, s6, s7] [g0, g1, g2, g3, g4, g5, g6, g7] [t0, t1, t2, t3] ma mb sa na sb nb L = R at HCK
 have HR := Aside0.mk hR
 clear hR HIN
 go_upto_region 3 with (first | ((with_reducible refine wpList_load_row rfl 31 (.tmp 3) rfl (kb) rfl _ _ _ _ HK.out Try.underlying31 rfl (by kernel_rfl) ?_)) | (go_at_call 5; (with_reducible refine HCK.out.mono ?_); rintro e w5 ⟨rfl, hb⟩; have n0_ := Aside0.mk ((hb.block _ (blk_lt HC3.out)).trans HC3.out); have n1_ := Aside0.mk (below_then HB3.out HB3.out.size hb); have n2_ := Aside0.mk ((hb.block _ (blk_lt HK.out)).trans HK.out); have n3_ := Aside0.mk (fun j hj => (HT3.out j hj).below hb); clear HC3 HB3 HK HT3 HCK hb; have HC3 := n0_; have HB3 := n1_; have HK := n2_; have HT3 := n3_; clear n0_ n1_ n2_ n3_))
 have HCQ := Aside0.mk (checkQR words s0 s1 s2 s3 s4 s5 s6 s7 g0 g1 g2 g3 g4 g5 g6 g7 t0 t1 t2 t3 ma mb sa na sb nb both h0 h1 h2 h3 h4 A c L w5 (fun j hj => ⟨(HH.out j hj).1, Kd.C_below (HH.out j hj).2.1 HB3.out, (HH.out j hj).2.2.1, by have := (HH.out j hj).2.2.2; omega⟩))
 rw [HR.out] at HCQ
 go_upto_region 4 with (first | ((with_reducible refine wpList_load_row rfl 31 (.tmp 1) rfl (w.heap.size) rfl _ _ _ _ HC3.out Try.underlying31 rfl (by kernel_rfl) ?_)) | (go_at_call 6; (with_reducible refine HCQ.out.mono ?_); rintro e w6 ⟨rfl, hb⟩; have n0_ := Aside0.mk ((hb.block _ (blk_lt HC3.out)).trans HC3.out); have n1_ := Aside0.mk (below_then HB3.out HB3.out.size hb); have n2_ := Aside0.mk ((hb.block _ (blk_lt HK.out)).trans HK.out); have n3_ := Aside0.mk (fun j hj => (HT3.out j hj).below hb); clear HC3 HB3 HK HT3 HCQ hb; have HC3 := n0_; have HB3 := n1_; have HK := n2_; have HT3 := n3_; clear n0_ n1_ n2_ n3_))
 obtain ⟨r1, r2, r3⟩ := R
 have e1 : (r1 == r1) = true := beq_self_eq_true r1
 have e2 : (r2 == r2) = true := beq_self_eq_true r2
 have e3 : (r3 == r3) = true := beq_self_eq_true r3
 have HUN := Aside0.mk (fun (W : World) (hb : Below w6.heap.size w6 W) => untouchedR words s0 s1 s2 s3 s4 s5 s6 s7 g0 g1 g2 g3 g4 g5 g6 g7 t0 t1 t2 t3 ma mb sa na sb nb both h0 h1 h2 h3 h4 (.slice A0_ (L 0).length c0_) (.slice A1_ (L 1).length c1_) (.slice A2_ (L 2).length c2_) (.slice A3_ (L 3).length c3_) (.slice A4_ (L 4).length c4_) w1.heap.size L W (fun j hj => (HT3.out j hj).below hb) (fun j hj => (by
  have h := HH.out j hj
  exact ⟨A j, c j, h.1, h.2.2.1, Kd.C_below h.2.1 (below_then HB3.out HB3.out.size hb)⟩)) (fun j hj => (HH.out j hj).2.2.2))
 have HNM := Aside0.mk (fun W => sluicelaw11_num.calls r1 r1 W rfl)
 have HKD := Aside0.mk (show ∀ n, (w6.drewN n).heap[kb]? = some (.cells #[.int .i64 words, .int .i64 s0, .int .i64 s1, .int .i64 s2, .int .i64 s3, .int .i64 s4, .int .i64 s5, .int .i64 s6, .int .i64 s7, .int .i64 g0, .int .i64 g1, .int .i64 g2, .int .i64 g3, .int .i64 g4, .int .i64 g5, .int .i64 g6, .int .i64 g7, .int .i64 t0, .int .i64 t1, .int .i64 t2, .int .i64 t3, .int .i64 ma, .int .i64 mb, .int .i64 sa, .int .i64 na, .int .i64 sb, .int .i64 nb, .bool both, .slice A0_ (L 0).length c0_, .slice A1_ (L 1).length c1_, .slice A2_ (L 2).length c2_, .slice A3_ (L 3).length c3_, .slice A4_ (L 4).length c4_] 31 (0, 0)) from fun n => HK.out)
 have HCD := Aside0.mk (show ∀ n, (w6.drewN n).heap[w.heap.size]? = some (.cells #[.int .i64 words, .int .i64 s0, .int .i64 s1, .int .i64 s2, .int .i64 s3, .int .i64 s4, .int .i64 s5, .int .i64 s6, .int .i64 s7, .int .i64 g0, .int .i64 g1, .int .i64 g2, .int .i64 g3, .int .i64 g4, .int .i64 g5, .int .i64 g6, .int .i64 g7, .int .i64 t0, .int .i64 t1, .int .i64 t2, .int .i64 t3, .int .i64 ma, .int .i64 mb, .int .i64 sa, .int .i64 na, .int .i64 sb, .int .i64 nb, .bool both, h0, h1, h2, h3, h4] 31 (0, 0)) from fun n => HC3.out)
 clear HR
 go_wp2_with (first | (go_big_want; (with_reducible refine wp_load_row 31 (.tmp 3) rfl (kb) rfl _ _ _ _ (HKD.out _) Try.underlying31 rfl (by kernel_rfl) ?_); simp only [Act.put, List.setIfInBounds_toArray, List.set_cons_zero, List.set_cons_succ]) | (go_big_want; (with_reducible refine wp_load_row 31 (.tmp 1) rfl (w.heap.size) rfl _ _ _ _ (HCD.out _) Try.underlying31 rfl (by kernel_rfl) ?_); simp only [Act.put, List.setIfInBounds_toArray, List.set_cons_zero, List.set_cons_succ]) | (go_at_call 7; (with_reducible refine (HNM.out _).mono ?_); rintro e w7 ⟨rfl, ⟨nd7, rfl⟩⟩) | (go_at_call 8; (with_reducible refine (HUN.out _ (pw_below_drewN (Below.refl _ _) nd7)).mono ?_); rintro e w8 ⟨rfl, hb8⟩))
 go_ret
 exact ⟨rfl, below_then HB3.out HB3.out.size (below_then (pw_below_drewN (Below.refl _ _) nd7) (Nat.le_refl _) hb8)⟩
end Law
section Read
open Go.ChangeShapes Go.WideShapes
section
variable {H : Type} {enc : TypeId × Value → H} {W : World} {spare : Nat → Bool} {held : Bool}
theorem pair_cellC {W : World} {a : Addr} {j : Nat} {v0 v1 : Value} (h0 : W.cell? (a.add (j * 2)) = some v0) (h1 : W.cell? (a.add (j * 2 + 1)) = some v1) : ∀ i u, [v0, v1][i]? = some u → W.cell? (a.add (j * 2 + i)) = some u := by
 intro i u hu
 match i, hu with
 | 0, hu => obtain rfl := Option.some.inj hu; exact h0
 | 1, hu => obtain rfl := Option.some.inj hu; exact h1
 | i + 2, hu => simp at hu
theorem read28 {fuel : Nat} {cs : List Value} {x : DataW H × List MemPlace} (h : DataW.trod enc Try.prog W 0 spare held fuel 28 cs = some x) :
  ∃ (A : Option Addr) (cap : Nat) (l : List S42), cs = [.slice A l.length cap] ∧ l.length ≤ cap ∧ Kd.C k42 W A l.length l ∧ ((∀ n ∈ DataW.weights Try.prog 28 x.1, n ≤ 140737488351232) → l.length ≤ 8796093021952) := by
 rcases Go.Deep.open_slice_pairs Try.underlying28 Try.underlying42 (by kernel_rfl) rfl rfl (by kernel_rfl) (by kernel_rfl) h with ⟨rfl, _⟩ | ⟨a, len, cap, m, n, V0, V1, D0, D1, P0, P1, rfl, _, hl, hm, hmm, rfl, hx⟩
 ·exact ⟨none, 0, [], rfl, Nat.le_refl _, ⟨rfl, Nat.zero_le _, fun h => absurd h (Nat.lt_irrefl _)⟩, fun _ => Nat.zero_le _⟩
 have hlm : len ≤ m := by rw [hmm]; split <;> omega
 have e_ : maxLen = 9223372036854775807 := rfl
 have each : ∀ i, i < len → ∃ q : Int × Int, V0 i = .int .i64 q.1 ∧ V1 i = .int .i64 q.2 := by
  intro i hi
  obtain ⟨_, _, g0, g1⟩ := hx i (by omega)
  obtain ⟨n0, e0, _⟩ := DataW.trod_int Try.underlying3 g0
  obtain ⟨n1, e1, _⟩ := DataW.trod_int Try.underlying2 g1
  injection e0 with e0
  injection e1 with e1
  exact ⟨(n0, n1), e0, e1⟩
 obtain ⟨q, hq⟩ := Go.Deep.choose_lt each
 refine ⟨some a, cap, (List.range len).map fun i => ⟨(q i).1, (q i).2⟩, by simp, by simpa using hl, ⟨by simp, by simp; omega, fun _ => ⟨a, rfl, fun j p hp => ?_⟩⟩, fun hw => ?_⟩
 ·have hj : j < len := by
   have := (List.getElem?_eq_some_iff.1 hp).1
   simpa using this
  obtain ⟨h0, h1, _, _⟩ := hx j (by omega)
  rw [(hq j hj).1] at h0
  rw [(hq j hj).2] at h1
  have hp' : p = ⟨(q j).1, (q j).2⟩ := by
   rw [List.getElem?_map, List.getElem?_range hj] at hp
   exact (Option.some.inj hp).symm
  subst hp'
  exact ⟨_, rfl, k42_mk W _, pair_cellC h0 h1⟩
 have hz := hw (len * 16 + (m - len) * 16) (by
  simp only [DataW.weights, Try.underlying28, List.length_map, List.length_range]
  rw [show Try.prog.bytesOf 42 = 16 by kernel_rfl, Nat.add_mul]
  exact List.mem_cons_self ..)
 simp only [List.length_map, List.length_range]
 omega
theorem list8_ {α : Type} (l : List α) (h : l.length = 8) : ∃ c0 c1 c2 c3 c4 c5 c6 c7, l = [c0, c1, c2, c3, c4, c5, c6, c7] := by
 match l, h with
 | [c0, c1, c2, c3, c4, c5, c6, c7], _ => exact ⟨c0, c1, c2, c3, c4, c5, c6, c7, rfl⟩
set_option maxRecDepth 100000 in
theorem read23 {fuel : Nat} {cs : List Value} {x : DataW H × List MemPlace} (h : DataW.trod enc Try.prog W 0 spare held fuel 23 cs = some x) : ∃ x0 x1 x2 x3 x4 x5 x6 x7 : Int, cs = [.int .i64 x0, .int .i64 x1, .int .i64 x2, .int .i64 x3, .int .i64 x4, .int .i64 x5, .int .i64 x6, .int .i64 x7] := by
 obtain ⟨ys, m, _, _, hl, hy, hf⟩ := DataW.trod_array Try.underlying23 h
 rw [show Try.prog.cellsOf 23 = 8 by kernel_rfl] at hl
 obtain ⟨c0, c1, c2, c3, c4, c5, c6, c7, rfl⟩ := list8_ cs hl
 obtain ⟨z0, z1, z2, z3, z4, z5, z6, z7, rfl⟩ := list8_ ys hy
 have g0 : DataW.trod enc Try.prog W 0 spare held m 22 [c0] = some z0 := by
  have h := hf 0 (by omega)
  rw [show Try.prog.cellsOf 22 = 1 by kernel_rfl, show List.take 1 (List.drop (0 * 1) [c0, c1, c2, c3, c4, c5, c6, c7]) = [c0] from rfl] at h
  exact h.trans rfl
 have g1 : DataW.trod enc Try.prog W 0 spare held m 22 [c1] = some z1 := by
  have h := hf 1 (by omega)
  rw [show Try.prog.cellsOf 22 = 1 by kernel_rfl, show List.take 1 (List.drop (1 * 1) [c0, c1, c2, c3, c4, c5, c6, c7]) = [c1] from rfl] at h
  exact h.trans rfl
 have g2 : DataW.trod enc Try.prog W 0 spare held m 22 [c2] = some z2 := by
  have h := hf 2 (by omega)
  rw [show Try.prog.cellsOf 22 = 1 by kernel_rfl, show List.take 1 (List.drop (2 * 1) [c0, c1, c2, c3, c4, c5, c6, c7]) = [c2] from rfl] at h
  exact h.trans rfl
 have g3 : DataW.trod enc Try.prog W 0 spare held m 22 [c3] = some z3 := by
  have h := hf 3 (by omega)
  rw [show Try.prog.cellsOf 22 = 1 by kernel_rfl, show List.take 1 (List.drop (3 * 1) [c0, c1, c2, c3, c4, c5, c6, c7]) = [c3] from rfl] at h
  exact h.trans rfl
 have g4 : DataW.trod enc Try.prog W 0 spare held m 22 [c4] = some z4 := by
  have h := hf 4 (by omega)
  rw [show Try.prog.cellsOf 22 = 1 by kernel_rfl, show List.take 1 (List.drop (4 * 1) [c0, c1, c2, c3, c4, c5, c6, c7]) = [c4] from rfl] at h
  exact h.trans rfl
 have g5 : DataW.trod enc Try.prog W 0 spare held m 22 [c5] = some z5 := by
  have h := hf 5 (by omega)
  rw [show Try.prog.cellsOf 22 = 1 by kernel_rfl, show List.take 1 (List.drop (5 * 1) [c0, c1, c2, c3, c4, c5, c6, c7]) = [c5] from rfl] at h
  exact h.trans rfl
 have g6 : DataW.trod enc Try.prog W 0 spare held m 22 [c6] = some z6 := by
  have h := hf 6 (by omega)
  rw [show Try.prog.cellsOf 22 = 1 by kernel_rfl, show List.take 1 (List.drop (6 * 1) [c0, c1, c2, c3, c4, c5, c6, c7]) = [c6] from rfl] at h
  exact h.trans rfl
 have g7 : DataW.trod enc Try.prog W 0 spare held m 22 [c7] = some z7 := by
  have h := hf 7 (by omega)
  rw [show Try.prog.cellsOf 22 = 1 by kernel_rfl, show List.take 1 (List.drop (7 * 1) [c0, c1, c2, c3, c4, c5, c6, c7]) = [c7] from rfl] at h
  exact h.trans rfl
 obtain ⟨x0, e0, _⟩ := DataW.trod_int Try.underlying22 g0
 injection e0 with e0
 subst e0
 obtain ⟨x1, e1, _⟩ := DataW.trod_int Try.underlying22 g1
 injection e1 with e1
 subst e1
 obtain ⟨x2, e2, _⟩ := DataW.trod_int Try.underlying22 g2
 injection e2 with e2
 subst e2
 obtain ⟨x3, e3, _⟩ := DataW.trod_int Try.underlying22 g3
 injection e3 with e3
 subst e3
 obtain ⟨x4, e4, _⟩ := DataW.trod_int Try.underlying22 g4
 injection e4 with e4
 subst e4
 obtain ⟨x5, e5, _⟩ := DataW.trod_int Try.underlying22 g5
 injection e5 with e5
 subst e5
 obtain ⟨x6, e6, _⟩ := DataW.trod_int Try.underlying22 g6
 injection e6 with e6
 subst e6
 obtain ⟨x7, e7, _⟩ := DataW.trod_int Try.underlying22 g7
 injection e7 with e7
 subst e7
 exact ⟨x0, x1, x2, x3, x4, x5, x6, x7, rfl⟩
theorem list4_ {α : Type} (l : List α) (h : l.length = 4) : ∃ c0 c1 c2 c3, l = [c0, c1, c2, c3] := by
 match l, h with
 | [c0, c1, c2, c3], _ => exact ⟨c0, c1, c2, c3, rfl⟩
set_option maxRecDepth 100000 in
theorem read24 {fuel : Nat} {cs : List Value} {x : DataW H × List MemPlace} (h : DataW.trod enc Try.prog W 0 spare held fuel 24 cs = some x) : ∃ x0 x1 x2 x3 : Int, cs = [.int .i64 x0, .int .i64 x1, .int .i64 x2, .int .i64 x3] := by
 obtain ⟨ys, m, _, _, hl, hy, hf⟩ := DataW.trod_array Try.underlying24 h
 rw [show Try.prog.cellsOf 24 = 4 by kernel_rfl] at hl
 obtain ⟨c0, c1, c2, c3, rfl⟩ := list4_ cs hl
 obtain ⟨z0, z1, z2, z3, rfl⟩ := list4_ ys hy
 have g0 : DataW.trod enc Try.prog W 0 spare held m 22 [c0] = some z0 := by
  have h := hf 0 (by omega)
  rw [show Try.prog.cellsOf 22 = 1 by kernel_rfl, show List.take 1 (List.drop (0 * 1) [c0, c1, c2, c3]) = [c0] from rfl] at h
  exact h.trans rfl
 have g1 : DataW.trod enc Try.prog W 0 spare held m 22 [c1] = some z1 := by
  have h := hf 1 (by omega)
  rw [show Try.prog.cellsOf 22 = 1 by kernel_rfl, show List.take 1 (List.drop (1 * 1) [c0, c1, c2, c3]) = [c1] from rfl] at h
  exact h.trans rfl
 have g2 : DataW.trod enc Try.prog W 0 spare held m 22 [c2] = some z2 := by
  have h := hf 2 (by omega)
  rw [show Try.prog.cellsOf 22 = 1 by kernel_rfl, show List.take 1 (List.drop (2 * 1) [c0, c1, c2, c3]) = [c2] from rfl] at h
  exact h.trans rfl
 have g3 : DataW.trod enc Try.prog W 0 spare held m 22 [c3] = some z3 := by
  have h := hf 3 (by omega)
  rw [show Try.prog.cellsOf 22 = 1 by kernel_rfl, show List.take 1 (List.drop (3 * 1) [c0, c1, c2, c3]) = [c3] from rfl] at h
  exact h.trans rfl
 obtain ⟨x0, e0, _⟩ := DataW.trod_int Try.underlying22 g0
 injection e0 with e0
 subst e0
 obtain ⟨x1, e1, _⟩ := DataW.trod_int Try.underlying22 g1
 injection e1 with e1
 subst e1
 obtain ⟨x2, e2, _⟩ := DataW.trod_int Try.underlying22 g2
 injection e2 with e2
 subst e2
 obtain ⟨x3, e3, _⟩ := DataW.trod_int Try.underlying22 g3
 injection e3 with e3
 subst e3
 exact ⟨x0, x1, x2, x3, rfl⟩
theorem list5_ {α : Type} (l : List α) (h : l.length = 5) : ∃ c0 c1 c2 c3 c4, l = [c0, c1, c2, c3, c4] := by
 match l, h with
 | [c0, c1, c2, c3, c4], _ => exact ⟨c0, c1, c2, c3, c4, rfl⟩
theorem list9_ {α : Type} (l : List α) (h : l.length = 9) : ∃ c0 c1 c2 c3 c4 c5 c6 c7 c8, l = [c0, c1, c2, c3, c4, c5, c6, c7, c8] := by
 match l, h with
 | [c0, c1, c2, c3, c4, c5, c6, c7, c8], _ => exact ⟨c0, c1, c2, c3, c4, c5, c6, c7, c8, rfl⟩
theorem list11_ {α : Type} (l : List α) (h : l.length = 11) : ∃ c0 c1 c2 c3 c4 c5 c6 c7 c8 c9 c10, l = [c0, c1, c2, c3, c4, c5, c6, c7, c8, c9, c10] := by
 match l, h with
 | [c0, c1, c2, c3, c4, c5, c6, c7, c8, c9, c10], _ => exact ⟨c0, c1, c2, c3, c4, c5, c6, c7, c8, c9, c10, rfl⟩
theorem list33_ {α : Type} (l : List α) (h : l.length = 33) : ∃ c0 c1 c2 c3 c4 c5 c6 c7 c8 c9 c10 c11 c12 c13 c14 c15 c16 c17 c18 c19 c20 c21 c22 c23 c24 c25 c26 c27 c28 c29 c30 c31 c32, l = [c0, c1, c2, c3, c4, c5, c6, c7, c8, c9, c10, c11, c12, c13, c14, c15, c16, c17, c18, c19, c20, c21, c22, c23, c24, c25, c26, c27, c28, c29, c30, c31, c32] := by
 obtain ⟨c0, c1, c2, c3, c4, c5, c6, c7, c8, c9, c10, e1⟩ := list11_ (l.take 11) (by rw [List.length_take]; omega)
 obtain ⟨c11, c12, c13, c14, c15, c16, c17, c18, c19, c20, c21, e2⟩ := list11_ ((l.drop 11).take 11) (by rw [List.length_take, List.length_drop]; omega)
 obtain ⟨c22, c23, c24, c25, c26, c27, c28, c29, c30, c31, c32, e3⟩ := list11_ ((l.drop 11).drop 11) (by rw [List.length_drop, List.length_drop]; omega)
 refine ⟨c0, c1, c2, c3, c4, c5, c6, c7, c8, c9, c10, c11, c12, c13, c14, c15, c16, c17, c18, c19, c20, c21, c22, c23, c24, c25, c26, c27, c28, c29, c30, c31, c32, ?_⟩
 rw [← List.take_append_drop 11 l, ← List.take_append_drop 11 (l.drop 11), e1, e2, e3]
 rfl
theorem read27 {fuel : Nat} {cs : List Value} {x : DataW H × List MemPlace} (h : DataW.trod enc Try.prog W 0 spare held fuel 27 cs = some x) : ∃ x0 x1 x2 x3 : Int, cs = [.int .i64 x0, .int .i64 x1, .int .i64 x2, .int .i64 x3] := by
 obtain ⟨ys, m, _, _, hl, hy, hf⟩ := DataW.trod_struct Try.underlying27 h
 rw [show Try.prog.cellsOf 27 = 4 by kernel_rfl] at hl
 obtain ⟨c0, c1, c2, c3, rfl⟩ := list4_ cs hl
 obtain ⟨z0, z1, z2, z3, rfl⟩ := list4_ ys hy
 have g0 : DataW.trod enc Try.prog W 0 spare held m 3 [c0] = some z0 := by
  have h : DataW.trod enc Try.prog W 0 spare held m 3 (List.take (Try.prog.cellsOf 3) (List.drop 0 [c0, c1, c2, c3])) = some z0 := hf 0 _ rfl
  rw [show Try.prog.cellsOf 3 = 1 by kernel_rfl] at h
  exact h
 have g1 : DataW.trod enc Try.prog W 0 spare held m 25 [c1] = some z1 := by
  have h : DataW.trod enc Try.prog W 0 spare held m 25 (List.take (Try.prog.cellsOf 25) (List.drop 1 [c0, c1, c2, c3])) = some z1 := hf 1 _ rfl
  rw [show Try.prog.cellsOf 25 = 1 by kernel_rfl] at h
  exact h
 have g2 : DataW.trod enc Try.prog W 0 spare held m 3 [c2] = some z2 := by
  have h : DataW.trod enc Try.prog W 0 spare held m 3 (List.take (Try.prog.cellsOf 3) (List.drop 2 [c0, c1, c2, c3])) = some z2 := hf 2 _ rfl
  rw [show Try.prog.cellsOf 3 = 1 by kernel_rfl] at h
  exact h
 have g3 : DataW.trod enc Try.prog W 0 spare held m 25 [c3] = some z3 := by
  have h : DataW.trod enc Try.prog W 0 spare held m 25 (List.take (Try.prog.cellsOf 25) (List.drop 3 [c0, c1, c2, c3])) = some z3 := hf 3 _ rfl
  rw [show Try.prog.cellsOf 25 = 1 by kernel_rfl] at h
  exact h
 obtain ⟨x0, e0, _⟩ := DataW.trod_int Try.underlying3 g0
 injection e0 with e0
 subst e0
 obtain ⟨x1, e1, _⟩ := DataW.trod_int Try.underlying25 g1
 injection e1 with e1
 subst e1
 obtain ⟨x2, e2, _⟩ := DataW.trod_int Try.underlying3 g2
 injection e2 with e2
 subst e2
 obtain ⟨x3, e3, _⟩ := DataW.trod_int Try.underlying25 g3
 injection e3 with e3
 subst e3
 exact ⟨x0, x1, x2, x3, rfl⟩
/-- Weights of what an array, of what a struct holds. -/
theorem weights_all {P : Program} {e : TypeId} : ∀ {ds : List (DataW H)} {j : Nat} {d : DataW H}, ds[j]? = some d → ∀ n ∈ d.weights P e, n ∈ DataW.weightsAll P e ds
 | d0 :: ds, 0, d, hd, n, hn => by
  obtain rfl := Option.some.inj hd
  simp only [DataW.weightsAll, List.mem_append]
  exact .inl hn
 | d0 :: ds, j + 1, d, hd, n, hn => by
  simp only [DataW.weightsAll, List.mem_append]
  exact .inr (weights_all (j := j) hd n hn)
set_option maxRecDepth 100000 in
theorem opened31 (H : Type) (enc : TypeId × Value → H) (W : World) (c0 c1 c2 c3 c4 c5 c6 c7 c8 c9 c10 c11 c12 c13 c14 c15 c16 c17 c18 c19 c20 c21 c22 c23 c24 c25 c26 c27 c28 c29 c30 c31 c32 : Value) (d0 : DataW H) (p0 : List MemPlace) (hsz : (DataW.weights Try.prog 31 d0).all (· ≤ reachBytes) = true) (h0 : DataW.Trod enc Try.prog W 0 (fun _ => true) true 31 (.agg #[c0, c1, c2, c3, c4, c5, c6, c7, c8, c9, c10, c11, c12, c13, c14, c15, c16, c17, c18, c19, c20, c21, c22, c23, c24, c25, c26, c27, c28, c29, c30, c31, c32]) d0 p0) :
  ∃ (words s0 s1 s2 s3 s4 s5 s6 s7 g0 g1 g2 g3 g4 g5 g6 g7 t0 t1 t2 t3 ma mb sa na sb nb : Int) (both : Bool) (A0 A1 A2 A3 A4 : Option Addr) (k0 k1 k2 k3 k4 : Nat) (L0 L1 L2 L3 L4 : List S42), (#[c0, c1, c2, c3, c4, c5, c6, c7, c8, c9, c10, c11, c12, c13, c14, c15, c16, c17, c18, c19, c20, c21, c22, c23, c24, c25, c26, c27, c28, c29, c30, c31, c32] : Array Value) = #[.int .i64 words, .int .i64 s0, .int .i64 s1, .int .i64 s2, .int .i64 s3, .int .i64 s4, .int .i64 s5, .int .i64 s6, .int .i64 s7, .int .i64 g0, .int .i64 g1, .int .i64 g2, .int .i64 g3, .int .i64 g4, .int .i64 g5, .int .i64 g6, .int .i64 g7, .int .i64 t0, .int .i64 t1, .int .i64 t2, .int .i64 t3, .int .i64 ma, .int .i64 mb, .int .i64 sa, .int .i64 na, .int .i64 sb, .int .i64 nb, .bool both, .slice A0 L0.length k0, .slice A1 L1.length k1, .slice A2 L2.length k2, .slice A3 L3.length k3, .slice A4 L4.length k4] ∧ (Kd.C k42 W A0 L0.length L0 ∧ L0.length ≤ k0 ∧ L0.length ≤ 8796093021952) ∧ (Kd.C k42 W A1 L1.length L1 ∧ L1.length ≤ k1 ∧ L1.length ≤ 8796093021952) ∧ (Kd.C k42 W A2 L2.length L2 ∧ L2.length ≤ k2 ∧ L2.length ≤ 8796093021952) ∧ (Kd.C k42 W A3 L3.length L3 ∧ L3.length ≤ k3 ∧ L3.length ≤ 8796093021952) ∧ (Kd.C k42 W A4 L4.length L4 ∧ L4.length ≤ k4 ∧ L4.length ≤ 8796093021952) := by
 obtain ⟨fuel, h⟩ := h0
 have h : DataW.trod enc Try.prog W 0 (fun _ => true) true fuel 31 [c0, c1, c2, c3, c4, c5, c6, c7, c8, c9, c10, c11, c12, c13, c14, c15, c16, c17, c18, c19, c20, c21, c22, c23, c24, c25, c26, c27, c28, c29, c30, c31, c32] = some (d0, p0) := h
 obtain ⟨ys, n, _, hx, hl, hy, hf⟩ := DataW.trod_struct Try.underlying31 h
 obtain ⟨z0, z1, z2, z3, z4, z5, z6, z7, z8, rfl⟩ := list9_ ys hy
 have gg0_ : DataW.trod enc Try.prog W 0 (fun _ => true) true n 3 [c0] = some z0 := by
  have h : DataW.trod enc Try.prog W 0 (fun _ => true) true n 3 (List.take (Try.prog.cellsOf 3) (List.drop 0 [c0, c1, c2, c3, c4, c5, c6, c7, c8, c9, c10, c11, c12, c13, c14, c15, c16, c17, c18, c19, c20, c21, c22, c23, c24, c25, c26, c27, c28, c29, c30, c31, c32])) = some z0 := hf 0 _ rfl
  rw [show Try.prog.cellsOf 3 = 1 by kernel_rfl] at h
  exact h
 have gg1_ : DataW.trod enc Try.prog W 0 (fun _ => true) true n 23 [c1, c2, c3, c4, c5, c6, c7, c8] = some z1 := by
  have h : DataW.trod enc Try.prog W 0 (fun _ => true) true n 23 (List.take (Try.prog.cellsOf 23) (List.drop 1 [c0, c1, c2, c3, c4, c5, c6, c7, c8, c9, c10, c11, c12, c13, c14, c15, c16, c17, c18, c19, c20, c21, c22, c23, c24, c25, c26, c27, c28, c29, c30, c31, c32])) = some z1 := hf 1 _ rfl
  rw [show Try.prog.cellsOf 23 = 8 by kernel_rfl] at h
  exact h
 have gg2_ : DataW.trod enc Try.prog W 0 (fun _ => true) true n 23 [c9, c10, c11, c12, c13, c14, c15, c16] = some z2 := by
  have h : DataW.trod enc Try.prog W 0 (fun _ => true) true n 23 (List.take (Try.prog.cellsOf 23) (List.drop 9 [c0, c1, c2, c3, c4, c5, c6, c7, c8, c9, c10, c11, c12, c13, c14, c15, c16, c17, c18, c19, c20, c21, c22, c23, c24, c25, c26, c27, c28, c29, c30, c31, c32])) = some z2 := hf 2 _ rfl
  rw [show Try.prog.cellsOf 23 = 8 by kernel_rfl] at h
  exact h
 have gg3_ : DataW.trod enc Try.prog W 0 (fun _ => true) true n 24 [c17, c18, c19, c20] = some z3 := by
  have h : DataW.trod enc Try.prog W 0 (fun _ => true) true n 24 (List.take (Try.prog.cellsOf 24) (List.drop 17 [c0, c1, c2, c3, c4, c5, c6, c7, c8, c9, c10, c11, c12, c13, c14, c15, c16, c17, c18, c19, c20, c21, c22, c23, c24, c25, c26, c27, c28, c29, c30, c31, c32])) = some z3 := hf 3 _ rfl
  rw [show Try.prog.cellsOf 24 = 4 by kernel_rfl] at h
  exact h
 have gg4_ : DataW.trod enc Try.prog W 0 (fun _ => true) true n 22 [c21] = some z4 := by
  have h : DataW.trod enc Try.prog W 0 (fun _ => true) true n 22 (List.take (Try.prog.cellsOf 22) (List.drop 21 [c0, c1, c2, c3, c4, c5, c6, c7, c8, c9, c10, c11, c12, c13, c14, c15, c16, c17, c18, c19, c20, c21, c22, c23, c24, c25, c26, c27, c28, c29, c30, c31, c32])) = some z4 := hf 4 _ rfl
  rw [show Try.prog.cellsOf 22 = 1 by kernel_rfl] at h
  exact h
 have gg5_ : DataW.trod enc Try.prog W 0 (fun _ => true) true n 22 [c22] = some z5 := by
  have h : DataW.trod enc Try.prog W 0 (fun _ => true) true n 22 (List.take (Try.prog.cellsOf 22) (List.drop 22 [c0, c1, c2, c3, c4, c5, c6, c7, c8, c9, c10, c11, c12, c13, c14, c15, c16, c17, c18, c19, c20, c21, c22, c23, c24, c25, c26, c27, c28, c29, c30, c31, c32])) = some z5 := hf 5 _ rfl
  rw [show Try.prog.cellsOf 22 = 1 by kernel_rfl] at h
  exact h
 have gg6_ : DataW.trod enc Try.prog W 0 (fun _ => true) true n 27 [c23, c24, c25, c26] = some z6 := by
  have h : DataW.trod enc Try.prog W 0 (fun _ => true) true n 27 (List.take (Try.prog.cellsOf 27) (List.drop 23 [c0, c1, c2, c3, c4, c5, c6, c7, c8, c9, c10, c11, c12, c13, c14, c15, c16, c17, c18, c19, c20, c21, c22, c23, c24, c25, c26, c27, c28, c29, c30, c31, c32])) = some z6 := hf 6 _ rfl
  rw [show Try.prog.cellsOf 27 = 4 by kernel_rfl] at h
  exact h
 have gg7_ : DataW.trod enc Try.prog W 0 (fun _ => true) true n 4 [c27] = some z7 := by
  have h : DataW.trod enc Try.prog W 0 (fun _ => true) true n 4 (List.take (Try.prog.cellsOf 4) (List.drop 27 [c0, c1, c2, c3, c4, c5, c6, c7, c8, c9, c10, c11, c12, c13, c14, c15, c16, c17, c18, c19, c20, c21, c22, c23, c24, c25, c26, c27, c28, c29, c30, c31, c32])) = some z7 := hf 7 _ rfl
  rw [show Try.prog.cellsOf 4 = 1 by kernel_rfl] at h
  exact h
 have gg8_ : DataW.trod enc Try.prog W 0 (fun _ => true) true n 29 [c28, c29, c30, c31, c32] = some z8 := by
  have h : DataW.trod enc Try.prog W 0 (fun _ => true) true n 29 (List.take (Try.prog.cellsOf 29) (List.drop 28 [c0, c1, c2, c3, c4, c5, c6, c7, c8, c9, c10, c11, c12, c13, c14, c15, c16, c17, c18, c19, c20, c21, c22, c23, c24, c25, c26, c27, c28, c29, c30, c31, c32])) = some z8 := hf 8 _ rfl
  rw [show Try.prog.cellsOf 29 = 5 by kernel_rfl] at h
  exact h
 obtain ⟨words, e0, _⟩ := DataW.trod_int Try.underlying3 gg0_
 obtain ⟨s0, s1, s2, s3, s4, s5, s6, s7, e1⟩ := read23 gg1_
 obtain ⟨g0, g1, g2, g3, g4, g5, g6, g7, e2⟩ := read23 gg2_
 obtain ⟨t0, t1, t2, t3, e3⟩ := read24 gg3_
 obtain ⟨ma, e4, _⟩ := DataW.trod_int Try.underlying22 gg4_
 obtain ⟨mb, e5, _⟩ := DataW.trod_int Try.underlying22 gg5_
 obtain ⟨sa, na, sb, nb, e6⟩ := read27 gg6_
 obtain ⟨both, e7, _⟩ := DataW.trod_bool Try.underlying4 gg7_
 simp only [List.cons.injEq, and_true] at e0
 subst e0
 simp only [List.cons.injEq, and_true] at e1
 obtain ⟨rfl, rfl, rfl, rfl, rfl, rfl, rfl, rfl⟩ := e1
 simp only [List.cons.injEq, and_true] at e2
 obtain ⟨rfl, rfl, rfl, rfl, rfl, rfl, rfl, rfl⟩ := e2
 simp only [List.cons.injEq, and_true] at e3
 obtain ⟨rfl, rfl, rfl, rfl⟩ := e3
 simp only [List.cons.injEq, and_true] at e4
 subst e4
 simp only [List.cons.injEq, and_true] at e5
 subst e5
 simp only [List.cons.injEq, and_true] at e6
 obtain ⟨rfl, rfl, rfl, rfl⟩ := e6
 simp only [List.cons.injEq, and_true] at e7
 subst e7
 obtain ⟨hs, m, _, hhx, _, hhy, hhf⟩ := DataW.trod_array Try.underlying29 gg8_
 obtain ⟨y0, y1, y2, y3, y4, rfl⟩ := list5_ hs hhy
 have q0 : DataW.trod enc Try.prog W 0 (fun _ => true) true m 28 [c28] = some y0 := by
  have h := hhf 0 (by omega)
  rw [show Try.prog.cellsOf 28 = 1 by kernel_rfl] at h
  exact h
 obtain ⟨A0, k0, L0, e80, r0, t0_, u0_⟩ := read28 q0
 injection e80 with e80
 subst e80
 have v0_ : L0.length ≤ 8796093021952 := u0_ (fun n hn => by
  have h1 : n ∈ DataW.weights Try.prog 29 z8.1 := by
   rw [hhx]
   simp only [DataW.weights, Try.underlying29]
   exact weights_all (j := 0) rfl n hn
  have h2 : n ∈ DataW.weights Try.prog 31 d0 := by
   rw [(Prod.mk.inj hx).1]
   simp only [DataW.weights, Try.underlying31]
   exact DataW.weights_mem_each (j := 8) (t := 29) rfl rfl n h1
  have h3 := List.all_eq_true.1 hsz n h2
  exact of_decide_eq_true h3)
 have q1 : DataW.trod enc Try.prog W 0 (fun _ => true) true m 28 [c29] = some y1 := by
  have h := hhf 1 (by omega)
  rw [show Try.prog.cellsOf 28 = 1 by kernel_rfl] at h
  exact h
 obtain ⟨A1, k1, L1, e81, r1, t1_, u1_⟩ := read28 q1
 injection e81 with e81
 subst e81
 have v1_ : L1.length ≤ 8796093021952 := u1_ (fun n hn => by
  have h1 : n ∈ DataW.weights Try.prog 29 z8.1 := by
   rw [hhx]
   simp only [DataW.weights, Try.underlying29]
   exact weights_all (j := 1) rfl n hn
  have h2 : n ∈ DataW.weights Try.prog 31 d0 := by
   rw [(Prod.mk.inj hx).1]
   simp only [DataW.weights, Try.underlying31]
   exact DataW.weights_mem_each (j := 8) (t := 29) rfl rfl n h1
  have h3 := List.all_eq_true.1 hsz n h2
  exact of_decide_eq_true h3)
 have q2 : DataW.trod enc Try.prog W 0 (fun _ => true) true m 28 [c30] = some y2 := by
  have h := hhf 2 (by omega)
  rw [show Try.prog.cellsOf 28 = 1 by kernel_rfl] at h
  exact h
 obtain ⟨A2, k2, L2, e82, r2, t2_, u2_⟩ := read28 q2
 injection e82 with e82
 subst e82
 have v2_ : L2.length ≤ 8796093021952 := u2_ (fun n hn => by
  have h1 : n ∈ DataW.weights Try.prog 29 z8.1 := by
   rw [hhx]
   simp only [DataW.weights, Try.underlying29]
   exact weights_all (j := 2) rfl n hn
  have h2 : n ∈ DataW.weights Try.prog 31 d0 := by
   rw [(Prod.mk.inj hx).1]
   simp only [DataW.weights, Try.underlying31]
   exact DataW.weights_mem_each (j := 8) (t := 29) rfl rfl n h1
  have h3 := List.all_eq_true.1 hsz n h2
  exact of_decide_eq_true h3)
 have q3 : DataW.trod enc Try.prog W 0 (fun _ => true) true m 28 [c31] = some y3 := by
  have h := hhf 3 (by omega)
  rw [show Try.prog.cellsOf 28 = 1 by kernel_rfl] at h
  exact h
 obtain ⟨A3, k3, L3, e83, r3, t3_, u3_⟩ := read28 q3
 injection e83 with e83
 subst e83
 have v3_ : L3.length ≤ 8796093021952 := u3_ (fun n hn => by
  have h1 : n ∈ DataW.weights Try.prog 29 z8.1 := by
   rw [hhx]
   simp only [DataW.weights, Try.underlying29]
   exact weights_all (j := 3) rfl n hn
  have h2 : n ∈ DataW.weights Try.prog 31 d0 := by
   rw [(Prod.mk.inj hx).1]
   simp only [DataW.weights, Try.underlying31]
   exact DataW.weights_mem_each (j := 8) (t := 29) rfl rfl n h1
  have h3 := List.all_eq_true.1 hsz n h2
  exact of_decide_eq_true h3)
 have q4 : DataW.trod enc Try.prog W 0 (fun _ => true) true m 28 [c32] = some y4 := by
  have h := hhf 4 (by omega)
  rw [show Try.prog.cellsOf 28 = 1 by kernel_rfl] at h
  exact h
 obtain ⟨A4, k4, L4, e84, r4, t4_, u4_⟩ := read28 q4
 injection e84 with e84
 subst e84
 have v4_ : L4.length ≤ 8796093021952 := u4_ (fun n hn => by
  have h1 : n ∈ DataW.weights Try.prog 29 z8.1 := by
   rw [hhx]
   simp only [DataW.weights, Try.underlying29]
   exact weights_all (j := 4) rfl n hn
  have h2 : n ∈ DataW.weights Try.prog 31 d0 := by
   rw [(Prod.mk.inj hx).1]
   simp only [DataW.weights, Try.underlying31]
   exact DataW.weights_mem_each (j := 8) (t := 29) rfl rfl n h1
  have h3 := List.all_eq_true.1 hsz n h2
  exact of_decide_eq_true h3)
 exact ⟨words, s0, s1, s2, s3, s4, s5, s6, s7, g0, g1, g2, g3, g4, g5, g6, g7, t0, t1, t2, t3, ma, mb, sa, na, sb, nb, both, A0, A1, A2, A3, A4, k0, k1, k2, k3, k4, L0, L1, L2, L3, L4, rfl, ⟨t0_, r0, v0_⟩, ⟨t1_, r1, v1_⟩, ⟨t2_, r2, v2_⟩, ⟨t3_, r3, v3_⟩, ⟨t4_, r4, v4_⟩⟩
end
end Read
end Go.Proofs.Ytcpcpmojallcdaa.QLoomChecks
