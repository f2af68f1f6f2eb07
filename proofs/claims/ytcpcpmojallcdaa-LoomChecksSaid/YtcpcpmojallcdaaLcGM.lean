/- LoomChecks: ResQ BehA. Conditions: as each theorem says. -/
import Derived.Test.YtcpcpmojallcdaaLcQ
import Derived.Test.YtcpcpmojallcdaaLcGF
import Derived.Test.YtcpcpmojallcdaaLcGJ
import Derived.Test.YtcpcpmojallcdaaLcGG
namespace Go.Proofs.Ytcpcpmojallcdaa.QLoomChecks
open Go.RowKit Go.Proofs.YtcpcpmojallcdaaW.PrintWords Go.Proofs.YtcpcpmojallcdaaW.PrintLast Go.Proofs.YtcpcpmojallcdaaW.PrintMore
set_option linter.unusedVariables false
set_option linter.unusedSimpArgs false
section ResQ
set_option maxHeartbeats 8000000 in
set_option maxRecDepth 100000 in
theorem resultsQR (words s0 s1 s2 s3 s4 s5 s6 s7 g0 g1 g2 g3 g4 g5 g6 g7 t0 t1 t2 t3 ma mb sa na sb nb : Int) (both : Bool) (h0 h1 h2 h3 h4 : Value) (hand : Int) (w : World) :
  Calls Try.prog 51 #[.agg #[.int .i64 words, .int .i64 s0, .int .i64 s1, .int .i64 s2, .int .i64 s3, .int .i64 s4, .int .i64 s5, .int .i64 s6, .int .i64 s7, .int .i64 g0, .int .i64 g1, .int .i64 g2, .int .i64 g3, .int .i64 g4, .int .i64 g5, .int .i64 g6, .int .i64 g7, .int .i64 t0, .int .i64 t1, .int .i64 t2, .int .i64 t3, .int .i64 ma, .int .i64 mb, .int .i64 sa, .int .i64 na, .int .i64 sb, .int .i64 nb, .bool both, h0, h1, h2, h3, h4], .int .i64 hand] w fun e w' => ∃ v, e = .returned v ∧ StkR w' v (resP hand ma mb) ∧ Below w.heap.size w w' := by
 have HE := Aside0.mk (heap_alloc_new w (.cells #[.int .i64 words, .int .i64 s0, .int .i64 s1, .int .i64 s2, .int .i64 s3, .int .i64 s4, .int .i64 s5, .int .i64 s6, .int .i64 s7, .int .i64 g0, .int .i64 g1, .int .i64 g2, .int .i64 g3, .int .i64 g4, .int .i64 g5, .int .i64 g6, .int .i64 g7, .int .i64 t0, .int .i64 t1, .int .i64 t2, .int .i64 t3, .int .i64 ma, .int .i64 mb, .int .i64 sa, .int .i64 na, .int .i64 sb, .int .i64 nb, .bool both, h0, h1, h2, h3, h4] 31))
 have HB := Aside0.mk (below_alloc (Below.refl w.heap.size w) (.cells #[.int .i64 words, .int .i64 s0, .int .i64 s1, .int .i64 s2, .int .i64 s3, .int .i64 s4, .int .i64 s5, .int .i64 s6, .int .i64 s7, .int .i64 g0, .int .i64 g1, .int .i64 g2, .int .i64 g3, .int .i64 g4, .int .i64 g5, .int .i64 g6, .int .i64 g7, .int .i64 t0, .int .i64 t1, .int .i64 t2, .int .i64 t3, .int .i64 ma, .int .i64 mb, .int .i64 sa, .int .i64 na, .int .i64 sb, .int .i64 nb, .bool both, h0, h1, h2, h3, h4] 31))
 have HN := Aside0.mk (show w.heap.size ≤ (w.alloc (.cells #[.int .i64 words, .int .i64 s0, .int .i64 s1, .int .i64 s2, .int .i64 s3, .int .i64 s4, .int .i64 s5, .int .i64 s6, .int .i64 s7, .int .i64 g0, .int .i64 g1, .int .i64 g2, .int .i64 g3, .int .i64 g4, .int .i64 g5, .int .i64 g6, .int .i64 g7, .int .i64 t0, .int .i64 t1, .int .i64 t2, .int .i64 t3, .int .i64 ma, .int .i64 mb, .int .i64 sa, .int .i64 na, .int .i64 sb, .int .i64 nb, .bool both, h0, h1, h2, h3, h4] 31)).heap.size by rw [World.size_alloc]; omega)
 go_enter Try.func51, Try.ntmps51
 go_upto_region 2 with (fail)
 generalize w.alloc (.cells #[.int .i64 words, .int .i64 s0, .int .i64 s1, .int .i64 s2, .int .i64 s3, .int .i64 s4, .int .i64 s5, .int .i64 s6, .int .i64 s7, .int .i64 g0, .int .i64 g1, .int .i64 g2, .int .i64 g3, .int .i64 g4, .int .i64 g5, .int .i64 g6, .int .i64 g7, .int .i64 t0, .int .i64 t1, .int .i64 t2, .int .i64 t3, .int .i64 ma, .int .i64 mb, .int .i64 sa, .int .i64 na, .int .i64 sb, .int .i64 nb, .bool both, h0, h1, h2, h3, h4] 31) = w1 at HE HB HN ⊢
 have HV := Aside0.mk (StkV.nil w.heap.size w1 none)
 have he21 : _ = some (Value.int .i64 ma) := blk_cell HE.out 21
 have he22 : _ = some (Value.int .i64 mb) := blk_cell HE.out 22
 by_cases h1 : hand = 1
 ·have d1 : (hand == 1) = true := beq_iff_eq.mpr h1
  have HR0 := Aside0.mk (show resP hand ma mb = (if mb = 0 then [ma, 3] else [ma, mb, 3]) from if_pos h1)
  by_cases h2 : mb = 0
  ·have d2 : (mb != 0) = false := bne_eq_false_iff_eq.mpr h2
   have HR := Aside0.mk (HR0.out.trans (if_pos h2))
   clear h1 h2
   go_wp2_with (first | ((with_reducible refine gate_builtin (b := .append) (xs := #[.tmp 8, .tmp 11]) rfl ?_); at_builtin; refine stk_append w.heap.size rfl (.tmp 8) (.tmp 11) rfl _ [] ma rfl rfl HV.out HN.out (by simp) ?_; intro v1 w9 hv1 hb1; obtain ⟨A1, c1, hv2, _⟩ := hv1.read.slice; subst hv2; have n0_ := Aside0.mk ((hb1 (w.heap.size + 1) (w.heap.size + 1)).blk HE.out (.inr (by decide)) (by omega) (by omega)); have n1_ := Aside0.mk (below_trans HB.out ((hb1 w.heap.size w.heap.size).below (Nat.le_refl _) (Nat.le_refl _) (Nat.le_refl _))); have n2_ := Aside0.mk hv1; have n3_ := Aside0.mk (Nat.le_trans HN.out (hb1 w.heap.size w.heap.size).size); clear HE HB HV HN hv1 hb1 he21 he22; have HE := n0_; have HB := n1_; have HV := n2_; have HN := n3_; clear n0_ n1_ n2_ n3_; have he21 : _ = some (Value.int .i64 ma) := blk_cell HE.out 21; have he22 : _ = some (Value.int .i64 mb) := blk_cell HE.out 22) | ((with_reducible refine gate_builtin (b := .append) (xs := #[.tmp 31, .tmp 32]) rfl ?_); at_builtin; refine stk_append w.heap.size rfl (.tmp 31) (.tmp 32) rfl _ ([] ++ [ma]) 3 rfl rfl HV.out HN.out (by simp) ?_; intro v1 w9 hv1 hb1; obtain ⟨A1, c1, hv2, _⟩ := hv1.read.slice; subst hv2; have n0_ := Aside0.mk ((hb1 (w.heap.size + 1) (w.heap.size + 1)).blk HE.out (.inr (by decide)) (by omega) (by omega)); have n1_ := Aside0.mk (below_trans HB.out ((hb1 w.heap.size w.heap.size).below (Nat.le_refl _) (Nat.le_refl _) (Nat.le_refl _))); have n2_ := Aside0.mk hv1; have n3_ := Aside0.mk (Nat.le_trans HN.out (hb1 w.heap.size w.heap.size).size); clear HE HB HV HN hv1 hb1 he21 he22; have HE := n0_; have HB := n1_; have HV := n2_; have HN := n3_; clear n0_ n1_ n2_ n3_; have he21 : _ = some (Value.int .i64 ma) := blk_cell HE.out 21; have he22 : _ = some (Value.int .i64 mb) := blk_cell HE.out 22))
   go_ret
   exact ⟨_, rfl, by rw [HR.out]; exact HV.out.read, HB.out⟩
  have d2 : (mb != 0) = true := bne_iff_ne.mpr h2
  have HR := Aside0.mk (HR0.out.trans (if_neg h2))
  clear h1 h2
  go_wp2_with (first | ((with_reducible refine gate_builtin (b := .append) (xs := #[.tmp 8, .tmp 11]) rfl ?_); at_builtin; refine stk_append w.heap.size rfl (.tmp 8) (.tmp 11) rfl _ [] ma rfl rfl HV.out HN.out (by simp) ?_; intro v1 w9 hv1 hb1; obtain ⟨A1, c1, hv2, _⟩ := hv1.read.slice; subst hv2; have n0_ := Aside0.mk ((hb1 (w.heap.size + 1) (w.heap.size + 1)).blk HE.out (.inr (by decide)) (by omega) (by omega)); have n1_ := Aside0.mk (below_trans HB.out ((hb1 w.heap.size w.heap.size).below (Nat.le_refl _) (Nat.le_refl _) (Nat.le_refl _))); have n2_ := Aside0.mk hv1; have n3_ := Aside0.mk (Nat.le_trans HN.out (hb1 w.heap.size w.heap.size).size); clear HE HB HV HN hv1 hb1 he21 he22; have HE := n0_; have HB := n1_; have HV := n2_; have HN := n3_; clear n0_ n1_ n2_ n3_; have he21 : _ = some (Value.int .i64 ma) := blk_cell HE.out 21; have he22 : _ = some (Value.int .i64 mb) := blk_cell HE.out 22) | ((with_reducible refine gate_builtin (b := .append) (xs := #[.tmp 16, .tmp 19]) rfl ?_); at_builtin; refine stk_append w.heap.size rfl (.tmp 16) (.tmp 19) rfl _ ([] ++ [ma]) mb rfl rfl HV.out HN.out (by simp) ?_; intro v1 w9 hv1 hb1; obtain ⟨A1, c1, hv2, _⟩ := hv1.read.slice; subst hv2; have n0_ := Aside0.mk ((hb1 (w.heap.size + 1) (w.heap.size + 1)).blk HE.out (.inr (by decide)) (by omega) (by omega)); have n1_ := Aside0.mk (below_trans HB.out ((hb1 w.heap.size w.heap.size).below (Nat.le_refl _) (Nat.le_refl _) (Nat.le_refl _))); have n2_ := Aside0.mk hv1; have n3_ := Aside0.mk (Nat.le_trans HN.out (hb1 w.heap.size w.heap.size).size); clear HE HB HV HN hv1 hb1 he21 he22; have HE := n0_; have HB := n1_; have HV := n2_; have HN := n3_; clear n0_ n1_ n2_ n3_; have he21 : _ = some (Value.int .i64 ma) := blk_cell HE.out 21; have he22 : _ = some (Value.int .i64 mb) := blk_cell HE.out 22) | ((with_reducible refine gate_builtin (b := .append) (xs := #[.tmp 31, .tmp 32]) rfl ?_); at_builtin; refine stk_append w.heap.size rfl (.tmp 31) (.tmp 32) rfl _ ([] ++ [ma] ++ [mb]) 3 rfl rfl HV.out HN.out (by simp) ?_; intro v1 w9 hv1 hb1; obtain ⟨A1, c1, hv2, _⟩ := hv1.read.slice; subst hv2; have n0_ := Aside0.mk ((hb1 (w.heap.size + 1) (w.heap.size + 1)).blk HE.out (.inr (by decide)) (by omega) (by omega)); have n1_ := Aside0.mk (below_trans HB.out ((hb1 w.heap.size w.heap.size).below (Nat.le_refl _) (Nat.le_refl _) (Nat.le_refl _))); have n2_ := Aside0.mk hv1; have n3_ := Aside0.mk (Nat.le_trans HN.out (hb1 w.heap.size w.heap.size).size); clear HE HB HV HN hv1 hb1 he21 he22; have HE := n0_; have HB := n1_; have HV := n2_; have HN := n3_; clear n0_ n1_ n2_ n3_; have he21 : _ = some (Value.int .i64 ma) := blk_cell HE.out 21; have he22 : _ = some (Value.int .i64 mb) := blk_cell HE.out 22))
  go_ret
  exact ⟨_, rfl, by rw [HR.out]; exact HV.out.read, HB.out⟩
 have d1 : (hand == 1) = false := beq_eq_false_iff_ne.mpr h1
 have HR0 := Aside0.mk (show resP hand ma mb = (if hand = 2 ∨ hand = 4 then [3] else []) from if_neg h1)
 by_cases h2 : hand = 2
 ·have d2 : (hand == 2) = true := beq_iff_eq.mpr h2
  have HR := Aside0.mk (HR0.out.trans (if_pos (.inl h2)))
  clear h1 h2
  go_wp2_with ((with_reducible refine gate_builtin (b := .append) (xs := #[.tmp 31, .tmp 32]) rfl ?_); at_builtin; refine stk_append w.heap.size rfl (.tmp 31) (.tmp 32) rfl _ [] 3 rfl rfl HV.out HN.out (by simp) ?_; intro v1 w9 hv1 hb1; obtain ⟨A1, c1, hv2, _⟩ := hv1.read.slice; subst hv2; have n0_ := Aside0.mk ((hb1 (w.heap.size + 1) (w.heap.size + 1)).blk HE.out (.inr (by decide)) (by omega) (by omega)); have n1_ := Aside0.mk (below_trans HB.out ((hb1 w.heap.size w.heap.size).below (Nat.le_refl _) (Nat.le_refl _) (Nat.le_refl _))); have n2_ := Aside0.mk hv1; have n3_ := Aside0.mk (Nat.le_trans HN.out (hb1 w.heap.size w.heap.size).size); clear HE HB HV HN hv1 hb1 he21 he22; have HE := n0_; have HB := n1_; have HV := n2_; have HN := n3_; clear n0_ n1_ n2_ n3_; have he21 : _ = some (Value.int .i64 ma) := blk_cell HE.out 21; have he22 : _ = some (Value.int .i64 mb) := blk_cell HE.out 22)
  go_ret
  exact ⟨_, rfl, by rw [HR.out]; exact HV.out.read, HB.out⟩
 have d2 : (hand == 2) = false := beq_eq_false_iff_ne.mpr h2
 by_cases h3 : hand = 4
 ·have d3 : (hand == 4) = true := beq_iff_eq.mpr h3
  have HR := Aside0.mk (HR0.out.trans (if_pos (.inr h3)))
  clear h1 h2 h3
  go_wp2_with ((with_reducible refine gate_builtin (b := .append) (xs := #[.tmp 31, .tmp 32]) rfl ?_); at_builtin; refine stk_append w.heap.size rfl (.tmp 31) (.tmp 32) rfl _ [] 3 rfl rfl HV.out HN.out (by simp) ?_; intro v1 w9 hv1 hb1; obtain ⟨A1, c1, hv2, _⟩ := hv1.read.slice; subst hv2; have n0_ := Aside0.mk ((hb1 (w.heap.size + 1) (w.heap.size + 1)).blk HE.out (.inr (by decide)) (by omega) (by omega)); have n1_ := Aside0.mk (below_trans HB.out ((hb1 w.heap.size w.heap.size).below (Nat.le_refl _) (Nat.le_refl _) (Nat.le_refl _))); have n2_ := Aside0.mk hv1; have n3_ := Aside0.mk (Nat.le_trans HN.out (hb1 w.heap.size w.heap.size).size); clear HE HB HV HN hv1 hb1 he21 he22; have HE := n0_; have HB := n1_; have HV := n2_; have HN := n3_; clear n0_ n1_ n2_ n3_; have he21 : _ = some (Value.int .i64 ma) := blk_cell HE.out 21; have he22 : _ = some (Value.int .i64 mb) := blk_cell HE.out 22)
  go_ret
  exact ⟨_, rfl, by rw [HR.out]; exact HV.out.read, HB.out⟩
 have d3 : (hand == 4) = false := beq_eq_false_iff_ne.mpr h3
 have HR := Aside0.mk (HR0.out.trans (if_neg (fun h => h.elim h2 h3)))
 clear h1 h2 h3
 go_wp2
 go_ret
 exact ⟨_, rfl, by rw [HR.out]; exact HV.out.read, HB.out⟩
end ResQ
section BehA
theorem fill8 {w : World} {b : Nat} {z0 z1 z2 z3 z4 z5 z6 z7 : Int} (h : w.heap[b]? = some (.cells #[.int .i64 z0, .int .i64 z1, .int .i64 z2, .int .i64 z3, .int .i64 z4, .int .i64 z5, .int .i64 z6, .int .i64 z7] 23 (0, 0))) (m0 m1 m2 m3 m4 m5 m6 m7 : Int) :
  ((((((((w.setCell ⟨b, 0, none⟩ (.int .i64 m0)).setCell ⟨b, 1, none⟩ (.int .i64 m1)).setCell ⟨b, 2, none⟩ (.int .i64 m2)).setCell ⟨b, 3, none⟩ (.int .i64 m3)).setCell ⟨b, 4, none⟩ (.int .i64 m4)).setCell ⟨b, 5, none⟩ (.int .i64 m5)).setCell ⟨b, 6, none⟩ (.int .i64 m6)).setCell ⟨b, 7, none⟩ (.int .i64 m7)).heap[b]? = some (.cells #[.int .i64 m0, .int .i64 m1, .int .i64 m2, .int .i64 m3, .int .i64 m4, .int .i64 m5, .int .i64 m6, .int .i64 m7] 23 (0, 0)) ∧ (∀ (v : Value) (ks : List Int), StkR w v ks → StkR ((((((((w.setCell ⟨b, 0, none⟩ (.int .i64 m0)).setCell ⟨b, 1, none⟩ (.int .i64 m1)).setCell ⟨b, 2, none⟩ (.int .i64 m2)).setCell ⟨b, 3, none⟩ (.int .i64 m3)).setCell ⟨b, 4, none⟩ (.int .i64 m4)).setCell ⟨b, 5, none⟩ (.int .i64 m5)).setCell ⟨b, 6, none⟩ (.int .i64 m6)).setCell ⟨b, 7, none⟩ (.int .i64 m7)) v ks) ∧ (∀ w0 : World, Below w0.heap.size w0 w → w0.heap.size ≤ b → Below w0.heap.size w0 ((((((((w.setCell ⟨b, 0, none⟩ (.int .i64 m0)).setCell ⟨b, 1, none⟩ (.int .i64 m1)).setCell ⟨b, 2, none⟩ (.int .i64 m2)).setCell ⟨b, 3, none⟩ (.int .i64 m3)).setCell ⟨b, 4, none⟩ (.int .i64 m4)).setCell ⟨b, 5, none⟩ (.int .i64 m5)).setCell ⟨b, 6, none⟩ (.int .i64 m6)).setCell ⟨b, 7, none⟩ (.int .i64 m7))) := by
 have k0 : _ = some (Obj.cells #[Value.int .i64 m0, Value.int .i64 z1, Value.int .i64 z2, Value.int .i64 z3, Value.int .i64 z4, Value.int .i64 z5, Value.int .i64 z6, Value.int .i64 z7] 23 (0, 0)) := (blk_set h 0 (.int .i64 m0)).trans rfl
 have k1 : _ = some (Obj.cells #[Value.int .i64 m0, Value.int .i64 m1, Value.int .i64 z2, Value.int .i64 z3, Value.int .i64 z4, Value.int .i64 z5, Value.int .i64 z6, Value.int .i64 z7] 23 (0, 0)) := (blk_set k0 1 (.int .i64 m1)).trans rfl
 have k2 : _ = some (Obj.cells #[Value.int .i64 m0, Value.int .i64 m1, Value.int .i64 m2, Value.int .i64 z3, Value.int .i64 z4, Value.int .i64 z5, Value.int .i64 z6, Value.int .i64 z7] 23 (0, 0)) := (blk_set k1 2 (.int .i64 m2)).trans rfl
 have k3 : _ = some (Obj.cells #[Value.int .i64 m0, Value.int .i64 m1, Value.int .i64 m2, Value.int .i64 m3, Value.int .i64 z4, Value.int .i64 z5, Value.int .i64 z6, Value.int .i64 z7] 23 (0, 0)) := (blk_set k2 3 (.int .i64 m3)).trans rfl
 have k4 : _ = some (Obj.cells #[Value.int .i64 m0, Value.int .i64 m1, Value.int .i64 m2, Value.int .i64 m3, Value.int .i64 m4, Value.int .i64 z5, Value.int .i64 z6, Value.int .i64 z7] 23 (0, 0)) := (blk_set k3 4 (.int .i64 m4)).trans rfl
 have k5 : _ = some (Obj.cells #[Value.int .i64 m0, Value.int .i64 m1, Value.int .i64 m2, Value.int .i64 m3, Value.int .i64 m4, Value.int .i64 m5, Value.int .i64 z6, Value.int .i64 z7] 23 (0, 0)) := (blk_set k4 5 (.int .i64 m5)).trans rfl
 have k6 : _ = some (Obj.cells #[Value.int .i64 m0, Value.int .i64 m1, Value.int .i64 m2, Value.int .i64 m3, Value.int .i64 m4, Value.int .i64 m5, Value.int .i64 m6, Value.int .i64 z7] 23 (0, 0)) := (blk_set k5 6 (.int .i64 m6)).trans rfl
 have k7 : _ = some (Obj.cells #[Value.int .i64 m0, Value.int .i64 m1, Value.int .i64 m2, Value.int .i64 m3, Value.int .i64 m4, Value.int .i64 m5, Value.int .i64 m6, Value.int .i64 m7] 23 (0, 0)) := (blk_set k6 7 (.int .i64 m7)).trans rfl
 refine ⟨k7, fun v ks hv => ?_, fun w0 hb hl => ?_⟩
 ·exact (((((((hv.set h (by decide) _ _).set k0 (by decide) _ _).set k1 (by decide) _ _).set k2 (by decide) _ _).set k3 (by decide) _ _).set k4 (by decide) _ _).set k5 (by decide) _ _).set k6 (by decide) _ _
 exact below_set (below_set (below_set (below_set (below_set (below_set (below_set (below_set hb hl) hl) hl) hl) hl) hl) hl) hl
theorem aft_spec {res st ag ct : List Int} {op a : Nat} {s lo : List Int} (hp : tabP op = (⟨#[]⟩ : ByteArray)) (hq : tabQ op = (⟨#[]⟩ : ByteArray)) (hs : tabS op = true) : afterP res st ag ct (kindsOf (tabP op)) (kindsOf (tabQ op)) (tabS op) op a s lo = specP res st ag ct op a s lo := by
 rw [hp, hq, hs]
 unfold afterP
 rw [show kindsOf (⟨#[]⟩ : ByteArray) = [] from rfl]
 show (some s).bind _ = _
 rw [Option.bind_some]
 rcases specP res st ag ct op a s lo with _ | ⟨s2, lo2⟩ <;> rfl
/-- The boxes of the document's behind. -/
structure DQ (W0 : World) (N : Nat) (words s0 s1 s2 s3 s4 s5 s6 s7 g0 g1 g2 g3 g4 g5 g6 g7 t0 t1 t2 t3 ma mb sa na sb nb : Int) (both : Bool) (h0 h1 h2 h3 h4 : Value) (op : Int) (ar : Int) (l0 l1 l2 l3 l4 l5 l6 l7 : Int) (w : World) : Prop where
 c : w.heap[W0.heap.size]? = some (.cells #[.int .i64 words, .int .i64 s0, .int .i64 s1, .int .i64 s2, .int .i64 s3, .int .i64 s4, .int .i64 s5, .int .i64 s6, .int .i64 s7, .int .i64 g0, .int .i64 g1, .int .i64 g2, .int .i64 g3, .int .i64 g4, .int .i64 g5, .int .i64 g6, .int .i64 g7, .int .i64 t0, .int .i64 t1, .int .i64 t2, .int .i64 t3, .int .i64 ma, .int .i64 mb, .int .i64 sa, .int .i64 na, .int .i64 sb, .int .i64 nb, .bool both, h0, h1, h2, h3, h4] 31 (0, 0))
 x : w.heap[W0.heap.size + 1]? = some (.cells #[.int .i64 op, .int .i64 ar] 42 (0, 0))
 lo : w.heap[W0.heap.size + 1 + 1]? = some (.cells #[.int .i64 l0, .int .i64 l1, .int .i64 l2, .int .i64 l3, .int .i64 l4, .int .i64 l5, .int .i64 l6, .int .i64 l7] 23 (0, 0))
 rb : w.heap[W0.heap.size + 1 + 1 + 1]? = some (.cells #[.int .i64 0, .int .i64 0, .int .i64 0, .int .i64 0, .int .i64 0, .int .i64 0, .int .i64 0, .int .i64 0] 23 (0, 0))
 b : Below W0.heap.size W0 w
 n : N ≤ w.heap.size
 m : W0.heap.size + 1 + 1 + 1 + 1 ≤ N
theorem DQ.hold {W0 : World} {N : Nat} {words s0 s1 s2 s3 s4 s5 s6 s7 g0 g1 g2 g3 g4 g5 g6 g7 t0 t1 t2 t3 ma mb sa na sb nb : Int} {both : Bool} {h0 h1 h2 h3 h4 : Value} {op : Int} {ar : Int} {l0 l1 l2 l3 l4 l5 l6 l7 : Int} {w w1 : World} (h : DQ W0 N words s0 s1 s2 s3 s4 s5 s6 s7 g0 g1 g2 g3 g4 g5 g6 g7 t0 t1 t2 t3 ma mb sa na sb nb both h0 h1 h2 h3 h4 op ar l0 l1 l2 l3 l4 l5 l6 l7 w) (hh : ∀ b g, Holds N b g w w1) : DQ W0 N words s0 s1 s2 s3 s4 s5 s6 s7 g0 g1 g2 g3 g4 g5 g6 g7 t0 t1 t2 t3 ma mb sa na sb nb both h0 h1 h2 h3 h4 op ar l0 l1 l2 l3 l4 l5 l6 l7 w1 := by
 have hm := h.m
 have hk : ∀ k, k < N → w1.heap[k]? = w.heap[k]? := fun k hk => (hh N N).block k (.inl hk) (by omega) (by omega)
 exact ⟨(hk _ (by omega)).trans h.c, (hk _ (by omega)).trans h.x, (hk _ (by omega)).trans h.lo, (hk _ (by omega)).trans h.rb, below_trans h.b ((hh N N).below (by omega) (by omega) (by omega)), Nat.le_trans h.n (hh N N).size, h.m⟩
theorem DQ.step {W0 : World} {N : Nat} {words s0 s1 s2 s3 s4 s5 s6 s7 g0 g1 g2 g3 g4 g5 g6 g7 t0 t1 t2 t3 ma mb sa na sb nb : Int} {both : Bool} {h0 h1 h2 h3 h4 : Value} {op : Int} {ar : Int} {l0 l1 l2 l3 l4 l5 l6 l7 : Int} {w w1 : World} (h : DQ W0 N words s0 s1 s2 s3 s4 s5 s6 s7 g0 g1 g2 g3 g4 g5 g6 g7 t0 t1 t2 t3 ma mb sa na sb nb both h0 h1 h2 h3 h4 op ar l0 l1 l2 l3 l4 l5 l6 l7 w) (hb : Below w.heap.size w w1) : DQ W0 N words s0 s1 s2 s3 s4 s5 s6 s7 g0 g1 g2 g3 g4 g5 g6 g7 t0 t1 t2 t3 ma mb sa na sb nb both h0 h1 h2 h3 h4 op ar l0 l1 l2 l3 l4 l5 l6 l7 w1 := h.hold fun b g => Holds.of_below b g h.n hb
theorem lo_set (l0 l1 l2 l3 l4 l5 l6 l7 k : Int) (a : Nat) (ha : a < 8) : ∃ m0 m1 m2 m3 m4 m5 m6 m7 : Int, [l0, l1, l2, l3, l4, l5, l6, l7].set a k = [m0, m1, m2, m3, m4, m5, m6, m7] ∧ #[.int .i64 l0, .int .i64 l1, .int .i64 l2, .int .i64 l3, .int .i64 l4, .int .i64 l5, .int .i64 l6, .int .i64 l7].setIfInBounds a (Value.int .i64 k) = #[.int .i64 m0, .int .i64 m1, .int .i64 m2, .int .i64 m3, .int .i64 m4, .int .i64 m5, .int .i64 m6, .int .i64 m7] := by
 have : a = 0 ∨ a = 1 ∨ a = 2 ∨ a = 3 ∨ a = 4 ∨ a = 5 ∨ a = 6 ∨ a = 7 := by omega
 rcases this with rfl | rfl | rfl | rfl | rfl | rfl | rfl | rfl <;> exact ⟨_, _, _, _, _, _, _, _, rfl, rfl⟩
theorem DQ.setLo {W0 : World} {N : Nat} {words s0 s1 s2 s3 s4 s5 s6 s7 g0 g1 g2 g3 g4 g5 g6 g7 t0 t1 t2 t3 ma mb sa na sb nb : Int} {both : Bool} {h0 h1 h2 h3 h4 : Value} {op : Int} {ar : Int} {l0 l1 l2 l3 l4 l5 l6 l7 : Int} {w : World} (h : DQ W0 N words s0 s1 s2 s3 s4 s5 s6 s7 g0 g1 g2 g3 g4 g5 g6 g7 t0 t1 t2 t3 ma mb sa na sb nb both h0 h1 h2 h3 h4 op ar l0 l1 l2 l3 l4 l5 l6 l7 w) {a : Nat} (ha : a < 8) (k : Int) : ∃ m0 m1 m2 m3 m4 m5 m6 m7 : Int, [l0, l1, l2, l3, l4, l5, l6, l7].set a k = [m0, m1, m2, m3, m4, m5, m6, m7] ∧ DQ W0 N words s0 s1 s2 s3 s4 s5 s6 s7 g0 g1 g2 g3 g4 g5 g6 g7 t0 t1 t2 t3 ma mb sa na sb nb both h0 h1 h2 h3 h4 op ar m0 m1 m2 m3 m4 m5 m6 m7 (w.setCell ⟨W0.heap.size + 1 + 1, a, none⟩ (.int .i64 k)) := by
 obtain ⟨m0, m1, m2, m3, m4, m5, m6, m7, e1, e2⟩ := lo_set l0 l1 l2 l3 l4 l5 l6 l7 k a ha
 refine ⟨m0, m1, m2, m3, m4, m5, m6, m7, e1, ⟨?_, ?_, ?_, ?_, below_set h.b (by show W0.heap.size ≤ W0.heap.size + 1 + 1; omega), by rw [World.size_setCell]; exact h.n, h.m⟩⟩
 ·exact (Below.heap_setCell w ⟨W0.heap.size + 1 + 1, a, none⟩ _ W0.heap.size (by show W0.heap.size ≠ W0.heap.size + 1 + 1; omega)).trans h.c
 ·exact (Below.heap_setCell w ⟨W0.heap.size + 1 + 1, a, none⟩ _ (W0.heap.size + 1) (by show W0.heap.size + 1 ≠ W0.heap.size + 1 + 1; omega)).trans h.x
 ·rw [blk_set h.lo, e2]
 exact (Below.heap_setCell w ⟨W0.heap.size + 1 + 1, a, none⟩ _ (W0.heap.size + 1 + 1 + 1) (by show W0.heap.size + 1 + 1 + 1 ≠ W0.heap.size + 1 + 1; omega)).trans h.rb
theorem StkV.cell {N : Nat} {w : World} {A : Option Addr} {n c : Nat} {ks : List Int} (h : StkV N w (.slice A n c) ks) (i : Nat) (hi : i < ks.length) : ∃ q, A = some ⟨q, 0, none⟩ ∧ N ≤ q ∧ w.cell? ⟨q, i, none⟩ = some (.int .i64 (ks.getD i 0)) ∧ ∀ t, (w.setCell ⟨q, i, none⟩ (.int .i64 t)) = w.setCell ⟨q, i, none⟩ (.int .i64 t) ∧ StkV N (w.setCell ⟨q, i, none⟩ (.int .i64 t)) (.slice A n c) (ks.set i t) ∧ (∀ b g, b < N → g < N → Holds N q q w (w.setCell ⟨q, i, none⟩ (.int .i64 t))) := by
 obtain ⟨q, c', he, _, hc⟩ := h.read.cell i hi
 rcases h with ⟨rfl, _⟩ | ⟨g, cap, cur, he2, hN, hh, hl, hcm, hsz, ht⟩
 ·simp at hi
 injection he with e1 e2 e3
 injection he2 with f1 f2 f3
 subst e1; subst f3
 injection f1 with f1
 injection f1 with f1 _ _
 subst f1
 refine ⟨q, rfl, hN, hc, fun t => ⟨rfl, .inr ⟨q, c, cur.setIfInBounds i (.int .i64 t), by rw [f2, List.length_set], hN, blk_set hh i _, by rw [List.length_set]; exact hl, hcm, by rw [Array.size_setIfInBounds]; exact hsz, ?_⟩, fun b g _ _ => (Holds.refl _ _ _ _).set _ _ (.inl rfl)⟩⟩
 rw [List.length_set, Array.toList_setIfInBounds, List.take_set, ht, nums, nums, List.map_set]
theorem StkV.blk {N : Nat} {w : World} {q n c : Nat} {ks : List Int} (h : StkV N w (.slice (some ⟨q, 0, none⟩) n c) ks) (hl : 0 < ks.length) : ∃ cur, w.heap[q]? = some (.cells cur 22 (0, 0)) := by
 rcases h with ⟨rfl, _⟩ | ⟨g, cap, cur, he2, hN, hh, _⟩
 ·simp at hl
 injection he2 with f1 f2 f3
 injection f1 with f1
 injection f1 with f1 _ _
 subst f1
 exact ⟨cur, hh⟩
theorem DQ.put {W0 : World} {N : Nat} {words s0 s1 s2 s3 s4 s5 s6 s7 g0 g1 g2 g3 g4 g5 g6 g7 t0 t1 t2 t3 ma mb sa na sb nb : Int} {both : Bool} {h0 h1 h2 h3 h4 : Value} {op : Int} {ar : Int} {l0 l1 l2 l3 l4 l5 l6 l7 : Int} {w : World} (h : DQ W0 N words s0 s1 s2 s3 s4 s5 s6 s7 g0 g1 g2 g3 g4 g5 g6 g7 t0 t1 t2 t3 ma mb sa na sb nb both h0 h1 h2 h3 h4 op ar l0 l1 l2 l3 l4 l5 l6 l7 w) (q i : Nat) (v : Value) (hq : N ≤ q) : DQ W0 N words s0 s1 s2 s3 s4 s5 s6 s7 g0 g1 g2 g3 g4 g5 g6 g7 t0 t1 t2 t3 ma mb sa na sb nb both h0 h1 h2 h3 h4 op ar l0 l1 l2 l3 l4 l5 l6 l7 (w.setCell ⟨q, i, none⟩ v) := by
 have hm := h.m
 have hk : ∀ k, k < N → (w.setCell ⟨q, i, none⟩ v).heap[k]? = w.heap[k]? := fun k hk => Below.heap_setCell w ⟨q, i, none⟩ v k (by show k ≠ q; omega)
 exact ⟨(hk _ (by omega)).trans h.c, (hk _ (by omega)).trans h.x, (hk _ (by omega)).trans h.lo, (hk _ (by omega)).trans h.rb, below_set h.b (by show _ ≤ q; omega), by rw [World.size_setCell]; exact h.n, h.m⟩
theorem dup_val {ks lo : List Int} {t : Int} (h0 : 0 < ks.length) (h : ks.getLast? = some t) (hl : ks.length ≤ 32) : (match (some t : Option Int) with | none => none | some k => ((pushP k ks.dropLast).bind (pushP k)).map (fun s2 => (s2, lo))) = if (ks ++ [t]).length ≤ 32 then some (ks ++ [t], lo) else none := by
 have h1 : pushP t ks.dropLast = some ks := by
  unfold pushP
  rw [if_neg (by rw [List.length_dropLast]; omega)]
  congr 1
  obtain ⟨ys, rfl⟩ := List.getLast?_eq_some_iff.1 h
  rw [List.dropLast_concat]
 simp only [h1, Option.bind_some, List.length_append, List.length_singleton]
 unfold pushP
 by_cases hc : 32 ≤ ks.length
 ·rw [if_pos hc, if_neg (by omega)]; rfl
 rw [if_neg hc, if_pos (by omega)]; rfl
theorem exec_load31 {W : World} {o : Oper} {ev : Operand → Value} (x : Operand) {b : Nat} {words s0 s1 s2 s3 s4 s5 s6 s7 g0 g1 g2 g3 g4 g5 g6 g7 t0 t1 t2 t3 ma mb sa na sb nb : Int} {both : Bool} {h0 h1 h2 h3 h4 : Value} (ho : o.op = .load 31 x) (hx : ev x = .pointer (some ⟨b, 0, none⟩)) (hc : W.heap[b]? = some (.cells #[.int .i64 words, .int .i64 s0, .int .i64 s1, .int .i64 s2, .int .i64 s3, .int .i64 s4, .int .i64 s5, .int .i64 s6, .int .i64 s7, .int .i64 g0, .int .i64 g1, .int .i64 g2, .int .i64 g3, .int .i64 g4, .int .i64 g5, .int .i64 g6, .int .i64 g7, .int .i64 t0, .int .i64 t1, .int .i64 t2, .int .i64 t3, .int .i64 ma, .int .i64 mb, .int .i64 sa, .int .i64 na, .int .i64 sb, .int .i64 nb, .bool both, h0, h1, h2, h3, h4] 31 (0, 0))) : (execOp ev o).run Try.prog W = .ok (.value (.agg #[.int .i64 words, .int .i64 s0, .int .i64 s1, .int .i64 s2, .int .i64 s3, .int .i64 s4, .int .i64 s5, .int .i64 s6, .int .i64 s7, .int .i64 g0, .int .i64 g1, .int .i64 g2, .int .i64 g3, .int .i64 g4, .int .i64 g5, .int .i64 g6, .int .i64 g7, .int .i64 t0, .int .i64 t1, .int .i64 t2, .int .i64 t3, .int .i64 ma, .int .i64 mb, .int .i64 sa, .int .i64 na, .int .i64 sb, .int .i64 nb, .bool both, h0, h1, h2, h3, h4])) W :=
 by
 have hi : (Try.prog.info? 31).map (·.size) = some 33 := by kernel_rfl
 have hl := run_loadVar_row (P := Try.prog) W b 31 31 _ (0, 0) _ hc Try.underlying31 rfl hi
 unfold execOp
 simp only [ho, hx, Instr.loadAt, Instr.sureAddr, Sem.run_bind, Sem.run_pure, Result.andThen_ok, hl]
theorem exec_load23 {W : World} {o : Oper} {ev : Operand → Value} (x : Operand) {b : Nat} {l0 l1 l2 l3 l4 l5 l6 l7 : Int} (ho : o.op = .load 23 x) (hx : ev x = .pointer (some ⟨b, 0, none⟩)) (hc : W.heap[b]? = some (.cells #[.int .i64 l0, .int .i64 l1, .int .i64 l2, .int .i64 l3, .int .i64 l4, .int .i64 l5, .int .i64 l6, .int .i64 l7] 23 (0, 0))) : (execOp ev o).run Try.prog W = .ok (.value (.agg #[.int .i64 l0, .int .i64 l1, .int .i64 l2, .int .i64 l3, .int .i64 l4, .int .i64 l5, .int .i64 l6, .int .i64 l7])) W :=
 by
 have hi : (Try.prog.info? 23).map (·.size) = some 8 := by kernel_rfl
 have hl := run_loadVar_row (P := Try.prog) W b 23 23 _ (0, 0) _ hc Try.underlying23 rfl hi
 unfold execOp
 simp only [ho, hx, Instr.loadAt, Instr.sureAddr, Sem.run_bind, Sem.run_pure, Result.andThen_ok, hl]
theorem if32 {r lo : List Int} (h : r.length ≤ 32) : some (r, lo) = if r.length ≤ 32 then some (r, lo) else none := (if_pos h).symm
theorem push32 {ks lo : List Int} (k : Int) : (pushP k ks).map (fun s2 => (s2, lo)) = if (ks ++ [k]).length ≤ 32 then some (ks ++ [k], lo) else none := by
 unfold pushP
 rw [List.length_append, List.length_singleton]
 by_cases hc : 32 ≤ ks.length
 ·rw [if_pos hc, if_neg (by omega)]; rfl
 rw [if_neg hc, if_pos (by omega)]; rfl
theorem swap_val {ks lo : List Int} {y z : Int} (h2 : 2 ≤ ks.length) (hl : ks.length ≤ 32) (hy : ks.getD (ks.length - 1) 0 = y) (hz : ks.getD (ks.length - 2) 0 = z) : (match ks.getLast?, ks.dropLast.getLast? with
  | some y, some z => ((pushP y ks.dropLast.dropLast).bind (pushP z)).map (fun s2 => (s2, lo))
  | _, _ => none) = some ((ks.set (ks.length - 1) z).set (ks.length - 2) y, lo) := by
 obtain ⟨ys, u, v, rfl⟩ : ∃ ys u v, ks = ys ++ [u] ++ [v] := by
  have h0 : ks ≠ [] := fun e => by rw [e] at h2; simp at h2
  have e1 := List.dropLast_concat_getLast h0
  have h3 : ks.dropLast ≠ [] := fun e => by have := congrArg List.length e; rw [List.length_dropLast] at this; simp at this; omega
  have e2 := List.dropLast_concat_getLast h3
  exact ⟨_, _, _, by rw [e2, e1]⟩
 rw [List.dropLast_concat, List.dropLast_concat]
 simp only [List.length_append, List.length_singleton] at hy hz hl h2 ⊢
 rw [show ys.length + 1 + 1 - 1 = ys.length + 1 from rfl] at hy ⊢
 rw [show ys.length + 1 + 1 - 2 = ys.length from rfl] at hz ⊢
 have hy' : v = y := by rw [← hy]; simp
 have hz' : u = z := by rw [← hz]; simp
 subst hy' hz'
 have g1 : (ys ++ [u] ++ [v]).getLast? = some v := by simp
 have g2 : (ys ++ [u]).getLast? = some u := by simp
 rw [g1, g2]
 simp only
 have g3 : pushP v ys = some (ys ++ [v]) := by unfold pushP; rw [if_neg (by omega)]
 have g4 : pushP u (ys ++ [v]) = some (ys ++ [v] ++ [u]) := by unfold pushP; rw [if_neg (by rw [List.length_append, List.length_singleton]; omega)]
 rw [g3, Option.bind_some, g4]
 show some (_, lo) = _
 congr 2
 simp [List.set_append]
theorem lo_cell {w : World} {b : Nat} {l0 l1 l2 l3 l4 l5 l6 l7 : Int} (h : w.heap[b]? = some (.cells #[.int .i64 l0, .int .i64 l1, .int .i64 l2, .int .i64 l3, .int .i64 l4, .int .i64 l5, .int .i64 l6, .int .i64 l7] 23 (0, 0))) (i : Nat) (hi : i < 8) : w.cell? ⟨b, i, none⟩ = some (.int .i64 ([l0, l1, l2, l3, l4, l5, l6, l7].getD i 0)) := by
 rw [blk_cell h i]
 have : i = 0 ∨ i = 1 ∨ i = 2 ∨ i = 3 ∨ i = 4 ∨ i = 5 ∨ i = 6 ∨ i = 7 := by omega
 rcases this with rfl | rfl | rfl | rfl | rfl | rfl | rfl | rfl <;> rfl
theorem pop_neg {ks : List Int} {t k : Int} (h : ks.getLast? = some t) (hk : k ≠ 0) (e : t ≠ k) : popP k ks = none := by
 unfold popP
 rw [h]
 exact if_pos ⟨hk, e⟩
theorem pop_pos {ks : List Int} {t k : Int} (h : ks.getLast? = some t) (e : k = 0 ∨ t = k) : popP k ks = some (ks.take (ks.length - 1)) := by
 unfold popP
 rw [h, ← List.dropLast_eq_take]
 exact if_neg (fun g => e.elim g.1 g.2)
theorem take_len {ks : List Int} : (ks.take (ks.length - 1)).length = ks.length - 1 := by rw [List.length_take]; omega
end BehA
end Go.Proofs.Ytcpcpmojallcdaa.QLoomChecks
