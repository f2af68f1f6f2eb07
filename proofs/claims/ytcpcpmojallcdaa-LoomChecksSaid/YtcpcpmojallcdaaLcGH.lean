/- LoomChecks: Look. Conditions: as each theorem says. -/
import Derived.Test.YtcpcpmojallcdaaLcQ
import Derived.Test.YtcpcpmojallcdaaLcGG
namespace Go.Proofs.Ytcpcpmojallcdaa.QLoomChecks
open Go.RowKit Go.Proofs.YtcpcpmojallcdaaW.PrintWords Go.Proofs.YtcpcpmojallcdaaW.PrintLast Go.Proofs.YtcpcpmojallcdaaW.PrintMore
set_option linter.unusedVariables false
set_option linter.unusedSimpArgs false
section Look
theorem blk_of_wk {N cb wb g : Nat} {hand at_ : Int} {iv sv : Value} {w0 : World} {w : World} {ks lo : List Int} (h : WkAt N cb wb g hand at_ iv sv w0 w ks lo) : w.heap[wb]? = some (.cells ((w.heap[wb]?.bind (fun o => match o with | .cells cs _ _ => some cs | _ => none)).getD #[]) 65 (0, 0)) := by
  obtain ⟨⟨kv, l0, l1, l2, l3, l4, l5, l6, l7, rfl, h1, h2⟩, h3⟩ := h
  rw [h1]
  rfl
set_option maxHeartbeats 8000000 in
set_option maxRecDepth 100000 in
theorem wk_fill {w : World} {cb wb : Nat} {hand at_ l0 l1 l2 l3 l4 l5 l6 l7 : Int} {iv sv kv : Value} (h : w.heap[wb]? = some (.cells #[.pointer (some ⟨cb, 0, none⟩), .int .i64 hand, iv, sv, .int .i64 at_, kv, .int .i64 l0, .int .i64 l1, .int .i64 l2, .int .i64 l3, .int .i64 l4, .int .i64 l5, .int .i64 l6, .int .i64 l7] 65 (0, 0))) {N M : Nat} {v : Value} {ks : List Int} (hv : StkV M w v ks) (hN : N ≤ M) {w0 : World} (hh : Holds N wb wb w0 w) (a0 a1 a2 a3 a4 a5 a6 a7 : Int) :
    WkAt N cb wb wb hand at_ iv sv w0 (((((((((w.setCell ⟨wb, 5, none⟩ v).setCell ⟨wb, 6, none⟩ (.int .i64 a0)).setCell ⟨wb, 7, none⟩ (.int .i64 a1)).setCell ⟨wb, 8, none⟩ (.int .i64 a2)).setCell ⟨wb, 9, none⟩ (.int .i64 a3)).setCell ⟨wb, 10, none⟩ (.int .i64 a4)).setCell ⟨wb, 11, none⟩ (.int .i64 a5)).setCell ⟨wb, 12, none⟩ (.int .i64 a6)).setCell ⟨wb, 13, none⟩ (.int .i64 a7)) ks [a0, a1, a2, a3, a4, a5, a6, a7] := by
  have hv := hv.less hN
  have k0 : _ = some (Obj.cells #[Value.pointer (some ⟨cb, 0, none⟩), .int .i64 hand, iv, sv, .int .i64 at_, v, .int .i64 l0, .int .i64 l1, .int .i64 l2, .int .i64 l3, .int .i64 l4, .int .i64 l5, .int .i64 l6, .int .i64 l7] 65 (0, 0)) := (blk_set h 5 v).trans rfl
  have k1 : _ = some (Obj.cells #[Value.pointer (some ⟨cb, 0, none⟩), .int .i64 hand, iv, sv, .int .i64 at_, v, .int .i64 a0, .int .i64 l1, .int .i64 l2, .int .i64 l3, .int .i64 l4, .int .i64 l5, .int .i64 l6, .int .i64 l7] 65 (0, 0)) := (blk_set k0 6 (.int .i64 a0)).trans rfl
  have k2 : _ = some (Obj.cells #[Value.pointer (some ⟨cb, 0, none⟩), .int .i64 hand, iv, sv, .int .i64 at_, v, .int .i64 a0, .int .i64 a1, .int .i64 l2, .int .i64 l3, .int .i64 l4, .int .i64 l5, .int .i64 l6, .int .i64 l7] 65 (0, 0)) := (blk_set k1 7 (.int .i64 a1)).trans rfl
  have k3 : _ = some (Obj.cells #[Value.pointer (some ⟨cb, 0, none⟩), .int .i64 hand, iv, sv, .int .i64 at_, v, .int .i64 a0, .int .i64 a1, .int .i64 a2, .int .i64 l3, .int .i64 l4, .int .i64 l5, .int .i64 l6, .int .i64 l7] 65 (0, 0)) := (blk_set k2 8 (.int .i64 a2)).trans rfl
  have k4 : _ = some (Obj.cells #[Value.pointer (some ⟨cb, 0, none⟩), .int .i64 hand, iv, sv, .int .i64 at_, v, .int .i64 a0, .int .i64 a1, .int .i64 a2, .int .i64 a3, .int .i64 l4, .int .i64 l5, .int .i64 l6, .int .i64 l7] 65 (0, 0)) := (blk_set k3 9 (.int .i64 a3)).trans rfl
  have k5 : _ = some (Obj.cells #[Value.pointer (some ⟨cb, 0, none⟩), .int .i64 hand, iv, sv, .int .i64 at_, v, .int .i64 a0, .int .i64 a1, .int .i64 a2, .int .i64 a3, .int .i64 a4, .int .i64 l5, .int .i64 l6, .int .i64 l7] 65 (0, 0)) := (blk_set k4 10 (.int .i64 a4)).trans rfl
  have k6 : _ = some (Obj.cells #[Value.pointer (some ⟨cb, 0, none⟩), .int .i64 hand, iv, sv, .int .i64 at_, v, .int .i64 a0, .int .i64 a1, .int .i64 a2, .int .i64 a3, .int .i64 a4, .int .i64 a5, .int .i64 l6, .int .i64 l7] 65 (0, 0)) := (blk_set k5 11 (.int .i64 a5)).trans rfl
  have k7 : _ = some (Obj.cells #[Value.pointer (some ⟨cb, 0, none⟩), .int .i64 hand, iv, sv, .int .i64 at_, v, .int .i64 a0, .int .i64 a1, .int .i64 a2, .int .i64 a3, .int .i64 a4, .int .i64 a5, .int .i64 a6, .int .i64 l7] 65 (0, 0)) := (blk_set k6 12 (.int .i64 a6)).trans rfl
  have k8 : _ = some (Obj.cells #[Value.pointer (some ⟨cb, 0, none⟩), .int .i64 hand, iv, sv, .int .i64 at_, v, .int .i64 a0, .int .i64 a1, .int .i64 a2, .int .i64 a3, .int .i64 a4, .int .i64 a5, .int .i64 a6, .int .i64 a7] 65 (0, 0)) := (blk_set k7 13 (.int .i64 a7)).trans rfl
  have v0 := hv.set h (by decide) 5 v
  have v1 := v0.set k0 (by decide) 6 (.int .i64 a0)
  have v2 := v1.set k1 (by decide) 7 (.int .i64 a1)
  have v3 := v2.set k2 (by decide) 8 (.int .i64 a2)
  have v4 := v3.set k3 (by decide) 9 (.int .i64 a3)
  have v5 := v4.set k4 (by decide) 10 (.int .i64 a4)
  have v6 := v5.set k5 (by decide) 11 (.int .i64 a5)
  have v7 := v6.set k6 (by decide) 12 (.int .i64 a6)
  have v8 := v7.set k7 (by decide) 13 (.int .i64 a7)
  exact ⟨⟨v, a0, a1, a2, a3, a4, a5, a6, a7, rfl, k8, v8⟩, ((((((((hh.set _ _ (.inl rfl)).set _ _ (.inl rfl)).set _ _ (.inl rfl)).set _ _ (.inl rfl)).set _ _ (.inl rfl)).set _ _ (.inl rfl)).set _ _ (.inl rfl)).set _ _ (.inl rfl)).set _ _ (.inl rfl)⟩
set_option maxHeartbeats 8000000 in
set_option maxRecDepth 100000 in
theorem lookR (words s0 s1 s2 s3 s4 s5 s6 s7 g0 g1 g2 g3 g4 g5 g6 g7 t0 t1 t2 t3 ma mb sa na sb nb : Int) (both : Bool) (h0 h1 h2 h3 h4 : Value) (cb wb g B n c cap : Nat) (hand at0 l0 l1 l2 l3 l4 l5 l6 l7 : Int) (kv0 : Value) (A : Option Addr) (L : List S42) (ss : List Sg) (i op a : Nat) (w : World)
    (hcB : cb < B) (hbB : B ≤ wb) (hgB : B ≤ g) (hw : w.heap[wb]? = some (.cells #[.pointer (some ⟨cb, 0, none⟩), .int .i64 hand, (.slice A n c), (.slice (some ⟨g, 0, none⟩) ss.length cap), .int .i64 at0, kv0, .int .i64 l0, .int .i64 l1, .int .i64 l2, .int .i64 l3, .int .i64 l4, .int .i64 l5, .int .i64 l6, .int .i64 l7] 65 (0, 0))) (hc : w.heap[cb]? = some (.cells #[.int .i64 words, .int .i64 s0, .int .i64 s1, .int .i64 s2, .int .i64 s3, .int .i64 s4, .int .i64 s5, .int .i64 s6, .int .i64 s7, .int .i64 g0, .int .i64 g1, .int .i64 g2, .int .i64 g3, .int .i64 g4, .int .i64 g5, .int .i64 g6, .int .i64 g7, .int .i64 t0, .int .i64 t1, .int .i64 t2, .int .i64 t3, .int .i64 ma, .int .i64 mb, .int .i64 sa, .int .i64 na, .int .i64 sb, .int .i64 nb, .bool both, h0, h1, h2, h3, h4] 31 (0, 0))) (hs : SgAt 67 g w ss) (hok : AllOk ss) (hL : L.length = n) (hn : ss.length = n + 1) (hn5 : n ≤ 512) (hi : i < n + 1) (hins : InsAt B w A L) (hx : i < n → InsOk n (L.getD i z42) op a) :
    Calls Try.prog 23 #[.pointer (some ⟨wb, 0, none⟩), .int .i64 (i : Int)] w fun e w' => ((i = n ∨ ((afterP (resP hand ma mb) [s0, s1, s2, s3, s4, s5, s6, s7] [g0, g1, g2, g3, g4, g5, g6, g7] [t0, t1, t2, t3] (kindsOf (tabP op)) (kindsOf (tabQ op)) (tabS op) op a (ss.getD i Sg.zero).stack (ss.getD i Sg.zero).locals).bind fun x => reachAll x.1 x.2 (nxP op a i) (ss.set i { ss.getD i Sg.zero with due := false })) = none) ∧ e = .panicked [{ v := .iface 44 (.agg #[.int .i64 hand, .int .i64 (i : Int)]), recovered := false }] ∧ Holds w.heap.size wb g w w') ∨ ∃ ss' kv' m0 m1 m2 m3 m4 m5 m6 m7, i ≠ n ∧ ((afterP (resP hand ma mb) [s0, s1, s2, s3, s4, s5, s6, s7] [g0, g1, g2, g3, g4, g5, g6, g7] [t0, t1, t2, t3] (kindsOf (tabP op)) (kindsOf (tabQ op)) (tabS op) op a (ss.getD i Sg.zero).stack (ss.getD i Sg.zero).locals).bind fun x => reachAll x.1 x.2 (nxP op a i) (ss.set i { ss.getD i Sg.zero with due := false })) = some ss' ∧ e = .returned (.tuple #[]) ∧ w'.heap[wb]? = some (.cells #[.pointer (some ⟨cb, 0, none⟩), .int .i64 hand, (.slice A n c), (.slice (some ⟨g, 0, none⟩) ss.length cap), .int .i64 (i : Int), kv', .int .i64 m0, .int .i64 m1, .int .i64 m2, .int .i64 m3, .int .i64 m4, .int .i64 m5, .int .i64 m6, .int .i64 m7] 65 (0, 0)) ∧ SgAt 67 g w' ss' ∧ Holds w.heap.size wb g w w' := by
  have hwg : wb ≠ g := by
    obtain ⟨A, hA, _⟩ := hs
    exact blk_ne hw hA (by decide)
  have hwN := blk_lt hw
  have hgN := hs.lt
  have hii : i < ss.length := by omega
  -- the world behind 's.due = false', 'w.at = at'
  have HN1 := Aside0.mk (show ((w.setCell ⟨g, i * 11 + 1, none⟩ (.bool false)).setCell ⟨wb, 4, none⟩ (.int .i64 (i : Int))).heap.size = w.heap.size by simp [World.setCell])
  have HA1 := Aside0.mk (show Holds w.heap.size wb g w ((w.setCell ⟨g, i * 11 + 1, none⟩ (.bool false)).setCell ⟨wb, 4, none⟩ (.int .i64 (i : Int))) by exact ((Holds.refl _ wb g w).set _ _ (.inr rfl)).set _ _ (.inl rfl))
  have HG1 := Aside0.mk (show SgAt 67 g ((w.setCell ⟨g, i * 11 + 1, none⟩ (.bool false)).setCell ⟨wb, 4, none⟩ (.int .i64 (i : Int))) (ss.set i { ss.getD i Sg.zero with due := false }) by
    exact (hs.putD (by decide) hii false).far ((Below.heap_setCell w ⟨g, i * 11 + 1, none⟩ _ wb hwg).trans hw) (by decide) (by decide) _ _)
  have HE1 := Aside0.mk (show ((w.setCell ⟨g, i * 11 + 1, none⟩ (.bool false)).setCell ⟨wb, 4, none⟩ (.int .i64 (i : Int))).heap[wb]? = some (.cells #[.pointer (some ⟨cb, 0, none⟩), .int .i64 hand, (.slice A n c), (.slice (some ⟨g, 0, none⟩) ss.length cap), .int .i64 (i : Int), kv0, .int .i64 l0, .int .i64 l1, .int .i64 l2, .int .i64 l3, .int .i64 l4, .int .i64 l5, .int .i64 l6, .int .i64 l7] 65 (0, 0)) by
    rw [blk_set ((Below.heap_setCell w ⟨g, i * 11 + 1, none⟩ _ wb hwg).trans hw)]
    rfl)
  have HC1 := Aside0.mk (show ((w.setCell ⟨g, i * 11 + 1, none⟩ (.bool false)).setCell ⟨wb, 4, none⟩ (.int .i64 (i : Int))).heap[cb]? = some (.cells #[.int .i64 words, .int .i64 s0, .int .i64 s1, .int .i64 s2, .int .i64 s3, .int .i64 s4, .int .i64 s5, .int .i64 s6, .int .i64 s7, .int .i64 g0, .int .i64 g1, .int .i64 g2, .int .i64 g3, .int .i64 g4, .int .i64 g5, .int .i64 g6, .int .i64 g7, .int .i64 t0, .int .i64 t1, .int .i64 t2, .int .i64 t3, .int .i64 ma, .int .i64 mb, .int .i64 sa, .int .i64 na, .int .i64 sb, .int .i64 nb, .bool both, h0, h1, h2, h3, h4] 31 (0, 0)) from HA1.out.blk hc (.inl (by omega)) (by omega) (by omega))
  have HI1 := Aside0.mk (show InsAt B ((w.setCell ⟨g, i * 11 + 1, none⟩ (.bool false)).setCell ⟨wb, 4, none⟩ (.int .i64 (i : Int))) A L from hins.move (fun k hk => HA1.out.block k (.inl (by omega)) (by omega) (by omega)))
  have hcs := hs.cells i hii
  have c1 := hcs.2.1
  have he3 : _ = some (Value.slice (some ⟨g, 0, none⟩) ss.length cap) := blk_cell hw 3
  have he4 : (w.setCell ⟨g, i * 11 + 1, none⟩ (.bool false)).cell? ⟨wb, 4, none⟩ = some (Value.int .i64 at0) := by
    rw [cell_heap (a := ⟨wb, 4, none⟩) (Below.heap_setCell w ⟨g, i * 11 + 1, none⟩ _ wb hwg)]
    exact blk_cell hw 4
  have hf1 := hs.frozen (i * 11 + 1)
  have hf4 : (w.setCell ⟨g, i * 11 + 1, none⟩ (.bool false)).frozen? ⟨wb, 4, none⟩ = false := blk_frozen ((Below.heap_setCell w ⟨g, i * 11 + 1, none⟩ _ wb hwg).trans hw) 4
  have q1 : 0 ≤ (i : Int) ∧ (i : Int) < (ss.length : Int) := ⟨Int.natCast_nonneg i, Int.ofNat_lt.mpr hii⟩
  have HS := Aside0.mk hs
  have HW := Aside0.mk hw
  have HOK := Aside0.mk hok
  have HNN := Aside0.mk hn
  obtain ⟨S1, hS1⟩ : ∃ S1, S1 = ss.set i { ss.getD i Sg.zero with due := false } := ⟨_, rfl⟩
  have HS1 := Aside0.mk hS1
  clear hs hw hok hcs hins hc hn hS1
  go_enter Try.func23, Try.ntmps23
  go_upto_region 3 with (fail)
  generalize ((w.setCell ⟨g, i * 11 + 1, none⟩ (.bool false)).setCell ⟨wb, 4, none⟩ (.int .i64 (i : Int))) = w1 at HN1 HA1 HG1 HE1 HC1 HI1 ⊢
  have hel2 : w1.cell? ⟨wb, 2, none⟩ = some (Value.slice A n c) := blk_cell HE1.out 2
  clear c1 he3 he4 hf1 hf4
  by_cases hin : i = n
  · subst hin
    have d1 : ((i : Int) == (i : Int)) = true := beq_iff_eq.mpr rfl
    go_wp2_with (go_at_call 39; refine (failR _ _ _ _ _ _ _ _ _ _ _ _ _ _ _ w1 HE1.out).mono ?_; rintro e w2 ⟨rfl, ⟨nd, rfl⟩⟩)
    exact ⟨rfl, rfl, HA1.out.drewN nd⟩
  have d1 : ((i : Int) == (n : Int)) = false := beq_eq_false_iff_ne.mpr (by omega)
  go_upto_region 5 with (fail)
  obtain ⟨s, hsd⟩ : ∃ s, s = ss.getD i Sg.zero := ⟨_, rfl⟩
  obtain ⟨r, d, st, lc⟩ := s
  have HSD := Aside0.mk hsd
  have hcs := HG1.out.cells i (by rw [List.length_set]; exact hii)
  rw [getD_set_eq _ hii, ← hsd] at hcs
  obtain ⟨_, _, ⟨v, c2, hv⟩, hn8, c3⟩ := hcs
  have hst : st.length ≤ 32 := by
    have := (HOK.out.getD i).2.1
    rw [← hsd] at this
    exact this
  have HST := Aside0.mk hst
  simp only at c2 hv hn8 c3
  clear hsd
  match lc, hn8 with
  | [a0, a1, a2, a3, a4, a5, a6, a7], _ =>
  have HV := Aside0.mk hv
  clear hv hst
  have d30 : w1.cell? ⟨g, i * 11 + 3, none⟩ = some (.int .i64 a0) := c3 0 (by omega)
  have d31 : w1.cell? ⟨g, i * 11 + 4, none⟩ = some (.int .i64 a1) := c3 1 (by omega)
  have d32 : w1.cell? ⟨g, i * 11 + 5, none⟩ = some (.int .i64 a2) := c3 2 (by omega)
  have d33 : w1.cell? ⟨g, i * 11 + 6, none⟩ = some (.int .i64 a3) := c3 3 (by omega)
  have d34 : w1.cell? ⟨g, i * 11 + 7, none⟩ = some (.int .i64 a4) := c3 4 (by omega)
  have d35 : w1.cell? ⟨g, i * 11 + 8, none⟩ = some (.int .i64 a5) := c3 5 (by omega)
  have d36 : w1.cell? ⟨g, i * 11 + 9, none⟩ = some (.int .i64 a6) := c3 6 (by omega)
  have d37 : w1.cell? ⟨g, i * 11 + 10, none⟩ = some (.int .i64 a7) := c3 7 (by omega)
  clear c3 hel2
  go_cut [] from 33 to 47 (fun W => Aside0 (WkAt w.heap.size cb wb wb hand (i : Int) (.slice A n c) (.slice (some ⟨g, 0, none⟩) ss.length cap) w1 W st [a0, a1, a2, a3, a4, a5, a6, a7]))
  case first =>
    have HVD := Aside0.mk (HV.out.below (below_drew (Below.refl w1.heap.size w1)))
    have HGW := Aside0.mk hgN
    go_region_with ((go_at_call 40; refine (cloneR _ v st HVD.out (by have := HST.out; omega)).mono ?_; rintro e w2 ⟨v2, rfl, hv2, hb2⟩; obtain ⟨A2, c2', hvv, _⟩ := hv2.read.slice; subst hvv; have HB2 := Aside0.mk (below_step (below_drew (Below.refl w1.heap.size w1)) hb2); have hE2 := (HB2.out.block wb (blk_lt HE1.out)).trans HE1.out; have e30 := pw_cell_below HB2.out d30; have e31 := pw_cell_below HB2.out d31; have e32 := pw_cell_below HB2.out d32; have e33 := pw_cell_below HB2.out d33; have e34 := pw_cell_below HB2.out d34; have e35 := pw_cell_below HB2.out d35; have e36 := pw_cell_below HB2.out d36; have e37 := pw_cell_below HB2.out d37; have b5 : _ = some kv0 := blk_cell hE2 5; have b6 : _ = some (Value.int .i64 l0) := blk_cell hE2 6; have b7 : _ = some (Value.int .i64 l1) := blk_cell hE2 7; have b8 : _ = some (Value.int .i64 l2) := blk_cell hE2 8; have b9 : _ = some (Value.int .i64 l3) := blk_cell hE2 9; have b10 : _ = some (Value.int .i64 l4) := blk_cell hE2 10; have b11 : _ = some (Value.int .i64 l5) := blk_cell hE2 11; have b12 : _ = some (Value.int .i64 l6) := blk_cell hE2 12; have b13 : _ = some (Value.int .i64 l7) := blk_cell hE2 13; have g5 := blk_frozen hE2 5; have g6 := blk_frozen hE2 6; have g7 := blk_frozen hE2 7; have g8 := blk_frozen hE2 8; have g9 := blk_frozen hE2 9; have g10 := blk_frozen hE2 10; have g11 := blk_frozen hE2 11; have g12 := blk_frozen hE2 12; have g13 := blk_frozen hE2 13; have HV2 := Aside0.mk hv2; have HE2 := Aside0.mk hE2; clear hv2 hE2 hb2))
    all_goals go_wp2
    all_goals go_meet
    all_goals exact ⟨wk_fill HE2.out HV2.out (by rw [show w1.drew.heap.size = w1.heap.size from rfl, HN1.out]; exact Nat.le_refl _) (Holds.of_below wb wb (by rw [HN1.out]; exact Nat.le_refl _) HB2.out) a0 a1 a2 a3 a4 a5 a6 a7⟩
  case rest =>
    have HWC := hcut
    clear hcut d30 d31 d32 d33 d34 d35 d36 d37 c2
    have hilt : i < n := by omega
    have HIN := Aside0.mk hin
    obtain ⟨ad, hA, hab, hi0, hi1⟩ := (HI1.out.move (fun k hk => HWC.out.hold.block k (.inl (by omega)) (by omega) (by omega))) i (by omega)
    subst hA
    have IOK := Aside0.mk (hx hilt)
    obtain ⟨x, hxe⟩ : ∃ x, x = L.getD i z42 := ⟨_, rfl⟩
    rw [← hxe] at hi0 hi1 IOK
    rw [IOK.out.opE] at hi0
    have hcl := HWC.out.blk
    obtain ⟨kv1, m0, m1, m2, m3, m4, m5, m6, m7, hm, hbl, _⟩ := hcl
    have he2 : wc.cell? ⟨wb, 2, none⟩ = some (Value.slice (some ad) n c) := blk_cell hbl 2
    have q2 : 0 ≤ (i : Int) ∧ (i : Int) < (n : Int) := ⟨Int.natCast_nonneg i, Int.ofNat_lt.mpr hilt⟩
    have HTB := Aside0.mk (table_ok op IOK.out.lt).1
    have HLT := Aside0.mk IOK.out.lt
    clear hbl hm d1 hab hin hxe hx hi hilt
    go_upto_region 7 with (fail)
    have HMS := Aside0.mk (show w.heap.size ≤ w1.heap.size by rw [HN1.out]; exact Nat.le_refl _)
    have HX := Aside0.mk (heap_alloc_new wc (.cells #[.int .i64 (op : Int), .int .i64 x.f1] 42))
    have HW := Aside0.mk (HWC.out.step HMS.out (below_alloc (Below.refl wc.heap.size wc) (.cells #[.int .i64 (op : Int), .int .i64 x.f1] 42)))
    generalize wc.alloc (.cells #[.int .i64 (op : Int), .int .i64 x.f1] 42) = w3 at HX HW ⊢
    generalize wc.heap.size = xb at HX ⊢
    have hx0 : _ = some (Value.int .i64 (op : Int)) := blk_cell HX.out 0
    clear HWC he2 hi0 hi1
    obtain ⟨nm, hnm⟩ : ∃ y, y = tabN op := ⟨_, rfl⟩
    obtain ⟨hh, hhh⟩ : ∃ y, y = tabH op := ⟨_, rfl⟩
    obtain ⟨aa, haa⟩ : ∃ y, y = tabA op := ⟨_, rfl⟩
    obtain ⟨p, hp⟩ : ∃ y, y = tabP op := ⟨_, rfl⟩
    obtain ⟨q, hq⟩ : ∃ y, y = tabQ op := ⟨_, rfl⟩
    obtain ⟨sp, hsp⟩ : ∃ y, y = tabS op := ⟨_, rfl⟩
    rw [← hnm, ← hhh, ← haa, ← hp, ← hq, ← hsp] at HTB
    have HPP := Aside0.mk hp
    have HQQ := Aside0.mk hq
    have HSS := Aside0.mk hsp
    clear hnm hhh haa hp hq hsp
    go_upto_region 8 with (go_at_call 19; refine (loom_specs.calls _ _ _ _ _ _ _ _ HTB.out).mono ?_; rintro e w4 ⟨rfl, hb⟩; have n0_ := Aside0.mk (HW.out.step HMS.out hb); have n1_ := Aside0.mk ((hb.block xb (blk_lt HX.out)).trans HX.out); clear HW HX hx0 hb; have HW := n0_; have HX := n1_; clear n0_ n1_)
    have n0_ := Aside0.mk (HW.out.step HMS.out (below_alloc (Below.refl w4.heap.size w4) (.cells #[.string nm, .int .i64 hh, .int .i64 aa, .string p, .string q, .bool sp] 59)))
    have n1_ := Aside0.mk ((Below.heap_alloc w4 (.cells #[.string nm, .int .i64 hh, .int .i64 aa, .string p, .string q, .bool sp] 59) xb (blk_lt HX.out)).trans HX.out)
    have HP := Aside0.mk (heap_alloc_new w4 (.cells #[.string nm, .int .i64 hh, .int .i64 aa, .string p, .string q, .bool sp] 59))
    clear HW HX
    have HW := n0_
    have HX := n1_
    clear n0_ n1_
    generalize w4.alloc (.cells #[.string nm, .int .i64 hh, .int .i64 aa, .string p, .string q, .bool sp] 59) = w5 at HW HX HP ⊢
    generalize w4.heap.size = pb at HP ⊢
    have hs3 : _ = some (Value.string p) := blk_cell HP.out 3
    clear HTB
    have HPS := Aside0.mk (show p.size ≤ 4 ∧ q.size ≤ 4 by rw [HPP.out, HQQ.out]; exact tab_small op HLT.out)
    have hps := HPS.out.1
    obtain ⟨F1, hF1⟩ : ∃ F, popsP (kindsOf p).reverse st = F := ⟨_, rfl⟩
    have HF1 := Aside0.mk hF1
    have HWN := Aside0.mk hwN
    have HLK := Aside0.mk (show ((afterP (resP hand ma mb) [s0, s1, s2, s3, s4, s5, s6, s7] [g0, g1, g2, g3, g4, g5, g6, g7] [t0, t1, t2, t3] (kindsOf (tabP op)) (kindsOf (tabQ op)) (tabS op) op a (ss.getD i Sg.zero).stack (ss.getD i Sg.zero).locals).bind fun x => reachAll x.1 x.2 (nxP op a i) (ss.set i { ss.getD i Sg.zero with due := false })) = ((F1.bind fun z1 => (if sp = true then specP (resP hand ma mb) [s0, s1, s2, s3, s4, s5, s6, s7] [g0, g1, g2, g3, g4, g5, g6, g7] [t0, t1, t2, t3] op a z1 [a0, a1, a2, a3, a4, a5, a6, a7] else some (z1, [a0, a1, a2, a3, a4, a5, a6, a7])).bind fun x => (pushesP (kindsOf q) x.1).map fun z3 => (z3, x.2)).bind fun x => reachAll x.1 x.2 (nxP op a i) S1) by rw [← HS1.out, ← HSD.out, ← HPP.out, ← HQQ.out, ← HSS.out, ← hF1]; rfl)
    clear hF1
    go_wp2
    clear hps
    go_loopg [7] p.size (fun kq v7 w' => ∃ (j : Nat) (s : List Int) (y : Int), v7 = .int .i64 y ∧ Aside0 (y = (j : Int) - 1 ∧ kq = j ∧ j ≤ p.size) ∧ Aside0 (popsP ((kindsOf p).take j).reverse s = F1) ∧ Aside0 (s.length ≤ 32) ∧ Aside0 (WkAt w.heap.size cb wb wb hand (i : Int) (.slice (some ad) n c) (.slice (some ⟨g, 0, none⟩) ss.length cap) w1 w' s [a0, a1, a2, a3, a4, a5, a6, a7]) ∧ Aside0 (w'.heap[xb]? = some (.cells #[.int .i64 (op : Int), .int .i64 x.f1] 42)) ∧ Aside0 (w'.heap[pb]? = some (.cells #[.string nm, .int .i64 hh, .int .i64 aa, .string p, .string q, .bool sp] 59)))
    case atStart => exact ⟨p.size, st, _, rfl, ⟨rfl, rfl, Nat.le_refl _⟩, ⟨by rw [List.take_of_length_le (by rw [kinds_len]; exact Nat.le_refl _)]; exact HF1.out⟩, HST, HW, HX, HP⟩
    case round =>
      clear HW HX HP hs3
      obtain ⟨j, s, y, rfl, HJ, HFJ, HSL, HW, HX, HP⟩ := hrel
      have hs3 : _ = some (Value.string p) := blk_cell HP.out 3
      rcases Nat.eq_zero_or_pos j with hj0 | hj0
      · have d1 : decide (y ≥ 0) = false := decide_eq_false (by have := HJ.out.1; omega)
        subst hj0
        have HF1s := Aside0.mk (show F1 = some s from HFJ.out.symm)
        have HLK2 := Aside0.mk (show _ = ((((if sp = true then specP (resP hand ma mb) [s0, s1, s2, s3, s4, s5, s6, s7] [g0, g1, g2, g3, g4, g5, g6, g7] [t0, t1, t2, t3] op a s [a0, a1, a2, a3, a4, a5, a6, a7] else some (s, [a0, a1, a2, a3, a4, a5, a6, a7])).bind fun x => (pushesP (kindsOf q) x.1).map fun s3 => (s3, x.2))).bind fun x => reachAll x.1 x.2 (nxP op a i) S1) from HLK.out.trans (by rw [HF1s.out]; rfl))
        clear HLK HFJ hs3
        have hs5 : _ = some (Value.bool sp) := blk_cell HP.out 5
        go_upto_if 74 with (fail)
        obtain ⟨F2, hF2⟩ : ∃ F, (if sp = true then specP (resP hand ma mb) [s0, s1, s2, s3, s4, s5, s6, s7] [g0, g1, g2, g3, g4, g5, g6, g7] [t0, t1, t2, t3] op a s [a0, a1, a2, a3, a4, a5, a6, a7] else some (s, [a0, a1, a2, a3, a4, a5, a6, a7])) = F := ⟨_, rfl⟩
        rw [hF2] at HLK2
        have HF2 := Aside0.mk hF2
        have HFF := HF2
        clear hF2 hs5
        go_cut [] from 75 to 77 (fun W => ∃ (z2 lo2 : List Int), Aside0 (F2 = some (z2, lo2)) ∧ Aside0 (WkAt w.heap.size cb wb wb hand (i : Int) (.slice (some ad) n c) (.slice (some ⟨g, 0, none⟩) ss.length cap) w1 W z2 lo2) ∧ Aside0 (W.heap[xb]? = some (.cells #[.int .i64 (op : Int), .int .i64 x.f1] 42)) ∧ Aside0 (W.heap[pb]? = some (.cells #[.string nm, .int .i64 hh, .int .i64 aa, .string p, .string q, .bool sp] 59)))
        case first =>
          rcases sp with _ | _
          · go_wp2
            go_meet
            exact ⟨s, [a0, a1, a2, a3, a4, a5, a6, a7], ⟨by rw [← HF2.out]; rfl⟩, HW, HX, HP⟩
          have HXW := Aside0.mk (show xb ≠ wb from blk_ne HX.out (blk_of_wk HW.out) (by decide))
          have HPW := Aside0.mk (show pb ≠ wb from blk_ne HP.out (blk_of_wk HW.out) (by decide))
          have hts := tab_special op HLT.out HSS.out.symm
          have HOP := Aside0.mk hts.1
          have ha1 := IOK.out.arg hts.1
          have hx0 : _ = some (Value.int .i64 (op : Int)) := blk_cell HX.out 0
          have hx1 : _ = some (Value.int .i64 (a : Int)) := (blk_cell HX.out 1).trans (by rw [← ha1]; rfl)
          have H14 := Aside0.mk (show 14 ≤ op → a < 4 from fun h => IOK.out.h14 h (by have := HOP.out; omega))
          have HCB := Aside0.mk (show cb < w.heap.size ∧ cb ≠ wb by omega)
          clear hts ha1
          rcases hsq : specP (resP hand ma mb) [s0, s1, s2, s3, s4, s5, s6, s7] [g0, g1, g2, g3, g4, g5, g6, g7] [t0, t1, t2, t3] op a s [a0, a1, a2, a3, a4, a5, a6, a7] with _ | ⟨z2, lo2⟩
          · have HN := Aside0.mk (show F2 = none by rw [← HF2.out, if_pos rfl]; exact hsq)
            go_wp2_with (go_at_call 43; (with_reducible refine (specBad words s0 s1 s2 s3 s4 s5 s6 s7 g0 g1 g2 g3 g4 g5 g6 g7 t0 t1 t2 t3 ma mb sa na sb nb both h0 h1 h2 h3 h4 w.heap.size cb wb wb hand (i : Int) (.slice (some ad) n c) (.slice (some ⟨g, 0, none⟩) ss.length cap) w1 _ s [a0, a1, a2, a3, a4, a5, a6, a7] op a HWN.out HMS.out (by have := HSL.out; omega) HCB.out.1 HCB.out.2 HCB.out.2 HC1.out HOP.out IOK.out.h7 IOK.out.h8 IOK.out.h10 H14.out hsq HW.out).mono ?_); rintro e w7 ⟨rfl, hh⟩; have HH := Aside0.mk hh; clear hh)
            exact ⟨rfl, .inl ⟨.inr (by rw [HLK2.out, HN.out]; rfl), rfl, HA1.out.trans (HH.out.more g)⟩⟩
          have HN := Aside0.mk (show F2 = some (z2, lo2) by rw [← HF2.out, if_pos rfl]; exact hsq)
          go_wp2_with (go_at_call 43; (with_reducible refine (specGood2 words s0 s1 s2 s3 s4 s5 s6 s7 g0 g1 g2 g3 g4 g5 g6 g7 t0 t1 t2 t3 ma mb sa na sb nb both h0 h1 h2 h3 h4 w.heap.size cb wb wb hand (i : Int) (.slice (some ad) n c) (.slice (some ⟨g, 0, none⟩) ss.length cap) w1 _ s [a0, a1, a2, a3, a4, a5, a6, a7] z2 lo2 op a HWN.out HMS.out (by have := HSL.out; omega) HCB.out.1 HCB.out.2 HCB.out.2 HC1.out HOP.out IOK.out.h7 IOK.out.h8 IOK.out.h10 H14.out hsq HW.out).mono ?_); rintro e w7 ⟨rfl, hw, hh⟩; have n0_ := Aside0.mk hw; have n1_ := Aside0.mk (hh.blk (show _ = _ from HX.out) (.inr (by decide)) HXW.out HXW.out); have n2_ := Aside0.mk (hh.blk (show _ = _ from HP.out) (.inr (by decide)) HPW.out HPW.out); clear HW HX HP hw hh hx0 hx1; have HW := n0_; have HX := n1_; have HP := n2_; clear n0_ n1_ n2_)
          go_meet
          exact ⟨z2, lo2, HN, HW, HX, HP⟩
        case rest =>
          clear HW HX HP HF2
          obtain ⟨z2, lo2, HF2, HW, HX, HP⟩ := hcut
          have HLK3 := Aside0.mk (show _ = (((pushesP (kindsOf q) z2).map fun z3 => (z3, lo2)).bind fun x => reachAll x.1 x.2 (nxP op a i) S1) from HLK2.out.trans (by rw [HF2.out]; rfl))
          have HZ2 := Aside0.mk (show z2.length ≤ 32 ∧ lo2.length = 8 from by
            have h1 := HFF.out
            rw [HF2.out] at h1
            cases hsp : sp with
            | false =>
              rw [hsp] at h1
              injection h1 with h1
              injection h1 with e1 e2
              rw [← e1, ← e2]
              exact ⟨HSL.out, rfl⟩
            | true =>
              rw [hsp] at h1
              have h2 := spec_len HSL.out (show _ = some (z2, lo2) from h1)
              exact ⟨h2.1, h2.2⟩)
          obtain ⟨F3, hF3⟩ : ∃ F, pushesP (kindsOf q) z2 = F := ⟨_, rfl⟩
          rw [hF3] at HLK3
          have HF3 := Aside0.mk hF3
          have hqs := HPS.out.2
          have hs4 : _ = some (Value.string q) := blk_cell HP.out 4
          clear hF3 HLK2 HSL HFF
          go_wp2
          clear hqs
          go_loopg [81] q.size (fun kq v81 w' => ∃ (j : Nat) (s : List Int), v81 = .int .i64 (j : Int) ∧ Aside0 (kq + j = q.size) ∧ Aside0 (pushesP ((kindsOf q).drop j) s = F3) ∧ Aside0 (s.length ≤ 32) ∧ Aside0 (WkAt w.heap.size cb wb wb hand (i : Int) (.slice (some ad) n c) (.slice (some ⟨g, 0, none⟩) ss.length cap) w1 w' s lo2) ∧ Aside0 (w'.heap[xb]? = some (.cells #[.int .i64 (op : Int), .int .i64 x.f1] 42)) ∧ Aside0 (w'.heap[pb]? = some (.cells #[.string nm, .int .i64 hh, .int .i64 aa, .string p, .string q, .bool sp] 59)))
          case atStart => exact ⟨0, z2, rfl, ⟨rfl⟩, HF3, ⟨HZ2.out.1⟩, HW, HX, HP⟩
          case round =>
            clear HW HX HP hs4 HF3
            obtain ⟨j, s, rfl, HJ, HFJ, HSL, HW, HX, HP⟩ := hrel
            have hs4 : _ = some (Value.string q) := blk_cell HP.out 4
            by_cases hjq : j < q.size
            · have d1 : decide ((j : Int) < (q.size : Int)) = true := decide_eq_true (by omega)
              have d2 : decide (j < q.size) = true := decide_eq_true hjq
              have HJQ := Aside0.mk hjq
              have hix := fun W => index9 q W j HJQ.out
              have hdr : (kindsOf q).drop j = kindOf1 q[j] :: (kindsOf q).drop (j + 1) := by
                rw [List.drop_eq_getElem_cons (by rw [kinds_len]; exact hjq)]
                have := kinds_get q j hjq
                rw [List.getD_eq_getElem?_getD, List.getElem?_eq_getElem (by rw [kinds_len]; exact hjq)] at this
                rw [show (kindsOf q)[j]'(by rw [kinds_len]; exact hjq) = kindOf1 q[j] from this]
              obtain ⟨b, hb⟩ : ∃ b, b = q[j] := ⟨_, rfl⟩
              rw [← hb] at hdr hix
              have HKV := Aside0.mk (kind_val b)
              obtain ⟨kb, hkb⟩ : ∃ x, x = kindOf1 b := ⟨_, rfl⟩
              rw [← hkb] at hdr HKV
              have hF2 : (pushP kb s).bind (pushesP ((kindsOf q).drop (j + 1))) = F3 := by
                have := HFJ.out
                rw [hdr] at this
                exact this
              have HXW := Aside0.mk (show xb ≠ wb from blk_ne HX.out (blk_of_wk HW.out) (by decide))
              have HPW := Aside0.mk (show pb ≠ wb from blk_ne HP.out (blk_of_wk HW.out) (by decide))
              have hwr : wrap64 ((j : Int) + 1) = ((j + 1 : Nat) : Int) := by
                have := HPS.out.2
                unfold wrap64
                omega
              have HWR := Aside0.mk hwr
              clear hb hdr hjq hkb hwr
              obtain ⟨k1_, rfl⟩ : ∃ k1_, gk = k1_ + 1 := ⟨gk - 1, by have := HJ.out; have := HJQ.out; omega⟩
              rcases hp : pushP kb s with _ | z3
              · rw [hp] at hF2
                have HF2 := Aside0.mk hF2
                clear hF2
                go_wp2_with (first | (go_at_call 42; refine (loom_kindOf.calls _ _ _ HKV.out).mono ?_; rintro e w6 ⟨rfl, ⟨nd, rfl⟩⟩) | (go_at_call 44; (with_reducible refine (pushBad w.heap.size cb wb wb hand (i : Int) (.slice (some ad) n c) (.slice (some ⟨g, 0, none⟩) ss.length cap) w1 _ s lo2 kb HWN.out HMS.out (by have := HSL.out; omega) hp (HW.out.step HMS.out (pw_below_drewN (Below.refl _ _) _))).mono ?_); rintro e w7 ⟨rfl, hh⟩; have HH := Aside0.mk hh; clear hh))
                exact ⟨rfl, .inl ⟨.inr (by rw [HLK3.out, ← HF2.out]; rfl), rfl, HA1.out.trans (HH.out.more g)⟩⟩
              have HSL2 := Aside0.mk (push_len hp)
              rw [hp] at hF2
              have HF2 := Aside0.mk (show pushesP ((kindsOf q).drop (j + 1)) z3 = F3 from hF2)
              clear hF2
              go_wp2_with (first | (go_at_call 42; refine (loom_kindOf.calls _ _ _ HKV.out).mono ?_; rintro e w6 ⟨rfl, ⟨nd, rfl⟩⟩) | (go_at_call 44; (with_reducible refine (pushGood2 w.heap.size cb wb wb hand (i : Int) (.slice (some ad) n c) (.slice (some ⟨g, 0, none⟩) ss.length cap) w1 _ s z3 lo2 kb HWN.out HMS.out (by have := HSL.out; omega) hp (HW.out.step HMS.out (pw_below_drewN (Below.refl _ _) _))).mono ?_); rintro e w7 ⟨rfl, hw, hh⟩; have n0_ := Aside0.mk hw; have n1_ := Aside0.mk (hh.blk (show _ = _ from HX.out) (.inr (by decide)) HXW.out HXW.out); have n2_ := Aside0.mk (hh.blk (show _ = _ from HP.out) (.inr (by decide)) HPW.out HPW.out); clear HW HX HP hw hh; have HW := n0_; have HX := n1_; have HP := n2_; clear n0_ n1_ n2_))
              go_roundg k1_
              case measure => omega
              case rel => exact ⟨j + 1, z3, (by first | rfl | (rw [HWR.out])), ⟨by have := HJ.out; omega⟩, HF2, HSL2, HW, HX, HP⟩
            have d1 : decide ((j : Int) < (q.size : Int)) = false := decide_eq_false (by omega)
            have d2 : decide (j < q.size) = false := decide_eq_false hjq
            have HF3s := Aside0.mk (show F3 = some s by
              have h1 := HFJ.out
              rw [List.drop_eq_nil_of_le (by rw [kinds_len]; omega)] at h1
              exact h1.symm)
            have HLK4 := Aside0.mk (show _ = reachAll s lo2 (nxP op a i) S1 from HLK3.out.trans (by rw [HF3s.out]; rfl))
            have HON : Aside0 (loom_onward.f (op : Int) x.f1 (i : Int) = some ((nxP op a i).map (fun (t : Nat) => (t : Int)))) := ⟨by
              have h1 := onward_val IOK.out i (by have := HNN.out; omega)
              rw [IOK.out.opE] at h1
              exact h1⟩
            have HXT := Aside0.mk (nx_lt IOK.out (i := i) (by have := HNN.out; have := HIN.out; omega))
            have hx0 : _ = some (Value.int .i64 (op : Int)) := blk_cell HX.out 0
            have hx1 : _ = some (Value.int .i64 x.f1) := blk_cell HX.out 1
            have HG := Aside0.mk (show SgAt 67 g wr S1 by rw [HS1.out]; exact HG1.out.hold HW.out.hold (by rw [HN1.out]; exact Nat.le_refl _) HE1.out hwg.symm)
            clear HFJ HLK3 hs4 hjq HP
            generalize hnx : nxP op a i = nx at HON HLK4 HXT
            obtain ⟨xs, hxs⟩ : ∃ xs : List Int, xs = nx.map (fun (t : Nat) => (t : Int)) := ⟨_, rfl⟩
            rw [← hxs] at HON
            have HXS := Aside0.mk hxs
            have HNX := Aside0.mk hnx
            clear hxs hnx
            go_upto_block 4 with (go_at_call 45; refine (loom_onward.calls _ _ _ _ _ HON.out).mono ?_; rintro e w8 ⟨v0, rfl, hR, hb⟩; obtain ⟨A0, c0, hv0⟩ := Kd.R_slice hR; subst hv0; have n0_ := Aside0.mk (HW.out.step HMS.out hb); have n1_ := Aside0.mk (HG.out.below hb); have HR := Aside0.mk (Kd.R_lower hR (Nat.zero_le _)); clear HW HG HX hx0 hx1 hR hb; have HW := n0_; have HG := n1_; clear n0_ n1_)
            have HWG := Aside0.mk (show WkAt w.heap.size cb wb g hand (i : Int) (.slice (some ad) n c) (.slice (some ⟨g, 0, none⟩) ss.length cap) w1 _ s lo2 from ⟨HW.out.blk, HW.out.hold.more g⟩)
            clear HW
            obtain ⟨F4, hF4⟩ : ∃ F, reachAll s lo2 nx S1 = F := ⟨_, rfl⟩
            rw [hF4] at HLK4
            have HF4 := Aside0.mk hF4
            have HSZ := Aside0.mk (show AllOk S1 ∧ S1.length = ss.length by
              rw [HS1.out]
              have h1 := HOK.out.getD i
              exact ⟨HOK.out.set i ⟨h1.1, h1.2.1, fun h => by cases h⟩, by rw [List.length_set]⟩)
            have HGN := Aside0.mk hgN
            clear hF4
            go_wp2
            go_loopg [96] xs.length (fun kq v96 w' => ∃ (j : Nat) (sj : List Sg), v96 = .int .i64 (j : Int) ∧ Aside0 (kq + j = xs.length) ∧ Aside0 (reachAll s lo2 (nx.drop j) sj = F4) ∧ Aside0 (AllOk sj ∧ sj.length = ss.length) ∧ Aside0 (WkAt w.heap.size cb wb g hand (i : Int) (.slice (some ad) n c) (.slice (some ⟨g, 0, none⟩) ss.length cap) w1 w' s lo2) ∧ Aside0 (SgAt 67 g w' sj) ∧ Aside0 ((Kd.int .i64).R 3 w' 0 (fun _ => True) (.slice A0 xs.length c0) xs))
            case atStart => exact ⟨0, S1, rfl, ⟨rfl⟩, HF4, HSZ, HWG, HG, HR⟩
            case round =>
              clear HWG HG HR HF4 HSZ
              obtain ⟨j, sj, rfl, HJ, HFJ, HSZ, HW, HG, HR⟩ := hrel
              by_cases hjx : j < xs.length
              · have d1 : decide ((j : Int) < (xs.length : Int)) = true := decide_eq_true (by omega)
                have d2 : decide (j < xs.length) = true := decide_eq_true hjx
                have hnl : nx.length = xs.length := by rw [HXS.out, List.length_map]
                obtain ⟨A1, c1_, he, hcl, hC⟩ := Kd.R_reads HR.out
                injection he with e1 e2 e3
                subst e1
                obtain ⟨ad1, hA1, hcell⟩ := int_at hC j hjx
                subst hA1
                have hcx : c1_ = c0 := e3.symm
                have q3 : 0 ≤ (j : Int) ∧ (j : Int) < (xs.length : Int) := ⟨Int.natCast_nonneg j, Int.ofNat_lt.mpr hjx⟩
                obtain ⟨t, ht⟩ : ∃ t, t = nx.getD j 0 := ⟨_, rfl⟩
                have hxt : xs.getD j 0 = (t : Int) := by
                  rw [HXS.out, ht, List.getD_eq_getElem?_getD, List.getElem?_map, List.getD_eq_getElem?_getD, List.getElem?_eq_getElem (by omega)]
                  rfl
                rw [hxt] at hcell
                have htm : t ∈ nx := by
                  rw [ht, List.getD_eq_getElem?_getD, List.getElem?_eq_getElem (by omega)]
                  exact List.getElem_mem _
                have HTN := Aside0.mk (HXT.out.1 t htm)
                have hdr : nx.drop j = t :: nx.drop (j + 1) := by
                  rw [List.drop_eq_getElem_cons (by omega), ht, List.getD_eq_getElem?_getD, List.getElem?_eq_getElem (by omega)]
                  rfl
                have hF2 : (reachP s lo2 (sj.getD t Sg.zero)).bind (fun g' => reachAll s lo2 (nx.drop (j + 1)) (sj.set t g')) = F4 := by
                  have := HFJ.out
                  rw [hdr] at this
                  exact this
                have HWR := Aside0.mk (show wrap64 ((j : Int) + 1) = ((j + 1 : Nat) : Int) by
                  have := HXT.out.2
                  unfold wrap64
                  omega)
                have HSV := Aside0.mk (show (Value.slice (some ⟨g, 0, none⟩) ss.length cap) = .slice (some ⟨g, 0, none⟩) sj.length cap by rw [HSZ.out.2])
                have HTT := Aside0.mk (show t < sj.length by have := HTN.out; have := HSZ.out.2; have := HNN.out; omega)
                have HTS := Aside0.mk (show (sj.getD t Sg.zero).stack.length ≤ 500 by have := (HSZ.out.1.getD t).2.1; omega)
                have HTL := Aside0.mk (show sj.length ≤ 1000 by have := HSZ.out.2; have := HNN.out; omega)
                have HS5 := Aside0.mk (show s.length ≤ 500 by have := HSL.out; omega)
                have HJX := Aside0.mk hjx
                have HNL := Aside0.mk hnl
                clear hC hcl e2 e3 hxt htm hdr ht hjx hnl hcx
                obtain ⟨k1_, rfl⟩ : ∃ k1_, gk = k1_ + 1 := ⟨gk - 1, by have := HJ.out; have := HJX.out; omega⟩
                rcases hp : reachP s lo2 (sj.getD t Sg.zero) with _ | g'
                · rw [hp] at hF2
                  have HF2 := Aside0.mk hF2
                  clear hF2
                  go_wp2_with (go_at_call 46; (with_reducible refine (reachBad w.heap.size cb wb g hand (i : Int) (.slice (some ad) n c) (.slice (some ⟨g, 0, none⟩) ss.length cap) w1 _ s lo2 sj t cap HWN.out HGN.out HMS.out HS5.out HSV.out HTT.out HTS.out HTL.out hp HW.out HG.out).mono ?_); rintro e w7 ⟨rfl, hh⟩; have HH := Aside0.mk hh; clear hh)
                  exact ⟨rfl, .inl ⟨.inr (by rw [HNX.out, HLK4.out, ← HF2.out]; rfl), rfl, HA1.out.trans HH.out⟩⟩
                rw [hp] at hF2
                have HF2 := Aside0.mk (show reachAll s lo2 (nx.drop (j + 1)) (sj.set t g') = F4 from hF2)
                clear hF2
                have HOK2 := Aside0.mk (show AllOk (sj.set t g') ∧ (sj.set t g').length = ss.length from ⟨HSZ.out.1.set t (reachP_mu (HSZ.out.1.getD t) HZ2.out.2 HSL.out hp).2, by rw [List.length_set]; exact HSZ.out.2⟩)
                go_wp2_with (go_at_call 46; (with_reducible refine (reachGood2 w.heap.size cb wb g hand (i : Int) (.slice (some ad) n c) (.slice (some ⟨g, 0, none⟩) ss.length cap) w1 _ s lo2 sj t cap g' HWN.out HGN.out HMS.out HS5.out HSV.out HTT.out HTS.out HTL.out hp HW.out HG.out).mono ?_); rintro e w7 ⟨rfl, hw, hg, hh⟩; have n0_ := Aside0.mk (R3_hold HR.out hh (blk_of_wk HW.out) (blk_of_sg HG.out) (by decide) (by decide)); have n1_ := Aside0.mk hw; have n2_ := Aside0.mk hg; clear HW HG HR hw hg hh hcell; have HR := n0_; have HW := n1_; have HG := n2_; clear n0_ n1_ n2_)
                go_roundg k1_
                case measure => omega
                case rel => exact ⟨j + 1, _, (by first | rfl | (rw [HWR.out])), ⟨by have := HJ.out; omega⟩, HF2, HOK2, HW, HG, HR⟩
              have d1 : decide ((j : Int) < (xs.length : Int)) = false := decide_eq_false (by omega)
              have d2 : decide (j < xs.length) = false := decide_eq_false hjx
              have HF4s := Aside0.mk (show F4 = some sj by
                have h1 := HFJ.out
                rw [List.drop_eq_nil_of_le (by have : nx.length = xs.length := by rw [HXS.out, List.length_map]
                                               omega)] at h1
                exact h1.symm)
              clear hjx
              go_wp2
              go_end0
              obtain ⟨⟨kv', m0, m1, m2, m3, m4, m5, m6, m7, hm, hblk, _⟩, hhold⟩ := HW.out
              exact .inr ⟨sj, kv', m0, m1, m2, m3, m4, m5, m6, m7, HIN.out, (by rw [HNX.out]; exact HLK4.out.trans HF4s.out), rfl, hblk, HG.out, HA1.out.trans hhold⟩
      have d1 : decide (y ≥ 0) = true := decide_eq_true (by have := HJ.out.1; omega)
      obtain ⟨j, rfl⟩ : ∃ j1, j = j1 + 1 := ⟨j - 1, by omega⟩
      obtain rfl : y = (j : Int) := by have := HJ.out.1; omega
      have hjp : j < p.size := by have := HJ.out.2.2; omega
      have HJP := Aside0.mk hjp
      have hix := fun W => index9 p W j HJP.out
      have hrev : ((kindsOf p).take (j + 1)).reverse = kindOf1 p[j] :: ((kindsOf p).take j).reverse := by
        rw [List.take_succ_eq_append_getElem (by rw [kinds_len]; exact hjp), List.reverse_append]
        have := kinds_get p j hjp
        rw [List.getD_eq_getElem?_getD, List.getElem?_eq_getElem (by rw [kinds_len]; exact hjp)] at this
        rw [show (kindsOf p)[j]'(by rw [kinds_len]; exact hjp) = kindOf1 p[j] from this]
        rfl
      obtain ⟨b, hb⟩ : ∃ b, b = p[j] := ⟨_, rfl⟩
      have hne := kind_ne b
      rw [← hb] at hrev hix
      have HKV := Aside0.mk (kind_val b)
      obtain ⟨kb, hkb⟩ : ∃ x, x = kindOf1 b := ⟨_, rfl⟩
      rw [← hkb] at hrev HKV hne
      have hF2 : (popP kb s).bind (popsP ((kindsOf p).take j).reverse) = F1 := by
        have := HFJ.out
        rw [hrev] at this
        exact this
      have HXW := Aside0.mk (show xb ≠ wb from blk_ne HX.out (blk_of_wk HW.out) (by decide))
      have HPW := Aside0.mk (show pb ≠ wb from blk_ne HP.out (blk_of_wk HW.out) (by decide))
      clear hb hrev hjp hkb hj0
      obtain ⟨k1_, rfl⟩ : ∃ k1_, gk = k1_ + 1 := ⟨gk - 1, by have := HJ.out.2.1; omega⟩
      rcases hp : popP kb s with _ | z2
      · rw [hp] at hF2
        have HF2 := Aside0.mk hF2
        clear hF2
        go_wp2_with (first | (go_at_call 42; refine (loom_kindOf.calls _ _ _ HKV.out).mono ?_; rintro e w6 ⟨rfl, ⟨nd, rfl⟩⟩) | (go_at_call 41; (with_reducible refine (popBad w.heap.size cb wb wb hand (i : Int) (.slice (some ad) n c) (.slice (some ⟨g, 0, none⟩) ss.length cap) w1 _ s [a0, a1, a2, a3, a4, a5, a6, a7] kb HWN.out HMS.out (by have := HSL.out; omega) hp (HW.out.step HMS.out (pw_below_drewN (Below.refl _ _) _))).mono ?_); rintro e w7 ⟨rfl, hh⟩; have HH := Aside0.mk hh; clear hh))
        exact ⟨rfl, .inl ⟨.inr (by rw [HLK.out, ← HF2.out]; rfl), rfl, HA1.out.trans (HH.out.more g)⟩⟩
      have hg : ∃ t, s.getLast? = some t := by
        unfold popP at hp
        split at hp
        · cases hp
        exact ⟨_, by assumption⟩
      obtain ⟨t, hg⟩ := hg
      have hl2 : z2.length ≤ 32 := by
        unfold popP at hp
        rw [hg] at hp
        simp only at hp
        split at hp
        · cases hp
        injection hp with hp
        rw [← hp, List.length_dropLast]
        have := HSL.out
        omega
      have HSL2 := Aside0.mk hl2
      rw [hp] at hF2
      have HF2 := Aside0.mk (show popsP ((kindsOf p).take j).reverse z2 = F1 from hF2)
      clear hF2 hl2
      go_wp2_with (first | (go_at_call 42; refine (loom_kindOf.calls _ _ _ HKV.out).mono ?_; rintro e w6 ⟨rfl, ⟨nd, rfl⟩⟩) | (go_at_call 41; (with_reducible refine (popGood2 w.heap.size cb wb wb hand (i : Int) (.slice (some ad) n c) (.slice (some ⟨g, 0, none⟩) ss.length cap) w1 _ s z2 [a0, a1, a2, a3, a4, a5, a6, a7] kb HWN.out HMS.out (by have := HSL.out; omega) hp t hg (HW.out.step HMS.out (pw_below_drewN (Below.refl _ _) _))).mono ?_); rintro e w7 ⟨rfl, hw, hh⟩; have n0_ := Aside0.mk hw; have n1_ := Aside0.mk (hh.blk (show _ = _ from HX.out) (.inr (by decide)) HXW.out HXW.out); have n2_ := Aside0.mk (hh.blk (show _ = _ from HP.out) (.inr (by decide)) HPW.out HPW.out); clear HW HX HP hw hh; have HW := n0_; have HX := n1_; have HP := n2_; clear n0_ n1_ n2_))
      go_roundg k1_
      case measure => omega
      case rel => exact ⟨j, z2, _, rfl, ⟨by have := HJ.out.2.2; have := HPS.out.1; unfold wrap64; omega, by have := HJ.out.2.1; omega, by have := HJ.out.2.2; omega⟩, HF2, HSL2, HW, HX, HP⟩
end Look
end Go.Proofs.Ytcpcpmojallcdaa.QLoomChecks
