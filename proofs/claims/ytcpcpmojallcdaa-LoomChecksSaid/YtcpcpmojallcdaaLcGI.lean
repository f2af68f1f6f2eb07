/- LoomChecks: Index May. Conditions: as each theorem says. -/
import Derived.BigQuiet
import Derived.Test.YtcpcpmojallcdaaLcQ
import Derived.Test.YtcpcpmojallcdaaLcGC
import Derived.Test.YtcpcpmojallcdaaLcGF
import Derived.Test.YtcpcpmojallcdaaLcGD
import Derived.Test.YtcpcpmojallcdaaLcGE
import Derived.Test.YtcpcpmojallcdaaLcGA
namespace Go.Proofs.Ytcpcpmojallcdaa.QLoomChecks
open Go.RowKit Go.Proofs.YtcpcpmojallcdaaW.PrintWords Go.Proofs.YtcpcpmojallcdaaW.PrintLast Go.Proofs.YtcpcpmojallcdaaW.PrintMore
set_option linter.unusedVariables false
set_option linter.unusedSimpArgs false
section Index
set_option maxHeartbeats 8000000 in
set_option maxRecDepth 100000 in
theorem dueR (r d : Bool) (v : Value) (a0 a1 a2 a3 a4 a5 a6 a7 : Int) (hv : ∃ A n c, v = .slice A n c) (w : World) :
  Calls Try.prog 22 #[.agg #[.bool r, .bool d, v, .int .i64 a0, .int .i64 a1, .int .i64 a2, .int .i64 a3, .int .i64 a4, .int .i64 a5, .int .i64 a6, .int .i64 a7]] w fun e w' => e = .returned (.bool d) ∧ Below w.heap.size w w' := by
 obtain ⟨A, n, c, rfl⟩ := hv
 have HX := Aside0.mk (heap_alloc_new w (.cells #[.bool r, .bool d, (.slice A n c), .int .i64 a0, .int .i64 a1, .int .i64 a2, .int .i64 a3, .int .i64 a4, .int .i64 a5, .int .i64 a6, .int .i64 a7] 67))
 have HB := Aside0.mk (below_alloc (Below.refl w.heap.size w) (.cells #[.bool r, .bool d, (.slice A n c), .int .i64 a0, .int .i64 a1, .int .i64 a2, .int .i64 a3, .int .i64 a4, .int .i64 a5, .int .i64 a6, .int .i64 a7] 67))
 have h1 : _ = some (Value.bool d) := blk_cell HX.out 1
 go_enter Try.func22, Try.ntmps22
 go_wp2
 go_ret
 exact ⟨rfl, HB.out⟩
def dueI (ss : List Sg) : Int := match dueAt ss with
 | none => -1
 | some i => (i : Int)
theorem due_some {ss : List Sg} {i : Nat} (hi : i < ss.length) (hd : (ss.getD i Sg.zero).due = true) (hn : ∀ j, j < i → (ss.getD j Sg.zero).due = false) : dueAt ss = some i := by
 unfold dueAt
 rw [List.findIdx?_eq_some_iff_getElem]
 refine ⟨hi, ?_, fun j hj => ?_⟩
 ·rw [List.getD_eq_getElem?_getD, List.getElem?_eq_getElem hi] at hd
  exact hd
 have := hn j hj
 rw [List.getD_eq_getElem?_getD, List.getElem?_eq_getElem (by omega)] at this
 simpa using this
theorem due_none {ss : List Sg} (hn : ∀ j, j < ss.length → (ss.getD j Sg.zero).due = false) : dueAt ss = none := by
 unfold dueAt
 rw [List.findIdx?_eq_none_iff]
 intro x hx
 obtain ⟨j, hj, rfl⟩ := List.getElem_of_mem hx
 have := hn j hj
 rw [List.getD_eq_getElem?_getD, List.getElem?_eq_getElem hj] at this
 simpa using this
set_option maxHeartbeats 8000000 in
set_option maxRecDepth 100000 in
theorem indexR (g cap : Nat) (ss : List Sg) (w : World) (hs : SgAt 67 g w ss) (hl : ss.length ≤ 1000) :
  Calls Try.prog 21 #[.slice (some ⟨g, 0, none⟩) ss.length cap, .func (.func 22) #[] #[]] w fun e w' => e = .returned (.int .i64 (dueI ss)) ∧ Below w.heap.size w w' := by
 have HG := Aside0.mk hs
 have HB := Aside0.mk (Below.refl w.heap.size w)
 have HL := Aside0.mk hl
 clear hs hl
 obtain ⟨R, hR⟩ : ∃ R, dueI ss = R := ⟨_, rfl⟩
 rw [hR]
 have HR := Aside0.mk hR
 clear hR
 go_enter Try.func21, Try.ntmps21
 go_wp2
 go_loopg [8] ss.length (fun kq v8 w' => ∃ (j : Nat), v8 = .int .i64 (j : Int) ∧ Aside0 (kq + j = ss.length) ∧ Aside0 (∀ q, q < j → (ss.getD q Sg.zero).due = false) ∧ Aside0 (SgAt 67 g w' ss) ∧ Aside0 (Below w.heap.size w w'))
 case atStart => exact ⟨0, rfl, ⟨rfl⟩, ⟨fun q hq => by omega⟩, HG, HB⟩
 case round =>
  clear HG HB
  obtain ⟨j, rfl, HJ, HQ, HG, HB⟩ := hrel
  by_cases hj : j < ss.length
  ·have d1 : decide ((j : Int) < (ss.length : Int)) = true := decide_eq_true (by omega)
   have d2 : decide (j < ss.length) = true := decide_eq_true hj
   have q1 : 0 ≤ (j : Int) ∧ (j : Int) < (ss.length : Int) := ⟨Int.natCast_nonneg j, Int.ofNat_lt.mpr hj⟩
   obtain ⟨c0, c1, ⟨v, c2, hv⟩, hn, c3⟩ := HG.out.cells j hj
   obtain ⟨s, hsd⟩ : ∃ s, s = ss.getD j Sg.zero := ⟨_, rfl⟩
   rw [← hsd] at c0 c1 hv hn c3
   have HSD := Aside0.mk hsd
   have HJJ := Aside0.mk hj
   obtain ⟨Av, cv, hvv, _⟩ := hv.slice
   subst hvv
   clear hsd hv hj
   obtain ⟨r, d, st, lc⟩ := s
   simp only at c0 c1 c2 c3 hn
   match lc, hn with
   | [a0, a1, a2, a3, a4, a5, a6, a7], _ =>
   have d30 : wr.cell? ⟨g, j * 11 + 3, none⟩ = some (.int .i64 a0) := c3 0 (by omega)
   have d31 : wr.cell? ⟨g, j * 11 + 4, none⟩ = some (.int .i64 a1) := c3 1 (by omega)
   have d32 : wr.cell? ⟨g, j * 11 + 5, none⟩ = some (.int .i64 a2) := c3 2 (by omega)
   have d33 : wr.cell? ⟨g, j * 11 + 6, none⟩ = some (.int .i64 a3) := c3 3 (by omega)
   have d34 : wr.cell? ⟨g, j * 11 + 7, none⟩ = some (.int .i64 a4) := c3 4 (by omega)
   have d35 : wr.cell? ⟨g, j * 11 + 8, none⟩ = some (.int .i64 a5) := c3 5 (by omega)
   have d36 : wr.cell? ⟨g, j * 11 + 9, none⟩ = some (.int .i64 a6) := c3 6 (by omega)
   have d37 : wr.cell? ⟨g, j * 11 + 10, none⟩ = some (.int .i64 a7) := c3 7 (by omega)
   have HWR := Aside0.mk (show wrap64 ((j : Int) + 1) = ((j + 1 : Nat) : Int) by
    have := HL.out
    have := HJJ.out
    unfold wrap64
    omega)
   have HDU := Aside0.mk (fun (W : World) => dueR r d (.slice Av st.length cv) a0 a1 a2 a3 a4 a5 a6 a7 ⟨_, _, _, rfl⟩ W)
   clear c3
   obtain ⟨k1_, rfl⟩ : ∃ k1_, gk = k1_ + 1 := ⟨gk - 1, by have := HJ.out; have := HJJ.out; omega⟩
   rcases d with _ | _
   ·have HQ2 := Aside0.mk (show ∀ q, q < j + 1 → (ss.getD q Sg.zero).due = false from fun q hq => by
     by_cases e : q = j
     ·subst e
      rw [← HSD.out]
     exact HQ.out q (by omega))
    go_wp2_with (go_at_call 22; refine (HDU.out _).mono ?_; rintro e w2 ⟨rfl, hb⟩; have n0_ := Aside0.mk (HG.out.below hb); have n1_ := Aside0.mk (below_step HB.out hb); clear HG HB hb; have HG := n0_; have HB := n1_; clear n0_ n1_)
    go_roundg k1_
    case measure => omega
    case rel => exact ⟨j + 1, (by first | rfl | (rw [HWR.out])), ⟨by have := HJ.out; omega⟩, HQ2, HG, HB⟩
   have HRR := Aside0.mk (show R = (j : Int) by
    rw [← HR.out, dueI, due_some HJJ.out (by rw [← HSD.out]) HQ.out])
   go_wp2_with (go_at_call 22; refine (HDU.out _).mono ?_; rintro e w2 ⟨rfl, hb⟩; have n1_ := Aside0.mk (below_step HB.out hb); clear HG HB hb; have HB := n1_; clear n1_)
   go_ret
   exact ⟨by rw [HRR.out]; rfl, HB.out⟩
  have d1 : decide ((j : Int) < (ss.length : Int)) = false := decide_eq_false (by omega)
  have d2 : decide (j < ss.length) = false := decide_eq_false hj
  have HRR := Aside0.mk (show R = -1 by
   rw [← HR.out, dueI, due_none (fun q hq => HQ.out q (by have := HJ.out; omega))])
  go_wp2
  go_ret
  exact ⟨by rw [HRR.out]; rfl, HB.out⟩
end Index
section May
/-- Is the Arg one that may be? (ar: what it is; n: how many instructions) -/
def belowB (a : Int) (m : Int) : Bool := decide (0 ≤ a) && decide (a < m)
def mayB (st ag ct : List Int) (n : Nat) (ar : Int) (a : Int) : Bool :=
 if ar = 1 then true
 else if ar = 2 then (decide (0 ≤ a) && decide (a ≤ 4294967295)) && !(nanB a)
 else if ar = 3 then belowB a 2
 else if ar = 4 then belowB a 32
 else if ar = 5 then belowB a 8
 else if ar = 6 then belowB a 8 && plainB (st.getD a.toNat 0)
 else if ar = 7 then belowB a 8 && plainB (ag.getD a.toNat 0)
 else if ar = 8 then belowB a 4 && plainB (ct.getD a.toNat 0)
 else if ar = 9 then decide (0 ≤ (runP st).1) && (a == (runP st).1)
 else if ar = 10 then decide (0 ≤ (runP ag).1) && (a == (runP ag).1)
 else if ar = 11 then belowB a (n : Int)
 else if ar = 12 then belowB a 64
 else a == 0
theorem tabA_range : ∀ op : Nat, op < 69 → 0 ≤ tabA op ∧ tabA op ≤ 12 := by decide +kernel
theorem field59a (nm p q : ByteArray) (hh aa : Int) (sp : Bool) (W : World) : (Instr.field 59 (.agg #[.string nm, .int .i64 hh, .int .i64 aa, .string p, .string q, .bool sp]) 2).run Try.prog W = .ok (.int .i64 aa) W := by
 simp only [Instr.field, Sem.run_bind, run_underlying Try.underlying59, Result.andThen_ok, asAgg, Sem.run_pure]
 exact run_part_plain W (by kernel_rfl) rfl
theorem field59h (nm p q : ByteArray) (hh aa : Int) (sp : Bool) (W : World) : (Instr.field 59 (.agg #[.string nm, .int .i64 hh, .int .i64 aa, .string p, .string q, .bool sp]) 1).run Try.prog W = .ok (.int .i64 hh) W := by
 simp only [Instr.field, Sem.run_bind, run_underlying Try.underlying59, Result.andThen_ok, asAgg, Sem.run_pure]
 exact run_part_plain W (by kernel_rfl) rfl
theorem conv87 (a : Int) (h0 : 0 ≤ a) (h1 : a < 4294967296) (W : World) : (convert 2 87 (.int .i64 a)).run Try.prog W = .ok (.int .u32 a) W := by
 have hk : Try.prog.intKind 87 = .u32 := by kernel_rfl
 have hu : Try.prog.underlying 87 = some (.int (Try.prog.intKind 87)) := by rw [hk]; exact Try.underlying87
 have h := run_convert_int (P := Try.prog) W 2 87 .i64 a (by kernel_rfl) hu
 rw [hk] at h
 rw [h]
 have : IntKind.u32.wrap a = a := by
  rw [IntKind.wrap_u32]
  omega
 rw [this]
set_option maxHeartbeats 8000000 in
set_option maxRecDepth 100000 in
theorem belowR (m a : Int) (g : Nat) (w : World) (h : w.heap[g]? = some (.cells #[.int .i64 a] 2 (0, 0))) : Calls Try.prog 37 #[.int .i64 m, .pointer (some ⟨g, 0, none⟩)] w fun e w' => e = .returned (.bool (belowB a m)) ∧ w' = w := by
 have h0 : _ = some (Value.int .i64 a) := blk_cell h 0
 have HR := Aside0.mk (show belowB a m = (decide (0 ≤ a) && decide (a < m)) from rfl)
 clear h
 go_enter Try.func37, Try.ntmps37
 by_cases c : a ≥ 0
 ·have d : decide (a ≥ 0) = true := decide_eq_true c
  have HF := Aside0.mk (HR.out.trans (by rw [decide_eq_true (show 0 ≤ a from c), Bool.true_and]))
  clear c
  go_wp2
  go_ret
  exact ⟨by rw [HF.out]; first | rfl | simp, rfl⟩
 have d : decide (a ≥ 0) = false := decide_eq_false c
 have HF := Aside0.mk (HR.out.trans (by rw [decide_eq_false (show ¬ 0 ≤ a from c), Bool.false_and]))
 clear c
 go_wp2
 go_ret
 exact ⟨by rw [HF.out]; first | rfl | simp, rfl⟩
set_option maxHeartbeats 8000000 in
set_option maxRecDepth 100000 in
theorem argMayR (words s0 s1 s2 s3 s4 s5 s6 s7 g0 g1 g2 g3 g4 g5 g6 g7 t0 t1 t2 t3 ma mb sa na sb nb : Int) (both : Bool) (h0 h1 h2 h3 h4 : Value) (b op n : Nat) (a : Int) (w : World) (hop : op < 69) (hb : w.heap[b]? = some (.cells #[.int .i64 words, .int .i64 s0, .int .i64 s1, .int .i64 s2, .int .i64 s3, .int .i64 s4, .int .i64 s5, .int .i64 s6, .int .i64 s7, .int .i64 g0, .int .i64 g1, .int .i64 g2, .int .i64 g3, .int .i64 g4, .int .i64 g5, .int .i64 g6, .int .i64 g7, .int .i64 t0, .int .i64 t1, .int .i64 t2, .int .i64 t3, .int .i64 ma, .int .i64 mb, .int .i64 sa, .int .i64 na, .int .i64 sb, .int .i64 nb, .bool both, h0, h1, h2, h3, h4] 31 (0, 0))) :
  Calls Try.prog 20 #[.pointer (some ⟨b, 0, none⟩), .agg #[.int .i64 (op : Int), .int .i64 a], .int .i64 (n : Int)] w fun e w' => e = .returned (.bool (mayB [s0, s1, s2, s3, s4, s5, s6, s7] [g0, g1, g2, g3, g4, g5, g6, g7] [t0, t1, t2, t3] n (tabA op) a)) ∧ Below w.heap.size w w' := by
 have hfl := field59a
 have hmf : ∀ (fn : Fn) (first cap : Array Value) (w : World), (Instr.makeFunc fn first cap).run Try.prog w = .ok (.func fn first cap) w := fun _ _ _ _ => rfl
 have HE := Aside0.mk ((Below.heap_alloc w (.cells #[.int .i64 (op : Int), .int .i64 a] 42) b (blk_lt hb)).trans hb)
 have HX := Aside0.mk (heap_alloc_new w (.cells #[.int .i64 (op : Int), .int .i64 a] 42))
 have HB := Aside0.mk (below_alloc (Below.refl w.heap.size w) (.cells #[.int .i64 (op : Int), .int .i64 a] 42))
 have HTB := Aside0.mk (table_ok op hop).1
 have HAR := Aside0.mk (tabA_range op hop)
 clear hb hop
 go_enter Try.func20, Try.ntmps20
 go_upto_region 1 with (fail)
 generalize w.alloc (.cells #[.int .i64 (op : Int), .int .i64 a] 42) = w1 at HE HX HB ⊢
 generalize w.heap.size = xb at HX ⊢
 have hx1 : _ = some (Value.int .i64 a) := blk_cell HX.out 1
 go_upto_region 3 with (fail)
 have n0_ := Aside0.mk ((Below.heap_alloc w1 (.cells #[.int .i64 a] 2) b (blk_lt HE.out)).trans HE.out)
 have n1_ := Aside0.mk ((Below.heap_alloc w1 (.cells #[.int .i64 a] 2) xb (blk_lt HX.out)).trans HX.out)
 have n2_ := Aside0.mk (below_alloc HB.out (.cells #[.int .i64 a] 2))
 have HA := Aside0.mk (heap_alloc_new w1 (.cells #[.int .i64 a] 2))
 clear HE HX HB hx1
 have HE := n0_
 have HX := n1_
 have HB := n2_
 clear n0_ n1_ n2_
 generalize w1.alloc (.cells #[.int .i64 a] 2) = w2 at HE HX HB HA ⊢
 generalize w1.heap.size = ab at HA ⊢
 have hx0 : _ = some (Value.int .i64 (op : Int)) := blk_cell HX.out 0
 obtain ⟨aa, haa⟩ : ∃ y, y = tabA op := ⟨_, rfl⟩
 have HMB := Aside0.mk (show ∀ r, mayB [s0, s1, s2, s3, s4, s5, s6, s7] [g0, g1, g2, g3, g4, g5, g6, g7] [t0, t1, t2, t3] n aa a = r → mayB [s0, s1, s2, s3, s4, s5, s6, s7] [g0, g1, g2, g3, g4, g5, g6, g7] [t0, t1, t2, t3] n (tabA op) a = r from fun r h => by rw [← haa]; exact h)
 rw [← haa] at HTB HAR
 clear haa
 go_upto_region 4 with (go_at_call 19; refine (loom_specs.calls _ _ _ _ _ _ _ _ HTB.out).mono ?_; rintro e w3 ⟨rfl, hb⟩; have n0_ := Aside0.mk ((hb.block b (blk_lt HE.out)).trans HE.out); have n1_ := Aside0.mk ((hb.block ab (blk_lt HA.out)).trans HA.out); have n2_ := Aside0.mk (below_step HB.out hb); clear HE HX HB HA hx0 hb; have HE := n0_; have HA := n1_; have HB := n2_; clear n0_ n1_ n2_)
 have ha0 : _ = some (Value.int .i64 a) := blk_cell HA.out 0
 have har : aa = 0 ∨ aa = 1 ∨ aa = 2 ∨ aa = 3 ∨ aa = 4 ∨ aa = 5 ∨ aa = 6 ∨ aa = 7 ∨ aa = 8 ∨ aa = 9 ∨ aa = 10 ∨ aa = 11 ∨ aa = 12 := by have := HAR.out; omega
 have HBEL := Aside0.mk (fun (W : World) (m : Int) (h : W.heap[ab]? = some (.cells #[.int .i64 a] 2)) => belowR m a ab W h)
 clear HTB HAR
 rcases har with rfl | rfl | rfl | rfl | rfl | rfl | rfl | rfl | rfl | rfl | rfl | rfl | rfl
 ·have HF := Aside0.mk (HMB.out _ (show _ = (a == 0) from rfl))
  go_wp2
  go_ret
  exact ⟨by rw [HF.out]; rfl, HB.out⟩
 ·have HF := Aside0.mk (HMB.out _ (show _ = true from rfl))
  go_wp2
  go_ret
  exact ⟨by rw [HF.out]; rfl, HB.out⟩
 ·have HF0 := Aside0.mk (HMB.out _ (show _ = ((decide (0 ≤ a) && decide (a ≤ 4294967295)) && !(nanB a)) from rfl))
  by_cases c0 : a ≥ 0
  ·have d0 : decide (a ≥ 0) = true := decide_eq_true c0
   by_cases c1 : a ≤ 4294967295
   ·have d1 : decide (a ≤ 4294967295) = true := decide_eq_true c1
    have HF := Aside0.mk (HF0.out.trans (by rw [decide_eq_true (show 0 ≤ a from c0), d1, Bool.true_and, Bool.true_and]))
    have HNN := Aside0.mk (fun W => isNaNR a c0 (by omega) W)
    have hcv := conv87 a c0 (by omega)
    generalize nanB a = nb_ at HF HNN
    clear c0 c1
    go_wp2_with (go_at_call 38; refine (HNN.out _).mono ?_; rintro e w4 ⟨rfl, rfl⟩)
    go_ret
    exact ⟨by rw [HF.out]; rfl, HB.out⟩
   have d1 : decide (a ≤ 4294967295) = false := decide_eq_false c1
   have HF := Aside0.mk (HF0.out.trans (by rw [d1, Bool.and_false, Bool.false_and]))
   clear c0 c1
   go_wp2
   go_ret
   exact ⟨by rw [HF.out]; rfl, HB.out⟩
  have d0 : decide (a ≥ 0) = false := decide_eq_false c0
  have HF := Aside0.mk (HF0.out.trans (by rw [decide_eq_false (show ¬ 0 ≤ a from c0), Bool.false_and, Bool.false_and]))
  clear c0
  go_wp2
  go_ret
  exact ⟨by rw [HF.out]; rfl, HB.out⟩
 ·have HF := Aside0.mk (HMB.out _ (show _ = belowB a 2 from rfl))
  go_wp2_with (go_at_call 37; refine (HBEL.out _ _ HA.out).mono ?_; rintro e w4 ⟨rfl, rfl⟩)
  go_ret
  exact ⟨by rw [HF.out]; rfl, HB.out⟩
 ·have HF := Aside0.mk (HMB.out _ (show _ = belowB a 32 from rfl))
  go_wp2_with (go_at_call 37; refine (HBEL.out _ _ HA.out).mono ?_; rintro e w4 ⟨rfl, rfl⟩)
  go_ret
  exact ⟨by rw [HF.out]; rfl, HB.out⟩
 ·have HF := Aside0.mk (HMB.out _ (show _ = belowB a 8 from rfl))
  go_wp2_with (go_at_call 37; refine (HBEL.out _ _ HA.out).mono ?_; rintro e w4 ⟨rfl, rfl⟩)
  go_ret
  exact ⟨by rw [HF.out]; rfl, HB.out⟩
 ·have HF0 := Aside0.mk (HMB.out _ (show _ = (belowB a 8 && plainB ([s0, s1, s2, s3, s4, s5, s6, s7].getD a.toNat 0)) from rfl))
  rcases hbb : belowB a 8 with _ | _
  ·have HF := Aside0.mk (HF0.out.trans (by rw [hbb, Bool.false_and]))
   have HBE2 := Aside0.mk (fun (W : World) (h : W.heap[ab]? = some (.cells #[.int .i64 a] 2)) => by have h2 := HBEL.out W 8 h; rw [hbb] at h2; exact h2)
   clear hbb
   go_wp2
   go_big_quiet ((go_at_call 37; (with_reducible refine Calls.quiet_of_same (HBE2.out _ ?_)); exact HA.out))
   go_wp2
   go_ret
   exact ⟨by rw [HF.out]; rfl, pw_below_drewN HB.out _⟩
  have HBE2 := Aside0.mk (fun (W : World) (h : W.heap[ab]? = some (.cells #[.int .i64 a] 2)) => by have h2 := HBEL.out W 8 h; rw [hbb] at h2; exact h2)
  have hbd : 0 ≤ a ∧ a < 8 := by
   unfold belowB at hbb
   rw [Bool.and_eq_true, decide_eq_true_eq, decide_eq_true_eq] at hbb
   exact hbb
  obtain ⟨j, rfl⟩ : ∃ j : Nat, a = (j : Int) := ⟨a.toNat, by omega⟩
  have hj : j < 8 := by omega
  have hca := kd_cell1 HE.out j hj
  obtain ⟨v, hv⟩ : ∃ v, v = [s0, s1, s2, s3, s4, s5, s6, s7].getD j 0 := ⟨_, rfl⟩
  rw [← hv] at hca
  obtain ⟨pv, hpv⟩ : ∃ pv, pv = plainB v := ⟨_, rfl⟩
  have HF := Aside0.mk (HF0.out.trans (by rw [hbb, Bool.true_and, Int.toNat_natCast, ← hv, ← hpv]))
  have HPL := Aside0.mk (fun (W : World) => show Calls Try.prog 15 #[.int .i64 v] W fun e w' => e = .returned (.bool pv) ∧ ∃ m, w' = W.drewN m from (loom_plainKind.calls v pv W (by rw [hpv]; exact plainK_val v)).mono (fun e w' h => ⟨h.1, h.2.out⟩))
  have q1 : 0 ≤ (j : Int) ∧ (j : Int) < 8 := ⟨Int.natCast_nonneg j, by omega⟩
  clear hbb hbd hj hv hpv
  go_wp2
  go_big_quiet (first | (go_at_call 37; (with_reducible refine Calls.quiet_of_same (HBE2.out _ ?_)); exact HA.out) | (go_at_call 15; (with_reducible refine Calls.quiet_of (HPL.out _))))
  go_wp2
  go_ret
  exact ⟨by rw [HF.out]; rfl, pw_below_drewN HB.out _⟩
 ·have HF0 := Aside0.mk (HMB.out _ (show _ = (belowB a 8 && plainB ([g0, g1, g2, g3, g4, g5, g6, g7].getD a.toNat 0)) from rfl))
  rcases hbb : belowB a 8 with _ | _
  ·have HF := Aside0.mk (HF0.out.trans (by rw [hbb, Bool.false_and]))
   have HBE2 := Aside0.mk (fun (W : World) (h : W.heap[ab]? = some (.cells #[.int .i64 a] 2)) => by have h2 := HBEL.out W 8 h; rw [hbb] at h2; exact h2)
   clear hbb
   go_wp2
   go_big_quiet ((go_at_call 37; (with_reducible refine Calls.quiet_of_same (HBE2.out _ ?_)); exact HA.out))
   go_wp2
   go_ret
   exact ⟨by rw [HF.out]; rfl, pw_below_drewN HB.out _⟩
  have HBE2 := Aside0.mk (fun (W : World) (h : W.heap[ab]? = some (.cells #[.int .i64 a] 2)) => by have h2 := HBEL.out W 8 h; rw [hbb] at h2; exact h2)
  have hbd : 0 ≤ a ∧ a < 8 := by
   unfold belowB at hbb
   rw [Bool.and_eq_true, decide_eq_true_eq, decide_eq_true_eq] at hbb
   exact hbb
  obtain ⟨j, rfl⟩ : ∃ j : Nat, a = (j : Int) := ⟨a.toNat, by omega⟩
  have hj : j < 8 := by omega
  have hca := kd_cell2 HE.out j hj
  obtain ⟨v, hv⟩ : ∃ v, v = [g0, g1, g2, g3, g4, g5, g6, g7].getD j 0 := ⟨_, rfl⟩
  rw [← hv] at hca
  obtain ⟨pv, hpv⟩ : ∃ pv, pv = plainB v := ⟨_, rfl⟩
  have HF := Aside0.mk (HF0.out.trans (by rw [hbb, Bool.true_and, Int.toNat_natCast, ← hv, ← hpv]))
  have HPL := Aside0.mk (fun (W : World) => show Calls Try.prog 15 #[.int .i64 v] W fun e w' => e = .returned (.bool pv) ∧ ∃ m, w' = W.drewN m from (loom_plainKind.calls v pv W (by rw [hpv]; exact plainK_val v)).mono (fun e w' h => ⟨h.1, h.2.out⟩))
  have q1 : 0 ≤ (j : Int) ∧ (j : Int) < 8 := ⟨Int.natCast_nonneg j, by omega⟩
  clear hbb hbd hj hv hpv
  go_wp2
  go_big_quiet (first | (go_at_call 37; (with_reducible refine Calls.quiet_of_same (HBE2.out _ ?_)); exact HA.out) | (go_at_call 15; (with_reducible refine Calls.quiet_of (HPL.out _))))
  go_wp2
  go_ret
  exact ⟨by rw [HF.out]; rfl, pw_below_drewN HB.out _⟩
 ·have HF0 := Aside0.mk (HMB.out _ (show _ = (belowB a 4 && plainB ([t0, t1, t2, t3].getD a.toNat 0)) from rfl))
  rcases hbb : belowB a 4 with _ | _
  ·have HF := Aside0.mk (HF0.out.trans (by rw [hbb, Bool.false_and]))
   have HBE2 := Aside0.mk (fun (W : World) (h : W.heap[ab]? = some (.cells #[.int .i64 a] 2)) => by have h2 := HBEL.out W 4 h; rw [hbb] at h2; exact h2)
   clear hbb
   go_wp2
   go_big_quiet ((go_at_call 37; (with_reducible refine Calls.quiet_of_same (HBE2.out _ ?_)); exact HA.out))
   go_wp2
   go_ret
   exact ⟨by rw [HF.out]; rfl, pw_below_drewN HB.out _⟩
  have HBE2 := Aside0.mk (fun (W : World) (h : W.heap[ab]? = some (.cells #[.int .i64 a] 2)) => by have h2 := HBEL.out W 4 h; rw [hbb] at h2; exact h2)
  have hbd : 0 ≤ a ∧ a < 4 := by
   unfold belowB at hbb
   rw [Bool.and_eq_true, decide_eq_true_eq, decide_eq_true_eq] at hbb
   exact hbb
  obtain ⟨j, rfl⟩ : ∃ j : Nat, a = (j : Int) := ⟨a.toNat, by omega⟩
  have hj : j < 4 := by omega
  have hca := kd_cell3 HE.out j hj
  obtain ⟨v, hv⟩ : ∃ v, v = [t0, t1, t2, t3].getD j 0 := ⟨_, rfl⟩
  rw [← hv] at hca
  obtain ⟨pv, hpv⟩ : ∃ pv, pv = plainB v := ⟨_, rfl⟩
  have HF := Aside0.mk (HF0.out.trans (by rw [hbb, Bool.true_and, Int.toNat_natCast, ← hv, ← hpv]))
  have HPL := Aside0.mk (fun (W : World) => show Calls Try.prog 15 #[.int .i64 v] W fun e w' => e = .returned (.bool pv) ∧ ∃ m, w' = W.drewN m from (loom_plainKind.calls v pv W (by rw [hpv]; exact plainK_val v)).mono (fun e w' h => ⟨h.1, h.2.out⟩))
  have q1 : 0 ≤ (j : Int) ∧ (j : Int) < 4 := ⟨Int.natCast_nonneg j, by omega⟩
  clear hbb hbd hj hv hpv
  go_wp2
  go_big_quiet (first | (go_at_call 37; (with_reducible refine Calls.quiet_of_same (HBE2.out _ ?_)); exact HA.out) | (go_at_call 15; (with_reducible refine Calls.quiet_of (HPL.out _))))
  go_wp2
  go_ret
  exact ⟨by rw [HF.out]; rfl, pw_below_drewN HB.out _⟩
 ·have HF0 := Aside0.mk (HMB.out _ (show _ = (decide (0 ≤ (runP [s0, s1, s2, s3, s4, s5, s6, s7]).1) && (a == (runP [s0, s1, s2, s3, s4, s5, s6, s7]).1)) from rfl))
  have he1 : _ = some (Value.int .i64 s0) := blk_cell HE.out 1
  have he2 : _ = some (Value.int .i64 s1) := blk_cell HE.out 2
  have he3 : _ = some (Value.int .i64 s2) := blk_cell HE.out 3
  have he4 : _ = some (Value.int .i64 s3) := blk_cell HE.out 4
  have he5 : _ = some (Value.int .i64 s4) := blk_cell HE.out 5
  have he6 : _ = some (Value.int .i64 s5) := blk_cell HE.out 6
  have he7 : _ = some (Value.int .i64 s6) := blk_cell HE.out 7
  have he8 : _ = some (Value.int .i64 s7) := blk_cell HE.out 8
  obtain ⟨ru, we, hrp⟩ : ∃ x y, runP [s0, s1, s2, s3, s4, s5, s6, s7] = (x, y) := ⟨(runP [s0, s1, s2, s3, s4, s5, s6, s7]).1, (runP [s0, s1, s2, s3, s4, s5, s6, s7]).2, Prod.ext rfl rfl⟩
  have HPS := Aside0.mk (show ∀ W, Calls Try.prog 16 #[.agg #[.int .i64 s0, .int .i64 s1, .int .i64 s2, .int .i64 s3, .int .i64 s4, .int .i64 s5, .int .i64 s6, .int .i64 s7]] W fun e w' => e = .returned (.tuple #[.int .i64 ru, .bool we]) ∧ Below W.heap.size W w' from fun W => by have h := runPR s0 s1 s2 s3 s4 s5 s6 s7 W; rw [hrp] at h; exact h)
  have HF1 := Aside0.mk (HF0.out.trans (by rw [hrp]))
  clear hrp
  by_cases c0 : ru ≥ 0
  ·have d0 : decide (ru ≥ 0) = true := decide_eq_true c0
   have HF := Aside0.mk (HF1.out.trans (by rw [decide_eq_true (show 0 ≤ ru from c0), Bool.true_and]))
   clear c0
   go_wp2_with (go_at_call 16; refine (HPS.out _).mono ?_; rintro e w4 ⟨rfl, hb⟩; have n0_ := Aside0.mk (below_step HB.out hb); have n1_ := Aside0.mk ((hb.block ab (blk_lt HA.out)).trans HA.out); clear HB HA hb ha0; have HB := n0_; have HA := n1_; clear n0_ n1_; have ha1 : _ = some (Value.int .i64 a) := blk_cell HA.out 0)
   go_ret
   exact ⟨by rw [HF.out]; rfl, HB.out⟩
  have d0 : decide (ru ≥ 0) = false := decide_eq_false c0
  have HF := Aside0.mk (HF1.out.trans (by rw [decide_eq_false (show ¬ 0 ≤ ru from c0), Bool.false_and]))
  clear c0
  go_wp2_with (go_at_call 16; refine (HPS.out _).mono ?_; rintro e w4 ⟨rfl, hb⟩; have n0_ := Aside0.mk (below_step HB.out hb); have n1_ := Aside0.mk ((hb.block ab (blk_lt HA.out)).trans HA.out); clear HB HA hb ha0; have HB := n0_; have HA := n1_; clear n0_ n1_)
  go_ret
  exact ⟨by rw [HF.out]; rfl, HB.out⟩
 ·have HF0 := Aside0.mk (HMB.out _ (show _ = (decide (0 ≤ (runP [g0, g1, g2, g3, g4, g5, g6, g7]).1) && (a == (runP [g0, g1, g2, g3, g4, g5, g6, g7]).1)) from rfl))
  have he9 : _ = some (Value.int .i64 g0) := blk_cell HE.out 9
  have he10 : _ = some (Value.int .i64 g1) := blk_cell HE.out 10
  have he11 : _ = some (Value.int .i64 g2) := blk_cell HE.out 11
  have he12 : _ = some (Value.int .i64 g3) := blk_cell HE.out 12
  have he13 : _ = some (Value.int .i64 g4) := blk_cell HE.out 13
  have he14 : _ = some (Value.int .i64 g5) := blk_cell HE.out 14
  have he15 : _ = some (Value.int .i64 g6) := blk_cell HE.out 15
  have he16 : _ = some (Value.int .i64 g7) := blk_cell HE.out 16
  obtain ⟨ru, we, hrp⟩ : ∃ x y, runP [g0, g1, g2, g3, g4, g5, g6, g7] = (x, y) := ⟨(runP [g0, g1, g2, g3, g4, g5, g6, g7]).1, (runP [g0, g1, g2, g3, g4, g5, g6, g7]).2, Prod.ext rfl rfl⟩
  have HPS := Aside0.mk (show ∀ W, Calls Try.prog 16 #[.agg #[.int .i64 g0, .int .i64 g1, .int .i64 g2, .int .i64 g3, .int .i64 g4, .int .i64 g5, .int .i64 g6, .int .i64 g7]] W fun e w' => e = .returned (.tuple #[.int .i64 ru, .bool we]) ∧ Below W.heap.size W w' from fun W => by have h := runPR g0 g1 g2 g3 g4 g5 g6 g7 W; rw [hrp] at h; exact h)
  have HF1 := Aside0.mk (HF0.out.trans (by rw [hrp]))
  clear hrp
  by_cases c0 : ru ≥ 0
  ·have d0 : decide (ru ≥ 0) = true := decide_eq_true c0
   have HF := Aside0.mk (HF1.out.trans (by rw [decide_eq_true (show 0 ≤ ru from c0), Bool.true_and]))
   clear c0
   go_wp2_with (go_at_call 16; refine (HPS.out _).mono ?_; rintro e w4 ⟨rfl, hb⟩; have n0_ := Aside0.mk (below_step HB.out hb); have n1_ := Aside0.mk ((hb.block ab (blk_lt HA.out)).trans HA.out); clear HB HA hb ha0; have HB := n0_; have HA := n1_; clear n0_ n1_; have ha1 : _ = some (Value.int .i64 a) := blk_cell HA.out 0)
   go_ret
   exact ⟨by rw [HF.out]; rfl, HB.out⟩
  have d0 : decide (ru ≥ 0) = false := decide_eq_false c0
  have HF := Aside0.mk (HF1.out.trans (by rw [decide_eq_false (show ¬ 0 ≤ ru from c0), Bool.false_and]))
  clear c0
  go_wp2_with (go_at_call 16; refine (HPS.out _).mono ?_; rintro e w4 ⟨rfl, hb⟩; have n0_ := Aside0.mk (below_step HB.out hb); have n1_ := Aside0.mk ((hb.block ab (blk_lt HA.out)).trans HA.out); clear HB HA hb ha0; have HB := n0_; have HA := n1_; clear n0_ n1_)
  go_ret
  exact ⟨by rw [HF.out]; rfl, HB.out⟩
 ·have HF := Aside0.mk (HMB.out _ (show _ = belowB a (n : Int) from rfl))
  go_wp2_with (go_at_call 37; refine (HBEL.out _ _ HA.out).mono ?_; rintro e w4 ⟨rfl, rfl⟩)
  go_ret
  exact ⟨by rw [HF.out]; rfl, HB.out⟩
 have HF := Aside0.mk (HMB.out _ (show _ = belowB a 64 from rfl))
 go_wp2_with (go_at_call 37; refine (HBEL.out _ _ HA.out).mono ?_; rintro e w4 ⟨rfl, rfl⟩)
 go_ret
 exact ⟨by rw [HF.out]; rfl, HB.out⟩
end May
end Go.Proofs.Ytcpcpmojallcdaa.QLoomChecks
