/- LoomChecks: Special. Conditions: as each theorem says. -/
import Derived.Deep.RegionHeld3
import Derived.StillTailTactics
import Derived.Test.YtcpcpmojallcdaaLcQ
import Derived.Test.YtcpcpmojallcdaaLcGC
namespace Go.Proofs.Ytcpcpmojallcdaa.QLoomChecks
open Go.RowKit Go.Proofs.YtcpcpmojallcdaaW.PrintWords Go.Proofs.YtcpcpmojallcdaaW.PrintLast Go.Proofs.YtcpcpmojallcdaaW.PrintMore
set_option linter.unusedVariables false
set_option linter.unusedSimpArgs false
section Special
theorem popBad (N cb wb g : Nat) (hand at_ : Int) (iv sv : Value) (w0 : World) (w : World) (ks lo : List Int) (k : Int) (hN : wb < N) (hM : N ≤ w0.heap.size) (hl : ks.length ≤ 1000) (hp : popP k ks = none) (h : WkAt N cb wb g hand at_ iv sv w0 w ks lo) :
  Calls Try.prog 41 #[.pointer (some ⟨wb, 0, none⟩), .int .i64 k] w fun e w' => e = .panicked [{ v := .iface 44 (.agg #[.int .i64 hand, .int .i64 at_]), recovered := false }] ∧ Holds N wb g w0 w' := (popR N cb wb g hand at_ iv sv w0 w ks lo k hN hM hl h).mono fun e w' h => by
 rcases h with ⟨_, h⟩ | ⟨t, ks', h, _⟩
 ·exact h
 rw [hp] at h; cases h
theorem popGood (N cb wb g : Nat) (hand at_ : Int) (iv sv : Value) (w0 : World) (w : World) (ks ks' lo : List Int) (k : Int) (hN : wb < N) (hM : N ≤ w0.heap.size) (hl : ks.length ≤ 1000) (hp : popP k ks = some ks') (t : Int) (ht : ks.getLast? = some t) (h : WkAt N cb wb g hand at_ iv sv w0 w ks lo) :
  Calls Try.prog 41 #[.pointer (some ⟨wb, 0, none⟩), .int .i64 k] w fun e w' => e = .returned (.int .i64 t) ∧ WkAt N cb wb g hand at_ iv sv w0 w' ks' lo := (popR N cb wb g hand at_ iv sv w0 w ks lo k hN hM hl h).mono fun e w' h => by
 rcases h with ⟨h, _⟩ | ⟨t', ks2, h1, h2, h3, h4⟩
 ·rw [hp] at h; cases h
 rw [hp] at h1
 injection h1 with h1
 rw [ht] at h2
 injection h2 with h2
 subst h1; subst h2
 exact ⟨h3, h4⟩
theorem pushBad (N cb wb g : Nat) (hand at_ : Int) (iv sv : Value) (w0 : World) (w : World) (ks lo : List Int) (k : Int) (hN : wb < N) (hM : N ≤ w0.heap.size) (hl : ks.length ≤ 1000) (hp : pushP k ks = none) (h : WkAt N cb wb g hand at_ iv sv w0 w ks lo) :
  Calls Try.prog 44 #[.pointer (some ⟨wb, 0, none⟩), .int .i64 k] w fun e w' => e = .panicked [{ v := .iface 44 (.agg #[.int .i64 hand, .int .i64 at_]), recovered := false }] ∧ Holds N wb g w0 w' := (pushR N cb wb g hand at_ iv sv w0 w ks lo k hN hM hl h).mono fun e w' h => by
 rcases h with ⟨_, h⟩ | ⟨ks', h, _⟩
 ·exact h
 rw [hp] at h; cases h
theorem pushGood (N cb wb g : Nat) (hand at_ : Int) (iv sv : Value) (w0 : World) (w : World) (ks ks' lo : List Int) (k : Int) (hN : wb < N) (hM : N ≤ w0.heap.size) (hl : ks.length ≤ 1000) (hp : pushP k ks = some ks') (h : WkAt N cb wb g hand at_ iv sv w0 w ks lo) :
  Calls Try.prog 44 #[.pointer (some ⟨wb, 0, none⟩), .int .i64 k] w fun e w' => e = .returned (.tuple #[]) ∧ WkAt N cb wb g hand at_ iv sv w0 w' ks' lo := (pushR N cb wb g hand at_ iv sv w0 w ks lo k hN hM hl h).mono fun e w' h => by
 rcases h with ⟨h, _⟩ | ⟨ks2, h1, h3, h4⟩
 ·rw [hp] at h; cases h
 rw [hp] at h1
 injection h1 with h1
 subst h1
 exact ⟨h3, h4⟩
theorem kd_cell1 {w : World} {b : Nat} {words s0 s1 s2 s3 s4 s5 s6 s7 g0 g1 g2 g3 g4 g5 g6 g7 t0 t1 t2 t3 ma mb sa na sb nb : Int} {both : Bool} {h0 h1 h2 h3 h4 : Value} (h : w.heap[b]? = some (.cells #[.int .i64 words, .int .i64 s0, .int .i64 s1, .int .i64 s2, .int .i64 s3, .int .i64 s4, .int .i64 s5, .int .i64 s6, .int .i64 s7, .int .i64 g0, .int .i64 g1, .int .i64 g2, .int .i64 g3, .int .i64 g4, .int .i64 g5, .int .i64 g6, .int .i64 g7, .int .i64 t0, .int .i64 t1, .int .i64 t2, .int .i64 t3, .int .i64 ma, .int .i64 mb, .int .i64 sa, .int .i64 na, .int .i64 sb, .int .i64 nb, .bool both, h0, h1, h2, h3, h4] 31 (0, 0))) (i : Nat) (hi : i < 8) : w.cell? ⟨b, 1 + i, none⟩ = some (.int .i64 ([s0, s1, s2, s3, s4, s5, s6, s7].getD i 0)) := by
 rw [blk_cell h (1 + i)]
 have : i = 0 ∨ i = 1 ∨ i = 2 ∨ i = 3 ∨ i = 4 ∨ i = 5 ∨ i = 6 ∨ i = 7 := by omega
 rcases this with rfl | rfl | rfl | rfl | rfl | rfl | rfl | rfl <;> rfl
theorem kd_cell2 {w : World} {b : Nat} {words s0 s1 s2 s3 s4 s5 s6 s7 g0 g1 g2 g3 g4 g5 g6 g7 t0 t1 t2 t3 ma mb sa na sb nb : Int} {both : Bool} {h0 h1 h2 h3 h4 : Value} (h : w.heap[b]? = some (.cells #[.int .i64 words, .int .i64 s0, .int .i64 s1, .int .i64 s2, .int .i64 s3, .int .i64 s4, .int .i64 s5, .int .i64 s6, .int .i64 s7, .int .i64 g0, .int .i64 g1, .int .i64 g2, .int .i64 g3, .int .i64 g4, .int .i64 g5, .int .i64 g6, .int .i64 g7, .int .i64 t0, .int .i64 t1, .int .i64 t2, .int .i64 t3, .int .i64 ma, .int .i64 mb, .int .i64 sa, .int .i64 na, .int .i64 sb, .int .i64 nb, .bool both, h0, h1, h2, h3, h4] 31 (0, 0))) (i : Nat) (hi : i < 8) : w.cell? ⟨b, 9 + i, none⟩ = some (.int .i64 ([g0, g1, g2, g3, g4, g5, g6, g7].getD i 0)) := by
 rw [blk_cell h (9 + i)]
 have : i = 0 ∨ i = 1 ∨ i = 2 ∨ i = 3 ∨ i = 4 ∨ i = 5 ∨ i = 6 ∨ i = 7 := by omega
 rcases this with rfl | rfl | rfl | rfl | rfl | rfl | rfl | rfl <;> rfl
theorem kd_cell3 {w : World} {b : Nat} {words s0 s1 s2 s3 s4 s5 s6 s7 g0 g1 g2 g3 g4 g5 g6 g7 t0 t1 t2 t3 ma mb sa na sb nb : Int} {both : Bool} {h0 h1 h2 h3 h4 : Value} (h : w.heap[b]? = some (.cells #[.int .i64 words, .int .i64 s0, .int .i64 s1, .int .i64 s2, .int .i64 s3, .int .i64 s4, .int .i64 s5, .int .i64 s6, .int .i64 s7, .int .i64 g0, .int .i64 g1, .int .i64 g2, .int .i64 g3, .int .i64 g4, .int .i64 g5, .int .i64 g6, .int .i64 g7, .int .i64 t0, .int .i64 t1, .int .i64 t2, .int .i64 t3, .int .i64 ma, .int .i64 mb, .int .i64 sa, .int .i64 na, .int .i64 sb, .int .i64 nb, .bool both, h0, h1, h2, h3, h4] 31 (0, 0))) (i : Nat) (hi : i < 4) : w.cell? ⟨b, 17 + i, none⟩ = some (.int .i64 ([t0, t1, t2, t3].getD i 0)) := by
 rw [blk_cell h (17 + i)]
 have : i = 0 ∨ i = 1 ∨ i = 2 ∨ i = 3 := by omega
 rcases this with rfl | rfl | rfl | rfl <;> rfl
theorem wk_cell {w : World} {cb wb : Nat} {hand at_ l0 l1 l2 l3 l4 l5 l6 l7 : Int} {iv sv kv : Value} (h : w.heap[wb]? = some (.cells #[.pointer (some ⟨cb, 0, none⟩), .int .i64 hand, iv, sv, .int .i64 at_, kv, .int .i64 l0, .int .i64 l1, .int .i64 l2, .int .i64 l3, .int .i64 l4, .int .i64 l5, .int .i64 l6, .int .i64 l7] 65 (0, 0))) (i : Nat) (hi : i < 8) : w.cell? ⟨wb, 6 + i, none⟩ = some (.int .i64 ([l0, l1, l2, l3, l4, l5, l6, l7].getD i 0)) := by
 rw [blk_cell h (6 + i)]
 have : i = 0 ∨ i = 1 ∨ i = 2 ∨ i = 3 ∨ i = 4 ∨ i = 5 ∨ i = 6 ∨ i = 7 := by omega
 rcases this with rfl | rfl | rfl | rfl | rfl | rfl | rfl | rfl <;> rfl
theorem WkAt.setLo {N cb wb g : Nat} {hand at_ : Int} {iv sv : Value} {w0 : World} {w : World} {ks lo : List Int} (h : WkAt N cb wb g hand at_ iv sv w0 w ks lo) (a : Nat) (ha : a < 8) (t : Int) : WkAt N cb wb g hand at_ iv sv w0 (w.setCell ⟨wb, 6 + a, none⟩ (.int .i64 t)) ks (lo.set a t) := by
 obtain ⟨⟨kv, l0, l1, l2, l3, l4, l5, l6, l7, rfl, h1, h2⟩, h3⟩ := h
 have : a = 0 ∨ a = 1 ∨ a = 2 ∨ a = 3 ∨ a = 4 ∨ a = 5 ∨ a = 6 ∨ a = 7 := by omega
 rcases this with rfl | rfl | rfl | rfl | rfl | rfl | rfl | rfl <;> exact ⟨⟨kv, _, _, _, _, _, _, _, _, rfl, by rw [blk_set h1]; rfl, h2.set h1 (by decide) _ _⟩, h3.set _ _ (.inl rfl)⟩
theorem WkAt.rebase {N cb wb g : Nat} {hand at_ : Int} {iv sv : Value} {w0 : World} {W0 w : World} {ks lo : List Int} (k : WkAt N cb wb wb hand at_ iv sv W0 w ks lo) (h : Holds N wb g w0 W0) : WkAt N cb wb g hand at_ iv sv w0 w ks lo := ⟨k.blk, h.trans (k.hold.more g)⟩
set_option maxHeartbeats 8000000 in
set_option maxRecDepth 100000 in
theorem spec0R (words s0 s1 s2 s3 s4 s5 s6 s7 g0 g1 g2 g3 g4 g5 g6 g7 t0 t1 t2 t3 ma mb sa na sb nb : Int) (both : Bool) (h0 h1 h2 h3 h4 : Value) (N cb wb g : Nat) (hand at_ : Int) (iv sv : Value) (w0 : World) (w : World) (ks lo : List Int) (a : Nat) (hN : wb < N) (hM : N ≤ w0.heap.size) (hl : ks.length ≤ 500) (hcb : cb < N) (hne : cb ≠ wb) (hng : cb ≠ g) (hc : w0.heap[cb]? = some (.cells #[.int .i64 words, .int .i64 s0, .int .i64 s1, .int .i64 s2, .int .i64 s3, .int .i64 s4, .int .i64 s5, .int .i64 s6, .int .i64 s7, .int .i64 g0, .int .i64 g1, .int .i64 g2, .int .i64 g3, .int .i64 g4, .int .i64 g5, .int .i64 g6, .int .i64 g7, .int .i64 t0, .int .i64 t1, .int .i64 t2, .int .i64 t3, .int .i64 ma, .int .i64 mb, .int .i64 sa, .int .i64 na, .int .i64 sb, .int .i64 nb, .bool both, h0, h1, h2, h3, h4] 31 (0, 0))) (h : WkAt N cb wb g hand at_ iv sv w0 w ks lo) :
  Calls Try.prog 43 #[.pointer (some ⟨wb, 0, none⟩), .agg #[.int .i64 0, .int .i64 (a : Int)]] w fun e w' => (specP (resP hand ma mb) [s0, s1, s2, s3, s4, s5, s6, s7] [g0, g1, g2, g3, g4, g5, g6, g7] [t0, t1, t2, t3] 0 a ks lo = none ∧ Gives N wb g hand at_ w0 e w') ∨ ∃ ks' lo', specP (resP hand ma mb) [s0, s1, s2, s3, s4, s5, s6, s7] [g0, g1, g2, g3, g4, g5, g6, g7] [t0, t1, t2, t3] 0 a ks lo = some (ks', lo') ∧ e = .returned (.tuple #[]) ∧ WkAt N cb wb g hand at_ iv sv w0 w' ks' lo' := by
 have HNS := Aside0.mk (Nat.le_trans hM h.hold.size)
 have HBX := Aside0.mk (below_alloc (Below.refl w.heap.size w) (.cells #[.int .i64 0, .int .i64 (a : Int)] 42))
 have HW := Aside0.mk (h.step hM HBX.out)
 have HX := Aside0.mk (heap_alloc_new w (.cells #[.int .i64 0, .int .i64 (a : Int)] 42))
 clear h HBX
 go_enter Try.func43, Try.ntmps43
 go_upto_region 1 with (fail)
 generalize w.alloc (.cells #[.int .i64 0, .int .i64 (a : Int)] 42) = w1 at HW HX ⊢
 generalize w.heap.size = xb at HX HNS ⊢
 have hx0 : _ = some (Value.int .i64 0) := blk_cell HX.out 0
 have hx1 : _ = some (Value.int .i64 (a : Int)) := blk_cell HX.out 1
 obtain ⟨kv, l0, l1, l2, l3, l4, l5, l6, l7, hlo, hblk, hstk⟩ := HW.out.blk
 subst hlo
 have HE := Aside0.mk hblk
 have HK := Aside0.mk hstk
 have he0 : _ = some (Value.pointer (some ⟨cb, 0, none⟩)) := blk_cell hblk 0
 have he1 : _ = some (Value.int .i64 hand) := blk_cell hblk 1
 have he5 : _ = some kv := blk_cell hblk 5
 have HC := Aside0.mk (HW.out.hold.blk hc (.inl hcb) hne hng)
 clear hblk hstk hc
 go_wp2
 have HCR := Aside0.mk (show ∀ W, Below w1.heap.size w1 W → Calls Try.prog 55 #[.pointer (some ⟨cb, 0, none⟩), .int .i64 hand] W fun e w' => ∃ v, e = .returned v ∧ StkR w' v (resP hand ma mb) ∧ Below W.heap.size W w' from fun W hb => resultsR words s0 s1 s2 s3 s4 s5 s6 s7 g0 g1 g2 g3 g4 g5 g6 g7 t0 t1 t2 t3 ma mb sa na sb nb both h0 h1 h2 h3 h4 cb hand W ((hb.block cb (blk_lt HC.out)).trans HC.out))
 have HCE := Aside0.mk (show ∀ W v, Below w1.heap.size w1 W → StkR W v (resP hand ma mb) → Calls Try.prog 54 #[kv, v] W fun e w' => e = .returned (.bool (decide (ks = resP hand ma mb))) ∧ Drawn0 W w' from fun W v hb hv => equalR W kv v ks _ (HK.out.read.below hb) hv (by omega))
 generalize hres : resP hand ma mb = res at HCR HCE
 obtain ⟨dq, hdq⟩ : ∃ x, x = decide (ks = res) := ⟨_, rfl⟩
 rw [← hdq] at HCE
 have HDQ := Aside0.mk hdq
 clear hdq
 have h00 : Aside0 (Below w1.heap.size w1 w1) := ⟨Below.refl _ _⟩
 have HSK : Aside0 (∀ W, Below w1.heap.size w1 W → W.cell? ⟨wb, 5, none⟩ = some kv ∧ W.cell? ⟨wb, 0, none⟩ = some (Value.pointer (some ⟨cb, 0, none⟩)) ∧ W.cell? ⟨wb, 1, none⟩ = some (Value.int .i64 hand) ∧ Below w1.heap.size w1 W) := ⟨fun W h => ⟨pw_cell_below h he5, pw_cell_below h he0, pw_cell_below h he1, h⟩⟩
 go_region_held3 (fun W => W.cell? ⟨wb, 5, none⟩ = some kv ∧ W.cell? ⟨wb, 0, none⟩ = some (Value.pointer (some ⟨cb, 0, none⟩)) ∧ W.cell? ⟨wb, 1, none⟩ = some (Value.int .i64 hand) ∧ Below w1.heap.size w1 W) ((refine HSK.out _ ?_; exact by first | assumption | exact below_drew h00.out | exact below_step (below_drew h00.out) (by assumption) | exact pw_below_drewN (below_step (below_drew h00.out) (by assumption)) _)) (first | (go_at_call 55; refine (HCR.out _ (by first | assumption | exact below_drew h00.out | exact below_step (below_drew h00.out) (by assumption) | exact pw_below_drewN (below_step (below_drew h00.out) (by assumption)) _)).mono ?_; rintro e w2 ⟨v, rfl, hv, hb⟩) | (go_at_call 54; refine (HCE.out _ _ (by first | assumption | exact below_drew h00.out | exact below_step (below_drew h00.out) (by assumption) | exact pw_below_drewN (below_step (below_drew h00.out) (by assumption)) _) (by assumption)).mono ?_; rintro e w3 ⟨rfl, ⟨nd, rfl⟩⟩))
 have hb3 : Below w1.heap.size w1 (w2.drewN nd) := pw_below_drewN (below_step (below_drew h00.out) (by assumption)) nd
 have HB3 := Aside0.mk hb3
 have HW3 := Aside0.mk (HW.out.step hM hb3)
 have HE3 := Aside0.mk ((hb3.block wb (blk_lt HE.out)).trans HE.out)
 clear hb3 he0 he1 he5
 generalize w2.drewN nd = w3 at HB3 HW3 HE3 ⊢
 have HS := Aside0.mk (show specP (resP hand ma mb) [s0, s1, s2, s3, s4, s5, s6, s7] [g0, g1, g2, g3, g4, g5, g6, g7] [t0, t1, t2, t3] 0 a ks [l0, l1, l2, l3, l4, l5, l6, l7] = (if ks = res then some (ks, [l0, l1, l2, l3, l4, l5, l6, l7]) else none) from by rw [hres]; rfl)
 rcases dq with _ | _
 case true =>
  have HS2 := Aside0.mk (HS.out.trans (if_pos (of_decide_eq_true HDQ.out.symm)))
  go_wp2
  (first | go_end0 | refine bodyPost_ret (results_none rfl _ _ _) rfl ?_)
  exact .inr ⟨_, _, HS2.out, rfl, HW3.out⟩
 case false =>
  have HS2 := Aside0.mk (HS.out.trans (if_neg (of_decide_eq_false HDQ.out.symm)))
  go_wp2_with (go_at_call 39; refine (failR cb wb hand at_ l0 l1 l2 l3 l4 l5 l6 l7 iv sv kv w3 HE3.out).mono ?_; rintro e w4 ⟨rfl, ⟨nd2, rfl⟩⟩)
  exact ⟨rfl, .inl ⟨HS2.out, rfl, HW3.out.hold.drewN nd2⟩⟩
set_option maxHeartbeats 8000000 in
set_option maxRecDepth 100000 in
theorem spec4R (words s0 s1 s2 s3 s4 s5 s6 s7 g0 g1 g2 g3 g4 g5 g6 g7 t0 t1 t2 t3 ma mb sa na sb nb : Int) (both : Bool) (h0 h1 h2 h3 h4 : Value) (N cb wb g : Nat) (hand at_ : Int) (iv sv : Value) (w0 : World) (w : World) (ks lo : List Int) (a : Nat) (hN : wb < N) (hM : N ≤ w0.heap.size) (hl : ks.length ≤ 500) (hcb : cb < N) (hne : cb ≠ wb) (hng : cb ≠ g) (hc : w0.heap[cb]? = some (.cells #[.int .i64 words, .int .i64 s0, .int .i64 s1, .int .i64 s2, .int .i64 s3, .int .i64 s4, .int .i64 s5, .int .i64 s6, .int .i64 s7, .int .i64 g0, .int .i64 g1, .int .i64 g2, .int .i64 g3, .int .i64 g4, .int .i64 g5, .int .i64 g6, .int .i64 g7, .int .i64 t0, .int .i64 t1, .int .i64 t2, .int .i64 t3, .int .i64 ma, .int .i64 mb, .int .i64 sa, .int .i64 na, .int .i64 sb, .int .i64 nb, .bool both, h0, h1, h2, h3, h4] 31 (0, 0))) (h : WkAt N cb wb g hand at_ iv sv w0 w ks lo) :
  Calls Try.prog 43 #[.pointer (some ⟨wb, 0, none⟩), .agg #[.int .i64 4, .int .i64 (a : Int)]] w fun e w' => (specP (resP hand ma mb) [s0, s1, s2, s3, s4, s5, s6, s7] [g0, g1, g2, g3, g4, g5, g6, g7] [t0, t1, t2, t3] 4 a ks lo = none ∧ Gives N wb g hand at_ w0 e w') ∨ ∃ ks' lo', specP (resP hand ma mb) [s0, s1, s2, s3, s4, s5, s6, s7] [g0, g1, g2, g3, g4, g5, g6, g7] [t0, t1, t2, t3] 4 a ks lo = some (ks', lo') ∧ e = .returned (.tuple #[]) ∧ WkAt N cb wb g hand at_ iv sv w0 w' ks' lo' := by
 have HNS := Aside0.mk (Nat.le_trans hM h.hold.size)
 have HBX := Aside0.mk (below_alloc (Below.refl w.heap.size w) (.cells #[.int .i64 4, .int .i64 (a : Int)] 42))
 have HW := Aside0.mk (h.step hM HBX.out)
 have HX := Aside0.mk (heap_alloc_new w (.cells #[.int .i64 4, .int .i64 (a : Int)] 42))
 clear h HBX
 go_enter Try.func43, Try.ntmps43
 go_upto_region 1 with (fail)
 generalize w.alloc (.cells #[.int .i64 4, .int .i64 (a : Int)] 42) = w1 at HW HX ⊢
 generalize w.heap.size = xb at HX HNS ⊢
 have hx0 : _ = some (Value.int .i64 4) := blk_cell HX.out 0
 have hx1 : _ = some (Value.int .i64 (a : Int)) := blk_cell HX.out 1
 obtain ⟨kv, l0, l1, l2, l3, l4, l5, l6, l7, hlo, hblk, hstk⟩ := HW.out.blk
 subst hlo
 have HE := Aside0.mk hblk
 have HK := Aside0.mk hstk
 have he0 : _ = some (Value.pointer (some ⟨cb, 0, none⟩)) := blk_cell hblk 0
 have he1 : _ = some (Value.int .i64 hand) := blk_cell hblk 1
 have he5 : _ = some kv := blk_cell hblk 5
 have HC := Aside0.mk (HW.out.hold.blk hc (.inl hcb) hne hng)
 clear hblk hstk hc
 have HS := Aside0.mk (show specP (resP hand ma mb) [s0, s1, s2, s3, s4, s5, s6, s7] [g0, g1, g2, g3, g4, g5, g6, g7] [t0, t1, t2, t3] 4 a ks [l0, l1, l2, l3, l4, l5, l6, l7] = (match ks.getLast? with
  | none => none
  | some k => ((pushP k ks.dropLast).bind (pushP k)).map (fun s2 => (s2, [l0, l1, l2, l3, l4, l5, l6, l7]))) from rfl)
 have hdl : ks.dropLast.length ≤ 500 := by rw [List.length_dropLast]; omega
 clear HE he0 he1 he5
 rcases hg : ks.getLast? with _ | t
 ·have hp : popP 0 ks = none := by unfold popP; rw [hg]
  rw [hg] at HS
  have HS2 := HS
  go_wp2_with (go_at_call 41; (with_reducible refine (popBad N cb wb g hand at_ iv sv w0 _ ks [l0, l1, l2, l3, l4, l5, l6, l7] 0 hN hM (by omega) hp HW.out).mono ?_); rintro e w2 ⟨rfl, hh⟩; have HH := Aside0.mk hh; clear hh)
  exact ⟨rfl, .inl ⟨HS2.out, rfl, HH.out⟩⟩
 have hp : popP 0 ks = some ks.dropLast := by unfold popP; rw [hg]; rfl
 rw [hg] at HS
 simp only at HS
 rcases h1 : pushP t ks.dropLast with _ | k1
 ·rw [h1] at HS
  have HS2 := HS
  go_wp2_with (first | (go_at_call 41; (with_reducible refine (popGood N cb wb g hand at_ iv sv w0 _ ks ks.dropLast [l0, l1, l2, l3, l4, l5, l6, l7] 0 hN hM (by omega) hp t hg HW.out).mono ?_); rintro e w2 ⟨rfl, hw⟩; have n0_ := Aside0.mk hw; clear HW hw; have HW := n0_; clear n0_) | (go_at_call 44; (with_reducible refine (pushBad N cb wb g hand at_ iv sv w0 _ ks.dropLast [l0, l1, l2, l3, l4, l5, l6, l7] t hN hM (by omega) h1 HW.out).mono ?_); rintro e w2 ⟨rfl, hh⟩; have HH := Aside0.mk hh; clear hh))
  exact ⟨rfl, .inl ⟨HS2.out, rfl, HH.out⟩⟩
 rw [h1, Option.bind_some] at HS
 have hl1 : k1.length ≤ 600 := by
  unfold pushP at h1
  split at h1
  ·cases h1
  injection h1 with h1
  rw [← h1, List.length_append]
  simp only [List.length_singleton]
  omega
 rcases h2 : pushP t k1 with _ | k2
 ·rw [h2] at HS
  have HS2 := HS
  go_wp2_with (first | (go_at_call 41; (with_reducible refine (popGood N cb wb g hand at_ iv sv w0 _ ks ks.dropLast [l0, l1, l2, l3, l4, l5, l6, l7] 0 hN hM (by omega) hp t hg HW.out).mono ?_); rintro e w2 ⟨rfl, hw⟩; have n0_ := Aside0.mk hw; clear HW hw; have HW := n0_; clear n0_) | (go_at_call 44; (with_reducible refine (pushGood N cb wb g hand at_ iv sv w0 _ ks.dropLast k1 [l0, l1, l2, l3, l4, l5, l6, l7] t hN hM (by omega) h1 HW.out).mono ?_); rintro e w2 ⟨rfl, hw⟩; have n0_ := Aside0.mk hw; clear HW hw; have HW := n0_; clear n0_) | (go_at_call 44; (with_reducible refine (pushBad N cb wb g hand at_ iv sv w0 _ k1 [l0, l1, l2, l3, l4, l5, l6, l7] t hN hM (by omega) h2 HW.out).mono ?_); rintro e w2 ⟨rfl, hh⟩; have HH := Aside0.mk hh; clear hh))
  exact ⟨rfl, .inl ⟨HS2.out, rfl, HH.out⟩⟩
 rw [h2] at HS
 have HS2 := HS
 go_wp2_with (first | (go_at_call 41; (with_reducible refine (popGood N cb wb g hand at_ iv sv w0 _ ks ks.dropLast [l0, l1, l2, l3, l4, l5, l6, l7] 0 hN hM (by omega) hp t hg HW.out).mono ?_); rintro e w2 ⟨rfl, hw⟩; have n0_ := Aside0.mk hw; clear HW hw; have HW := n0_; clear n0_) | (go_at_call 44; (with_reducible refine (pushGood N cb wb g hand at_ iv sv w0 _ ks.dropLast k1 [l0, l1, l2, l3, l4, l5, l6, l7] t hN hM (by omega) h1 HW.out).mono ?_); rintro e w2 ⟨rfl, hw⟩; have n0_ := Aside0.mk hw; clear HW hw; have HW := n0_; clear n0_) | (go_at_call 44; (with_reducible refine (pushGood N cb wb g hand at_ iv sv w0 _ k1 k2 [l0, l1, l2, l3, l4, l5, l6, l7] t hN hM (by omega) h2 HW.out).mono ?_); rintro e w2 ⟨rfl, hw⟩; have n0_ := Aside0.mk hw; clear HW hw; have HW := n0_; clear n0_))
 (first | go_end0 | refine bodyPost_ret (results_none rfl _ _ _) rfl ?_)
 exact .inr ⟨_, _, HS2.out, rfl, HW.out⟩
set_option maxHeartbeats 8000000 in
set_option maxRecDepth 100000 in
theorem spec5R (words s0 s1 s2 s3 s4 s5 s6 s7 g0 g1 g2 g3 g4 g5 g6 g7 t0 t1 t2 t3 ma mb sa na sb nb : Int) (both : Bool) (h0 h1 h2 h3 h4 : Value) (N cb wb g : Nat) (hand at_ : Int) (iv sv : Value) (w0 : World) (w : World) (ks lo : List Int) (a : Nat) (hN : wb < N) (hM : N ≤ w0.heap.size) (hl : ks.length ≤ 500) (hcb : cb < N) (hne : cb ≠ wb) (hng : cb ≠ g) (hc : w0.heap[cb]? = some (.cells #[.int .i64 words, .int .i64 s0, .int .i64 s1, .int .i64 s2, .int .i64 s3, .int .i64 s4, .int .i64 s5, .int .i64 s6, .int .i64 s7, .int .i64 g0, .int .i64 g1, .int .i64 g2, .int .i64 g3, .int .i64 g4, .int .i64 g5, .int .i64 g6, .int .i64 g7, .int .i64 t0, .int .i64 t1, .int .i64 t2, .int .i64 t3, .int .i64 ma, .int .i64 mb, .int .i64 sa, .int .i64 na, .int .i64 sb, .int .i64 nb, .bool both, h0, h1, h2, h3, h4] 31 (0, 0))) (h : WkAt N cb wb g hand at_ iv sv w0 w ks lo) :
  Calls Try.prog 43 #[.pointer (some ⟨wb, 0, none⟩), .agg #[.int .i64 5, .int .i64 (a : Int)]] w fun e w' => (specP (resP hand ma mb) [s0, s1, s2, s3, s4, s5, s6, s7] [g0, g1, g2, g3, g4, g5, g6, g7] [t0, t1, t2, t3] 5 a ks lo = none ∧ Gives N wb g hand at_ w0 e w') ∨ ∃ ks' lo', specP (resP hand ma mb) [s0, s1, s2, s3, s4, s5, s6, s7] [g0, g1, g2, g3, g4, g5, g6, g7] [t0, t1, t2, t3] 5 a ks lo = some (ks', lo') ∧ e = .returned (.tuple #[]) ∧ WkAt N cb wb g hand at_ iv sv w0 w' ks' lo' := by
 have HNS := Aside0.mk (Nat.le_trans hM h.hold.size)
 have HBX := Aside0.mk (below_alloc (Below.refl w.heap.size w) (.cells #[.int .i64 5, .int .i64 (a : Int)] 42))
 have HW := Aside0.mk (h.step hM HBX.out)
 have HX := Aside0.mk (heap_alloc_new w (.cells #[.int .i64 5, .int .i64 (a : Int)] 42))
 clear h HBX
 go_enter Try.func43, Try.ntmps43
 go_upto_region 1 with (fail)
 generalize w.alloc (.cells #[.int .i64 5, .int .i64 (a : Int)] 42) = w1 at HW HX ⊢
 generalize w.heap.size = xb at HX HNS ⊢
 have hx0 : _ = some (Value.int .i64 5) := blk_cell HX.out 0
 have hx1 : _ = some (Value.int .i64 (a : Int)) := blk_cell HX.out 1
 obtain ⟨kv, l0, l1, l2, l3, l4, l5, l6, l7, hlo, hblk, hstk⟩ := HW.out.blk
 subst hlo
 have HE := Aside0.mk hblk
 have HK := Aside0.mk hstk
 have he0 : _ = some (Value.pointer (some ⟨cb, 0, none⟩)) := blk_cell hblk 0
 have he1 : _ = some (Value.int .i64 hand) := blk_cell hblk 1
 have he5 : _ = some kv := blk_cell hblk 5
 have HC := Aside0.mk (HW.out.hold.blk hc (.inl hcb) hne hng)
 clear hblk hstk hc
 have HS := Aside0.mk (show specP (resP hand ma mb) [s0, s1, s2, s3, s4, s5, s6, s7] [g0, g1, g2, g3, g4, g5, g6, g7] [t0, t1, t2, t3] 5 a ks [l0, l1, l2, l3, l4, l5, l6, l7] = (popP 0 ks).map (fun s2 => (s2, [l0, l1, l2, l3, l4, l5, l6, l7])) from rfl)
 clear HE he0 he1 he5
 rcases hg : ks.getLast? with _ | t
 ·have hp : popP 0 ks = none := by unfold popP; rw [hg]
  rw [hp] at HS
  have HS2 := HS
  go_wp2_with (go_at_call 41; (with_reducible refine (popBad N cb wb g hand at_ iv sv w0 _ ks [l0, l1, l2, l3, l4, l5, l6, l7] 0 hN hM (by omega) hp HW.out).mono ?_); rintro e w2 ⟨rfl, hh⟩; have HH := Aside0.mk hh; clear hh)
  exact ⟨rfl, .inl ⟨HS2.out, rfl, HH.out⟩⟩
 have hp : popP 0 ks = some ks.dropLast := by unfold popP; rw [hg]; rfl
 rw [hp] at HS
 have HS2 := HS
 go_wp2_with (go_at_call 41; (with_reducible refine (popGood N cb wb g hand at_ iv sv w0 _ ks ks.dropLast [l0, l1, l2, l3, l4, l5, l6, l7] 0 hN hM (by omega) hp t hg HW.out).mono ?_); rintro e w2 ⟨rfl, hw⟩; have n0_ := Aside0.mk hw; clear HW hw; have HW := n0_; clear n0_)
 (first | go_end0 | refine bodyPost_ret (results_none rfl _ _ _) rfl ?_)
 exact .inr ⟨_, _, HS2.out, rfl, HW.out⟩
set_option maxHeartbeats 8000000 in
set_option maxRecDepth 100000 in
theorem spec6R (words s0 s1 s2 s3 s4 s5 s6 s7 g0 g1 g2 g3 g4 g5 g6 g7 t0 t1 t2 t3 ma mb sa na sb nb : Int) (both : Bool) (h0 h1 h2 h3 h4 : Value) (N cb wb g : Nat) (hand at_ : Int) (iv sv : Value) (w0 : World) (w : World) (ks lo : List Int) (a : Nat) (hN : wb < N) (hM : N ≤ w0.heap.size) (hl : ks.length ≤ 500) (hcb : cb < N) (hne : cb ≠ wb) (hng : cb ≠ g) (hc : w0.heap[cb]? = some (.cells #[.int .i64 words, .int .i64 s0, .int .i64 s1, .int .i64 s2, .int .i64 s3, .int .i64 s4, .int .i64 s5, .int .i64 s6, .int .i64 s7, .int .i64 g0, .int .i64 g1, .int .i64 g2, .int .i64 g3, .int .i64 g4, .int .i64 g5, .int .i64 g6, .int .i64 g7, .int .i64 t0, .int .i64 t1, .int .i64 t2, .int .i64 t3, .int .i64 ma, .int .i64 mb, .int .i64 sa, .int .i64 na, .int .i64 sb, .int .i64 nb, .bool both, h0, h1, h2, h3, h4] 31 (0, 0))) (h : WkAt N cb wb g hand at_ iv sv w0 w ks lo) :
  Calls Try.prog 43 #[.pointer (some ⟨wb, 0, none⟩), .agg #[.int .i64 6, .int .i64 (a : Int)]] w fun e w' => (specP (resP hand ma mb) [s0, s1, s2, s3, s4, s5, s6, s7] [g0, g1, g2, g3, g4, g5, g6, g7] [t0, t1, t2, t3] 6 a ks lo = none ∧ Gives N wb g hand at_ w0 e w') ∨ ∃ ks' lo', specP (resP hand ma mb) [s0, s1, s2, s3, s4, s5, s6, s7] [g0, g1, g2, g3, g4, g5, g6, g7] [t0, t1, t2, t3] 6 a ks lo = some (ks', lo') ∧ e = .returned (.tuple #[]) ∧ WkAt N cb wb g hand at_ iv sv w0 w' ks' lo' := by
 have HNS := Aside0.mk (Nat.le_trans hM h.hold.size)
 have HBX := Aside0.mk (below_alloc (Below.refl w.heap.size w) (.cells #[.int .i64 6, .int .i64 (a : Int)] 42))
 have HW := Aside0.mk (h.step hM HBX.out)
 have HX := Aside0.mk (heap_alloc_new w (.cells #[.int .i64 6, .int .i64 (a : Int)] 42))
 clear h HBX
 go_enter Try.func43, Try.ntmps43
 go_upto_region 1 with (fail)
 generalize w.alloc (.cells #[.int .i64 6, .int .i64 (a : Int)] 42) = w1 at HW HX ⊢
 generalize w.heap.size = xb at HX HNS ⊢
 have hx0 : _ = some (Value.int .i64 6) := blk_cell HX.out 0
 have hx1 : _ = some (Value.int .i64 (a : Int)) := blk_cell HX.out 1
 obtain ⟨kv, l0, l1, l2, l3, l4, l5, l6, l7, hlo, hblk, hstk⟩ := HW.out.blk
 subst hlo
 have HE := Aside0.mk hblk
 have HK := Aside0.mk hstk
 have he0 : _ = some (Value.pointer (some ⟨cb, 0, none⟩)) := blk_cell hblk 0
 have he1 : _ = some (Value.int .i64 hand) := blk_cell hblk 1
 have he5 : _ = some kv := blk_cell hblk 5
 have HC := Aside0.mk (HW.out.hold.blk hc (.inl hcb) hne hng)
 clear hblk hstk hc
 have HS := Aside0.mk (show specP (resP hand ma mb) [s0, s1, s2, s3, s4, s5, s6, s7] [g0, g1, g2, g3, g4, g5, g6, g7] [t0, t1, t2, t3] 6 a ks [l0, l1, l2, l3, l4, l5, l6, l7] = (match ks.getLast?, ks.dropLast.getLast? with
  | some y, some z => ((pushP y ks.dropLast.dropLast).bind (pushP z)).map (fun s2 => (s2, [l0, l1, l2, l3, l4, l5, l6, l7]))
  | _, _ => none) from rfl)
 have hdl : ks.dropLast.length ≤ 500 := by rw [List.length_dropLast]; omega
 have hdl2 : ks.dropLast.dropLast.length ≤ 500 := by rw [List.length_dropLast]; omega
 clear HE he0 he1 he5
 rcases hg : ks.getLast? with _ | y
 ·have hp : popP 0 ks = none := by unfold popP; rw [hg]
  rw [hg] at HS
  have HS2 := Aside0.mk (HS.out.trans rfl)
  go_wp2_with (go_at_call 41; (with_reducible refine (popBad N cb wb g hand at_ iv sv w0 _ ks [l0, l1, l2, l3, l4, l5, l6, l7] 0 hN hM (by omega) hp HW.out).mono ?_); rintro e w2 ⟨rfl, hh⟩; have HH := Aside0.mk hh; clear hh)
  exact ⟨rfl, .inl ⟨HS2.out, rfl, HH.out⟩⟩
 have hp : popP 0 ks = some ks.dropLast := by unfold popP; rw [hg]; rfl
 rw [hg] at HS
 rcases hg2 : ks.dropLast.getLast? with _ | z
 ·have hp2 : popP 0 ks.dropLast = none := by unfold popP; rw [hg2]
  rw [hg2] at HS
  have HS2 := Aside0.mk (HS.out.trans rfl)
  go_wp2_with (first | (go_at_call 41; (with_reducible refine (popGood N cb wb g hand at_ iv sv w0 _ ks ks.dropLast [l0, l1, l2, l3, l4, l5, l6, l7] 0 hN hM (by omega) hp y hg HW.out).mono ?_); rintro e w2 ⟨rfl, hw⟩; have n0_ := Aside0.mk hw; clear HW hw; have HW := n0_; clear n0_) | (go_at_call 41; (with_reducible refine (popBad N cb wb g hand at_ iv sv w0 _ ks.dropLast [l0, l1, l2, l3, l4, l5, l6, l7] 0 hN hM (by omega) hp2 HW.out).mono ?_); rintro e w2 ⟨rfl, hh⟩; have HH := Aside0.mk hh; clear hh))
  exact ⟨rfl, .inl ⟨HS2.out, rfl, HH.out⟩⟩
 have hp2 : popP 0 ks.dropLast = some ks.dropLast.dropLast := by unfold popP; rw [hg2]; rfl
 rw [hg2] at HS
 simp only at HS
 rcases h1 : pushP y ks.dropLast.dropLast with _ | k1
 ·rw [h1] at HS
  have HS2 := HS
  go_wp2_with (first | (go_at_call 41; (with_reducible refine (popGood N cb wb g hand at_ iv sv w0 _ ks ks.dropLast [l0, l1, l2, l3, l4, l5, l6, l7] 0 hN hM (by omega) hp y hg HW.out).mono ?_); rintro e w2 ⟨rfl, hw⟩; have n0_ := Aside0.mk hw; clear HW hw; have HW := n0_; clear n0_) | (go_at_call 41; (with_reducible refine (popGood N cb wb g hand at_ iv sv w0 _ ks.dropLast ks.dropLast.dropLast [l0, l1, l2, l3, l4, l5, l6, l7] 0 hN hM (by omega) hp2 z hg2 HW.out).mono ?_); rintro e w2 ⟨rfl, hw⟩; have n0_ := Aside0.mk hw; clear HW hw; have HW := n0_; clear n0_) | (go_at_call 44; (with_reducible refine (pushBad N cb wb g hand at_ iv sv w0 _ ks.dropLast.dropLast [l0, l1, l2, l3, l4, l5, l6, l7] y hN hM (by omega) h1 HW.out).mono ?_); rintro e w2 ⟨rfl, hh⟩; have HH := Aside0.mk hh; clear hh))
  exact ⟨rfl, .inl ⟨HS2.out, rfl, HH.out⟩⟩
 rw [h1, Option.bind_some] at HS
 have hl1 : k1.length ≤ 600 := by
  unfold pushP at h1
  split at h1
  ·cases h1
  injection h1 with h1
  rw [← h1, List.length_append]
  simp only [List.length_singleton]
  omega
 rcases h2 : pushP z k1 with _ | k2
 ·rw [h2] at HS
  have HS2 := HS
  go_wp2_with (first | (go_at_call 41; (with_reducible refine (popGood N cb wb g hand at_ iv sv w0 _ ks ks.dropLast [l0, l1, l2, l3, l4, l5, l6, l7] 0 hN hM (by omega) hp y hg HW.out).mono ?_); rintro e w2 ⟨rfl, hw⟩; have n0_ := Aside0.mk hw; clear HW hw; have HW := n0_; clear n0_) | (go_at_call 41; (with_reducible refine (popGood N cb wb g hand at_ iv sv w0 _ ks.dropLast ks.dropLast.dropLast [l0, l1, l2, l3, l4, l5, l6, l7] 0 hN hM (by omega) hp2 z hg2 HW.out).mono ?_); rintro e w2 ⟨rfl, hw⟩; have n0_ := Aside0.mk hw; clear HW hw; have HW := n0_; clear n0_) | (go_at_call 44; (with_reducible refine (pushGood N cb wb g hand at_ iv sv w0 _ ks.dropLast.dropLast k1 [l0, l1, l2, l3, l4, l5, l6, l7] y hN hM (by omega) h1 HW.out).mono ?_); rintro e w2 ⟨rfl, hw⟩; have n0_ := Aside0.mk hw; clear HW hw; have HW := n0_; clear n0_) | (go_at_call 44; (with_reducible refine (pushBad N cb wb g hand at_ iv sv w0 _ k1 [l0, l1, l2, l3, l4, l5, l6, l7] z hN hM (by omega) h2 HW.out).mono ?_); rintro e w2 ⟨rfl, hh⟩; have HH := Aside0.mk hh; clear hh))
  exact ⟨rfl, .inl ⟨HS2.out, rfl, HH.out⟩⟩
 rw [h2] at HS
 have HS2 := HS
 go_wp2_with (first | (go_at_call 41; (with_reducible refine (popGood N cb wb g hand at_ iv sv w0 _ ks ks.dropLast [l0, l1, l2, l3, l4, l5, l6, l7] 0 hN hM (by omega) hp y hg HW.out).mono ?_); rintro e w2 ⟨rfl, hw⟩; have n0_ := Aside0.mk hw; clear HW hw; have HW := n0_; clear n0_) | (go_at_call 41; (with_reducible refine (popGood N cb wb g hand at_ iv sv w0 _ ks.dropLast ks.dropLast.dropLast [l0, l1, l2, l3, l4, l5, l6, l7] 0 hN hM (by omega) hp2 z hg2 HW.out).mono ?_); rintro e w2 ⟨rfl, hw⟩; have n0_ := Aside0.mk hw; clear HW hw; have HW := n0_; clear n0_) | (go_at_call 44; (with_reducible refine (pushGood N cb wb g hand at_ iv sv w0 _ ks.dropLast.dropLast k1 [l0, l1, l2, l3, l4, l5, l6, l7] y hN hM (by omega) h1 HW.out).mono ?_); rintro e w2 ⟨rfl, hw⟩; have n0_ := Aside0.mk hw; clear HW hw; have HW := n0_; clear n0_) | (go_at_call 44; (with_reducible refine (pushGood N cb wb g hand at_ iv sv w0 _ k1 k2 [l0, l1, l2, l3, l4, l5, l6, l7] z hN hM (by omega) h2 HW.out).mono ?_); rintro e w2 ⟨rfl, hw⟩; have n0_ := Aside0.mk hw; clear HW hw; have HW := n0_; clear n0_))
 (first | go_end0 | refine bodyPost_ret (results_none rfl _ _ _) rfl ?_)
 exact .inr ⟨_, _, HS2.out, rfl, HW.out⟩
set_option maxHeartbeats 8000000 in
set_option maxRecDepth 100000 in
theorem spec7R (words s0 s1 s2 s3 s4 s5 s6 s7 g0 g1 g2 g3 g4 g5 g6 g7 t0 t1 t2 t3 ma mb sa na sb nb : Int) (both : Bool) (h0 h1 h2 h3 h4 : Value) (N cb wb g : Nat) (hand at_ : Int) (iv sv : Value) (w0 : World) (w : World) (ks lo : List Int) (a : Nat) (hN : wb < N) (hM : N ≤ w0.heap.size) (hl : ks.length ≤ 500) (hcb : cb < N) (hne : cb ≠ wb) (hng : cb ≠ g) (hc : w0.heap[cb]? = some (.cells #[.int .i64 words, .int .i64 s0, .int .i64 s1, .int .i64 s2, .int .i64 s3, .int .i64 s4, .int .i64 s5, .int .i64 s6, .int .i64 s7, .int .i64 g0, .int .i64 g1, .int .i64 g2, .int .i64 g3, .int .i64 g4, .int .i64 g5, .int .i64 g6, .int .i64 g7, .int .i64 t0, .int .i64 t1, .int .i64 t2, .int .i64 t3, .int .i64 ma, .int .i64 mb, .int .i64 sa, .int .i64 na, .int .i64 sb, .int .i64 nb, .bool both, h0, h1, h2, h3, h4] 31 (0, 0))) (ha : a < 32) (h : WkAt N cb wb g hand at_ iv sv w0 w ks lo) :
  Calls Try.prog 43 #[.pointer (some ⟨wb, 0, none⟩), .agg #[.int .i64 7, .int .i64 (a : Int)]] w fun e w' => (specP (resP hand ma mb) [s0, s1, s2, s3, s4, s5, s6, s7] [g0, g1, g2, g3, g4, g5, g6, g7] [t0, t1, t2, t3] 7 a ks lo = none ∧ Gives N wb g hand at_ w0 e w') ∨ ∃ ks' lo', specP (resP hand ma mb) [s0, s1, s2, s3, s4, s5, s6, s7] [g0, g1, g2, g3, g4, g5, g6, g7] [t0, t1, t2, t3] 7 a ks lo = some (ks', lo') ∧ e = .returned (.tuple #[]) ∧ WkAt N cb wb g hand at_ iv sv w0 w' ks' lo' := by
 have HNS := Aside0.mk (Nat.le_trans hM h.hold.size)
 have HBX := Aside0.mk (below_alloc (Below.refl w.heap.size w) (.cells #[.int .i64 7, .int .i64 (a : Int)] 42))
 have HW := Aside0.mk (h.step hM HBX.out)
 have HX := Aside0.mk (heap_alloc_new w (.cells #[.int .i64 7, .int .i64 (a : Int)] 42))
 clear h HBX
 go_enter Try.func43, Try.ntmps43
 go_upto_region 1 with (fail)
 generalize w.alloc (.cells #[.int .i64 7, .int .i64 (a : Int)] 42) = w1 at HW HX ⊢
 generalize w.heap.size = xb at HX HNS ⊢
 have hx0 : _ = some (Value.int .i64 7) := blk_cell HX.out 0
 have hx1 : _ = some (Value.int .i64 (a : Int)) := blk_cell HX.out 1
 obtain ⟨kv, l0, l1, l2, l3, l4, l5, l6, l7, hlo, hblk, hstk⟩ := HW.out.blk
 subst hlo
 have HE := Aside0.mk hblk
 have HK := Aside0.mk hstk
 have he0 : _ = some (Value.pointer (some ⟨cb, 0, none⟩)) := blk_cell hblk 0
 have he1 : _ = some (Value.int .i64 hand) := blk_cell hblk 1
 have he5 : _ = some kv := blk_cell hblk 5
 have HC := Aside0.mk (HW.out.hold.blk hc (.inl hcb) hne hng)
 clear hblk hstk hc
 have HS := Aside0.mk (show specP (resP hand ma mb) [s0, s1, s2, s3, s4, s5, s6, s7] [g0, g1, g2, g3, g4, g5, g6, g7] [t0, t1, t2, t3] 7 a ks [l0, l1, l2, l3, l4, l5, l6, l7] = (if ks.length < a + 1 then none else (pushP (ks.getD (ks.length - 1 - a) 0) ks).map (fun s2 => (s2, [l0, l1, l2, l3, l4, l5, l6, l7]))) from rfl)
 obtain ⟨A, c, hkv, hlc⟩ := HK.out.read.slice
 subst hkv
 clear he0 he1
 have HWQ := Aside0.mk (fun n => HW.out.step hM (pw_below_drewN (Below.refl w1.heap.size w1) n))
 have HEQ := Aside0.mk (show ∀ n, (w1.drewN n).heap[wb]? = _ from fun n => HE.out)
 by_cases hi : ks.length < a + 1
 ·have HS2 := Aside0.mk (HS.out.trans (if_pos hi))
  have d1 : (ks.length : Int) - 1 - (a : Int) < 0 := by omega
  go_wp2
  go_quiet (fail)
  go_wp2_with (go_at_call 39; refine (failR cb wb hand at_ l0 l1 l2 l3 l4 l5 l6 l7 iv sv (.slice A ks.length c) _ (HEQ.out _)).mono ?_; rintro e w4 ⟨rfl, ⟨nd2, rfl⟩⟩)
  exact ⟨rfl, .inl ⟨HS2.out, rfl, HW.out.hold.drewN _⟩⟩
 have HS1 := Aside0.mk (HS.out.trans (if_neg hi))
 have d1 : ¬ (ks.length : Int) - 1 - (a : Int) < 0 := by omega
 have q1 : 0 ≤ (ks.length : Int) - 1 - (a : Int) ∧ (ks.length : Int) - 1 - (a : Int) < (ks.length : Int) := by omega
 have hto : ((ks.length : Int) - 1 - (a : Int)).toNat = ks.length - 1 - a := by omega
 obtain ⟨q, c', hq, _, hcell⟩ := HK.out.read.cell (ks.length - 1 - a) (by omega)
 injection hq with hq1 hq2 hq3
 subst hq1
 obtain ⟨v, hv⟩ : ∃ v, v = ks.getD (ks.length - 1 - a) 0 := ⟨_, rfl⟩
 rw [← hv] at HS1 hcell
 clear hv hi hq2
 rcases hp : pushP v ks with _ | k1
 ·rw [hp] at HS1
  have HS2 := HS1
  go_wp2
  go_quiet (fail)
  go_wp2_with (go_at_call 44; (with_reducible refine (pushBad N cb wb g hand at_ iv sv w0 _ ks [l0, l1, l2, l3, l4, l5, l6, l7] v hN hM (by omega) hp (HWQ.out _)).mono ?_); rintro e w2 ⟨rfl, hh⟩; have HH := Aside0.mk hh; clear hh)
  exact ⟨rfl, .inl ⟨HS2.out, rfl, HH.out⟩⟩
 rw [hp] at HS1
 have HS2 := HS1
 go_wp2
 go_quiet (fail)
 go_wp2_with (go_at_call 44; (with_reducible refine (pushGood N cb wb g hand at_ iv sv w0 _ ks k1 [l0, l1, l2, l3, l4, l5, l6, l7] v hN hM (by omega) hp (HWQ.out _)).mono ?_); rintro e w2 ⟨rfl, hw⟩; have n0_ := Aside0.mk hw; clear HW hw; have HW := n0_; clear n0_)
 (first | go_end0 | refine bodyPost_ret (results_none rfl _ _ _) rfl ?_)
 exact .inr ⟨_, _, HS2.out, rfl, HW.out⟩
set_option maxHeartbeats 8000000 in
set_option maxRecDepth 100000 in
theorem spec8R (words s0 s1 s2 s3 s4 s5 s6 s7 g0 g1 g2 g3 g4 g5 g6 g7 t0 t1 t2 t3 ma mb sa na sb nb : Int) (both : Bool) (h0 h1 h2 h3 h4 : Value) (N cb wb g : Nat) (hand at_ : Int) (iv sv : Value) (w0 : World) (w : World) (ks lo : List Int) (a : Nat) (hN : wb < N) (hM : N ≤ w0.heap.size) (hl : ks.length ≤ 500) (hcb : cb < N) (hne : cb ≠ wb) (hng : cb ≠ g) (hc : w0.heap[cb]? = some (.cells #[.int .i64 words, .int .i64 s0, .int .i64 s1, .int .i64 s2, .int .i64 s3, .int .i64 s4, .int .i64 s5, .int .i64 s6, .int .i64 s7, .int .i64 g0, .int .i64 g1, .int .i64 g2, .int .i64 g3, .int .i64 g4, .int .i64 g5, .int .i64 g6, .int .i64 g7, .int .i64 t0, .int .i64 t1, .int .i64 t2, .int .i64 t3, .int .i64 ma, .int .i64 mb, .int .i64 sa, .int .i64 na, .int .i64 sb, .int .i64 nb, .bool both, h0, h1, h2, h3, h4] 31 (0, 0))) (ha : a < 8) (h : WkAt N cb wb g hand at_ iv sv w0 w ks lo) :
  Calls Try.prog 43 #[.pointer (some ⟨wb, 0, none⟩), .agg #[.int .i64 8, .int .i64 (a : Int)]] w fun e w' => (specP (resP hand ma mb) [s0, s1, s2, s3, s4, s5, s6, s7] [g0, g1, g2, g3, g4, g5, g6, g7] [t0, t1, t2, t3] 8 a ks lo = none ∧ Gives N wb g hand at_ w0 e w') ∨ ∃ ks' lo', specP (resP hand ma mb) [s0, s1, s2, s3, s4, s5, s6, s7] [g0, g1, g2, g3, g4, g5, g6, g7] [t0, t1, t2, t3] 8 a ks lo = some (ks', lo') ∧ e = .returned (.tuple #[]) ∧ WkAt N cb wb g hand at_ iv sv w0 w' ks' lo' := by
 have HNS := Aside0.mk (Nat.le_trans hM h.hold.size)
 have HBX := Aside0.mk (below_alloc (Below.refl w.heap.size w) (.cells #[.int .i64 8, .int .i64 (a : Int)] 42))
 have HW := Aside0.mk (h.step hM HBX.out)
 have HX := Aside0.mk (heap_alloc_new w (.cells #[.int .i64 8, .int .i64 (a : Int)] 42))
 clear h HBX
 go_enter Try.func43, Try.ntmps43
 go_upto_region 1 with (fail)
 generalize w.alloc (.cells #[.int .i64 8, .int .i64 (a : Int)] 42) = w1 at HW HX ⊢
 generalize w.heap.size = xb at HX HNS ⊢
 have hx0 : _ = some (Value.int .i64 8) := blk_cell HX.out 0
 have hx1 : _ = some (Value.int .i64 (a : Int)) := blk_cell HX.out 1
 obtain ⟨kv, l0, l1, l2, l3, l4, l5, l6, l7, hlo, hblk, hstk⟩ := HW.out.blk
 subst hlo
 have HE := Aside0.mk hblk
 have HK := Aside0.mk hstk
 have he0 : _ = some (Value.pointer (some ⟨cb, 0, none⟩)) := blk_cell hblk 0
 have he1 : _ = some (Value.int .i64 hand) := blk_cell hblk 1
 have he5 : _ = some kv := blk_cell hblk 5
 have HC := Aside0.mk (HW.out.hold.blk hc (.inl hcb) hne hng)
 clear hblk hstk hc
 have HS := Aside0.mk (show specP (resP hand ma mb) [s0, s1, s2, s3, s4, s5, s6, s7] [g0, g1, g2, g3, g4, g5, g6, g7] [t0, t1, t2, t3] 8 a ks [l0, l1, l2, l3, l4, l5, l6, l7] = (if [l0, l1, l2, l3, l4, l5, l6, l7].getD a 0 = 0 then none else (pushP ([l0, l1, l2, l3, l4, l5, l6, l7].getD a 0) ks).map (fun s2 => (s2, [l0, l1, l2, l3, l4, l5, l6, l7]))) from rfl)
 have hcell := wk_cell HE.out a ha
 have q1 : 0 ≤ (a : Int) ∧ (a : Int) < 8 := by omega
 obtain ⟨v, hv⟩ : ∃ v, v = [l0, l1, l2, l3, l4, l5, l6, l7].getD a 0 := ⟨_, rfl⟩
 rw [← hv] at HS hcell
 clear hv he0 he1 he5
 have HWQ := Aside0.mk (fun n => HW.out.step hM (pw_below_drewN (Below.refl w1.heap.size w1) n))
 have HEQ := Aside0.mk (show ∀ n, (w1.drewN n).heap[wb]? = _ from fun n => HE.out)
 by_cases hi : v = 0
 ·have HS2 := Aside0.mk (HS.out.trans (if_pos hi))
  subst hi
  go_wp2
  go_quiet (fail)
  go_wp2_with (go_at_call 39; refine (failR cb wb hand at_ l0 l1 l2 l3 l4 l5 l6 l7 iv sv kv _ (HEQ.out _)).mono ?_; rintro e w4 ⟨rfl, ⟨nd2, rfl⟩⟩)
  exact ⟨rfl, .inl ⟨HS2.out, rfl, HW.out.hold.drewN _⟩⟩
 have HS1 := Aside0.mk (HS.out.trans (if_neg hi))
 have d1 : (v == 0) = false := beq_eq_false_iff_ne.mpr hi
 clear hi
 rcases hp : pushP v ks with _ | k1
 ·rw [hp] at HS1
  have HS2 := HS1
  go_wp2
  go_quiet (fail)
  go_wp2_with (go_at_call 44; (with_reducible refine (pushBad N cb wb g hand at_ iv sv w0 _ ks [l0, l1, l2, l3, l4, l5, l6, l7] v hN hM (by omega) hp (HWQ.out _)).mono ?_); rintro e w2 ⟨rfl, hh⟩; have HH := Aside0.mk hh; clear hh)
  exact ⟨rfl, .inl ⟨HS2.out, rfl, HH.out⟩⟩
 rw [hp] at HS1
 have HS2 := HS1
 go_wp2
 go_quiet (fail)
 go_wp2_with (go_at_call 44; (with_reducible refine (pushGood N cb wb g hand at_ iv sv w0 _ ks k1 [l0, l1, l2, l3, l4, l5, l6, l7] v hN hM (by omega) hp (HWQ.out _)).mono ?_); rintro e w2 ⟨rfl, hw⟩; have n0_ := Aside0.mk hw; clear HW hw; have HW := n0_; clear n0_)
 (first | go_end0 | refine bodyPost_ret (results_none rfl _ _ _) rfl ?_)
 exact .inr ⟨_, _, HS2.out, rfl, HW.out⟩
set_option maxHeartbeats 8000000 in
set_option maxRecDepth 100000 in
theorem spec9R (words s0 s1 s2 s3 s4 s5 s6 s7 g0 g1 g2 g3 g4 g5 g6 g7 t0 t1 t2 t3 ma mb sa na sb nb : Int) (both : Bool) (h0 h1 h2 h3 h4 : Value) (N cb wb g : Nat) (hand at_ : Int) (iv sv : Value) (w0 : World) (w : World) (ks lo : List Int) (a : Nat) (hN : wb < N) (hM : N ≤ w0.heap.size) (hl : ks.length ≤ 500) (hcb : cb < N) (hne : cb ≠ wb) (hng : cb ≠ g) (hc : w0.heap[cb]? = some (.cells #[.int .i64 words, .int .i64 s0, .int .i64 s1, .int .i64 s2, .int .i64 s3, .int .i64 s4, .int .i64 s5, .int .i64 s6, .int .i64 s7, .int .i64 g0, .int .i64 g1, .int .i64 g2, .int .i64 g3, .int .i64 g4, .int .i64 g5, .int .i64 g6, .int .i64 g7, .int .i64 t0, .int .i64 t1, .int .i64 t2, .int .i64 t3, .int .i64 ma, .int .i64 mb, .int .i64 sa, .int .i64 na, .int .i64 sb, .int .i64 nb, .bool both, h0, h1, h2, h3, h4] 31 (0, 0))) (ha : a < 8) (h : WkAt N cb wb g hand at_ iv sv w0 w ks lo) :
  Calls Try.prog 43 #[.pointer (some ⟨wb, 0, none⟩), .agg #[.int .i64 9, .int .i64 (a : Int)]] w fun e w' => (specP (resP hand ma mb) [s0, s1, s2, s3, s4, s5, s6, s7] [g0, g1, g2, g3, g4, g5, g6, g7] [t0, t1, t2, t3] 9 a ks lo = none ∧ Gives N wb g hand at_ w0 e w') ∨ ∃ ks' lo', specP (resP hand ma mb) [s0, s1, s2, s3, s4, s5, s6, s7] [g0, g1, g2, g3, g4, g5, g6, g7] [t0, t1, t2, t3] 9 a ks lo = some (ks', lo') ∧ e = .returned (.tuple #[]) ∧ WkAt N cb wb g hand at_ iv sv w0 w' ks' lo' := by
 have HNS := Aside0.mk (Nat.le_trans hM h.hold.size)
 have HBX := Aside0.mk (below_alloc (Below.refl w.heap.size w) (.cells #[.int .i64 9, .int .i64 (a : Int)] 42))
 have HW := Aside0.mk (h.step hM HBX.out)
 have HX := Aside0.mk (heap_alloc_new w (.cells #[.int .i64 9, .int .i64 (a : Int)] 42))
 clear h HBX
 go_enter Try.func43, Try.ntmps43
 go_upto_region 1 with (fail)
 generalize w.alloc (.cells #[.int .i64 9, .int .i64 (a : Int)] 42) = w1 at HW HX ⊢
 generalize w.heap.size = xb at HX HNS ⊢
 have hx0 : _ = some (Value.int .i64 9) := blk_cell HX.out 0
 have hx1 : _ = some (Value.int .i64 (a : Int)) := blk_cell HX.out 1
 obtain ⟨kv, l0, l1, l2, l3, l4, l5, l6, l7, hlo, hblk, hstk⟩ := HW.out.blk
 subst hlo
 have HE := Aside0.mk hblk
 have HK := Aside0.mk hstk
 have he0 : _ = some (Value.pointer (some ⟨cb, 0, none⟩)) := blk_cell hblk 0
 have he1 : _ = some (Value.int .i64 hand) := blk_cell hblk 1
 have he5 : _ = some kv := blk_cell hblk 5
 have HC := Aside0.mk (HW.out.hold.blk hc (.inl hcb) hne hng)
 clear hblk hstk hc
 have HS := Aside0.mk (show specP (resP hand ma mb) [s0, s1, s2, s3, s4, s5, s6, s7] [g0, g1, g2, g3, g4, g5, g6, g7] [t0, t1, t2, t3] 9 a ks [l0, l1, l2, l3, l4, l5, l6, l7] = (match ks.getLast? with
  | none => none
  | some k => some (ks.dropLast, [l0, l1, l2, l3, l4, l5, l6, l7].set a k)) from rfl)
 clear he0 he1 he5
 have hxw : xb ≠ wb := blk_ne HX.out HE.out (by decide)
 have HWD : Aside0 (WkAt N cb wb wb hand at_ iv sv w1.drew w1.drew ks [l0, l1, l2, l3, l4, l5, l6, l7]) := ⟨⟨(HW.out.step hM (below_drew (Below.refl _ _))).blk, .refl _ _ _ _⟩⟩
 have HM1 := Aside0.mk (show N ≤ w1.drew.heap.size from Nat.le_trans hM HW.out.hold.size)
 have HHD := Aside0.mk (HW.out.step hM (below_drew (Below.refl _ _))).hold
 rcases hg : ks.getLast? with _ | t
 ·have hp : popP 0 ks = none := by unfold popP; rw [hg]
  rw [hg] at HS
  have HS2 := Aside0.mk (HS.out.trans rfl)
  go_wp2
  go_region_dies
  all_goals (go_at_call 41; (with_reducible refine (popBad N cb wb wb hand at_ iv sv w1.drew _ ks [l0, l1, l2, l3, l4, l5, l6, l7] 0 hN HM1.out (by omega) hp HWD.out).mono ?_); rintro e w2 ⟨rfl, hh⟩; exact ⟨rfl, .inl ⟨HS2.out, rfl, HHD.out.trans (hh.more g)⟩⟩)
 have hp : popP 0 ks = some ks.dropLast := by unfold popP; rw [hg]; rfl
 rw [hg] at HS
 have HS2 := Aside0.mk (HS.out.trans rfl)
 have q1 : 0 ≤ (a : Int) ∧ (a : Int) < 8 := by omega
 go_wp2
 have HXN := Aside0.mk (fun (W : World) (h : Holds N wb wb w1.drew W) => h.blk (show w1.drew.heap[xb]? = _ from HX.out) (.inr (by decide)) (fun e => hxw e) (fun e => hxw e))
 go_region_with ((go_at_call 41; (with_reducible refine (popGood N cb wb wb hand at_ iv sv w1.drew _ ks ks.dropLast [l0, l1, l2, l3, l4, l5, l6, l7] 0 hN HM1.out (by omega) hp t hg HWD.out).mono ?_); rintro e w2 ⟨rfl, hw⟩; obtain ⟨kv2, m0, m1, m2, m3, m4, m5, m6, m7, hm, hblk2, hstk2⟩ := hw.blk; injection hm with e0 hm; injection hm with e1 hm; injection hm with e2 hm; injection hm with e3 hm; injection hm with e4 hm; injection hm with e5 hm; injection hm with e6 hm; injection hm with e7 hm; subst e0 e1 e2 e3 e4 e5 e6 e7; have hlo2 := wk_cell hblk2 a ha; have hfr2 := blk_frozen hblk2 (6 + a); have hx2 : _ = some (Value.int .i64 (a : Int)) := blk_cell (HXN.out w2 hw.hold) 1; have HW2 := Aside0.mk hw; have HE2 := Aside0.mk hblk2; have HK2 := Aside0.mk hstk2; clear hw hblk2 hstk2 hm))
 all_goals go_wp2
 all_goals go_end0
 all_goals exact .inr ⟨_, _, HS2.out, rfl, (HW2.out.rebase HHD.out).setLo a ha t⟩
set_option maxHeartbeats 8000000 in
set_option maxRecDepth 100000 in
theorem spec10R (words s0 s1 s2 s3 s4 s5 s6 s7 g0 g1 g2 g3 g4 g5 g6 g7 t0 t1 t2 t3 ma mb sa na sb nb : Int) (both : Bool) (h0 h1 h2 h3 h4 : Value) (N cb wb g : Nat) (hand at_ : Int) (iv sv : Value) (w0 : World) (w : World) (ks lo : List Int) (a : Nat) (hN : wb < N) (hM : N ≤ w0.heap.size) (hl : ks.length ≤ 500) (hcb : cb < N) (hne : cb ≠ wb) (hng : cb ≠ g) (hc : w0.heap[cb]? = some (.cells #[.int .i64 words, .int .i64 s0, .int .i64 s1, .int .i64 s2, .int .i64 s3, .int .i64 s4, .int .i64 s5, .int .i64 s6, .int .i64 s7, .int .i64 g0, .int .i64 g1, .int .i64 g2, .int .i64 g3, .int .i64 g4, .int .i64 g5, .int .i64 g6, .int .i64 g7, .int .i64 t0, .int .i64 t1, .int .i64 t2, .int .i64 t3, .int .i64 ma, .int .i64 mb, .int .i64 sa, .int .i64 na, .int .i64 sb, .int .i64 nb, .bool both, h0, h1, h2, h3, h4] 31 (0, 0))) (ha : a < 8) (h : WkAt N cb wb g hand at_ iv sv w0 w ks lo) :
  Calls Try.prog 43 #[.pointer (some ⟨wb, 0, none⟩), .agg #[.int .i64 10, .int .i64 (a : Int)]] w fun e w' => (specP (resP hand ma mb) [s0, s1, s2, s3, s4, s5, s6, s7] [g0, g1, g2, g3, g4, g5, g6, g7] [t0, t1, t2, t3] 10 a ks lo = none ∧ Gives N wb g hand at_ w0 e w') ∨ ∃ ks' lo', specP (resP hand ma mb) [s0, s1, s2, s3, s4, s5, s6, s7] [g0, g1, g2, g3, g4, g5, g6, g7] [t0, t1, t2, t3] 10 a ks lo = some (ks', lo') ∧ e = .returned (.tuple #[]) ∧ WkAt N cb wb g hand at_ iv sv w0 w' ks' lo' := by
 have HNS := Aside0.mk (Nat.le_trans hM h.hold.size)
 have HBX := Aside0.mk (below_alloc (Below.refl w.heap.size w) (.cells #[.int .i64 10, .int .i64 (a : Int)] 42))
 have HW := Aside0.mk (h.step hM HBX.out)
 have HX := Aside0.mk (heap_alloc_new w (.cells #[.int .i64 10, .int .i64 (a : Int)] 42))
 clear h HBX
 go_enter Try.func43, Try.ntmps43
 go_upto_region 1 with (fail)
 generalize w.alloc (.cells #[.int .i64 10, .int .i64 (a : Int)] 42) = w1 at HW HX ⊢
 generalize w.heap.size = xb at HX HNS ⊢
 have hx0 : _ = some (Value.int .i64 10) := blk_cell HX.out 0
 have hx1 : _ = some (Value.int .i64 (a : Int)) := blk_cell HX.out 1
 obtain ⟨kv, l0, l1, l2, l3, l4, l5, l6, l7, hlo, hblk, hstk⟩ := HW.out.blk
 subst hlo
 have HE := Aside0.mk hblk
 have HK := Aside0.mk hstk
 have he0 : _ = some (Value.pointer (some ⟨cb, 0, none⟩)) := blk_cell hblk 0
 have he1 : _ = some (Value.int .i64 hand) := blk_cell hblk 1
 have he5 : _ = some kv := blk_cell hblk 5
 have HC := Aside0.mk (HW.out.hold.blk hc (.inl hcb) hne hng)
 clear hblk hstk hc
 have HS := Aside0.mk (show specP (resP hand ma mb) [s0, s1, s2, s3, s4, s5, s6, s7] [g0, g1, g2, g3, g4, g5, g6, g7] [t0, t1, t2, t3] 10 a ks [l0, l1, l2, l3, l4, l5, l6, l7] = (pushP ([s0, s1, s2, s3, s4, s5, s6, s7].getD a 0) ks).map (fun s2 => (s2, [l0, l1, l2, l3, l4, l5, l6, l7])) from rfl)
 have hca : w1.cell? ⟨cb, 1 + a, none⟩ = some (.int .i64 ([s0, s1, s2, s3, s4, s5, s6, s7].getD a 0)) := kd_cell1 HC.out a ha
 have q1 : 0 ≤ (a : Int) ∧ (a : Int) < 8 := by omega
 obtain ⟨v, hv⟩ : ∃ v, v = [s0, s1, s2, s3, s4, s5, s6, s7].getD a 0 := ⟨_, rfl⟩
 rw [← hv] at HS hca
 clear HE he1 he5 hv
 rcases hp : pushP v ks with _ | k1
 ·rw [hp] at HS
  have HS2 := HS
  go_wp2
  go_still_tail 11, (by kernel_rfl)
  change wpList _ _ _ _ _ w1.drew
  have n0_ := Aside0.mk (HW.out.step hM (below_drew (Below.refl _ _)))
  clear HW
  have HW := n0_
  clear n0_ he0 hx0 hx1 hca HX HC
  generalize w1.drew = wd at HW ⊢
  go_wp2_with (go_at_call 44; (with_reducible refine (pushBad N cb wb g hand at_ iv sv w0 _ ks [l0, l1, l2, l3, l4, l5, l6, l7] v hN hM (by omega) hp HW.out).mono ?_); rintro e w2 ⟨rfl, hh⟩; have HH := Aside0.mk hh; clear hh)
  exact ⟨rfl, .inl ⟨HS2.out, rfl, HH.out⟩⟩
 rw [hp] at HS
 have HS2 := HS
 go_wp2
 go_still_tail 11, (by kernel_rfl)
 change wpList _ _ _ _ _ w1.drew
 have n0_ := Aside0.mk (HW.out.step hM (below_drew (Below.refl _ _)))
 clear HW
 have HW := n0_
 clear n0_ he0 hx0 hx1 hca HX HC
 generalize w1.drew = wd at HW ⊢
 go_wp2_with (go_at_call 44; (with_reducible refine (pushGood N cb wb g hand at_ iv sv w0 _ ks k1 [l0, l1, l2, l3, l4, l5, l6, l7] v hN hM (by omega) hp HW.out).mono ?_); rintro e w2 ⟨rfl, hw⟩; have n0_ := Aside0.mk hw; clear HW hw; have HW := n0_; clear n0_)
 (first | go_end0 | refine bodyPost_ret (results_none rfl _ _ _) rfl ?_)
 exact .inr ⟨_, _, HS2.out, rfl, HW.out⟩
set_option maxHeartbeats 8000000 in
set_option maxRecDepth 100000 in
theorem spec11R (words s0 s1 s2 s3 s4 s5 s6 s7 g0 g1 g2 g3 g4 g5 g6 g7 t0 t1 t2 t3 ma mb sa na sb nb : Int) (both : Bool) (h0 h1 h2 h3 h4 : Value) (N cb wb g : Nat) (hand at_ : Int) (iv sv : Value) (w0 : World) (w : World) (ks lo : List Int) (a : Nat) (hN : wb < N) (hM : N ≤ w0.heap.size) (hl : ks.length ≤ 500) (hcb : cb < N) (hne : cb ≠ wb) (hng : cb ≠ g) (hc : w0.heap[cb]? = some (.cells #[.int .i64 words, .int .i64 s0, .int .i64 s1, .int .i64 s2, .int .i64 s3, .int .i64 s4, .int .i64 s5, .int .i64 s6, .int .i64 s7, .int .i64 g0, .int .i64 g1, .int .i64 g2, .int .i64 g3, .int .i64 g4, .int .i64 g5, .int .i64 g6, .int .i64 g7, .int .i64 t0, .int .i64 t1, .int .i64 t2, .int .i64 t3, .int .i64 ma, .int .i64 mb, .int .i64 sa, .int .i64 na, .int .i64 sb, .int .i64 nb, .bool both, h0, h1, h2, h3, h4] 31 (0, 0))) (ha : a < 8) (h : WkAt N cb wb g hand at_ iv sv w0 w ks lo) :
  Calls Try.prog 43 #[.pointer (some ⟨wb, 0, none⟩), .agg #[.int .i64 11, .int .i64 (a : Int)]] w fun e w' => (specP (resP hand ma mb) [s0, s1, s2, s3, s4, s5, s6, s7] [g0, g1, g2, g3, g4, g5, g6, g7] [t0, t1, t2, t3] 11 a ks lo = none ∧ Gives N wb g hand at_ w0 e w') ∨ ∃ ks' lo', specP (resP hand ma mb) [s0, s1, s2, s3, s4, s5, s6, s7] [g0, g1, g2, g3, g4, g5, g6, g7] [t0, t1, t2, t3] 11 a ks lo = some (ks', lo') ∧ e = .returned (.tuple #[]) ∧ WkAt N cb wb g hand at_ iv sv w0 w' ks' lo' := by
 have HNS := Aside0.mk (Nat.le_trans hM h.hold.size)
 have HBX := Aside0.mk (below_alloc (Below.refl w.heap.size w) (.cells #[.int .i64 11, .int .i64 (a : Int)] 42))
 have HW := Aside0.mk (h.step hM HBX.out)
 have HX := Aside0.mk (heap_alloc_new w (.cells #[.int .i64 11, .int .i64 (a : Int)] 42))
 clear h HBX
 go_enter Try.func43, Try.ntmps43
 go_upto_region 1 with (fail)
 generalize w.alloc (.cells #[.int .i64 11, .int .i64 (a : Int)] 42) = w1 at HW HX ⊢
 generalize w.heap.size = xb at HX HNS ⊢
 have hx0 : _ = some (Value.int .i64 11) := blk_cell HX.out 0
 have hx1 : _ = some (Value.int .i64 (a : Int)) := blk_cell HX.out 1
 obtain ⟨kv, l0, l1, l2, l3, l4, l5, l6, l7, hlo, hblk, hstk⟩ := HW.out.blk
 subst hlo
 have HE := Aside0.mk hblk
 have HK := Aside0.mk hstk
 have he0 : _ = some (Value.pointer (some ⟨cb, 0, none⟩)) := blk_cell hblk 0
 have he1 : _ = some (Value.int .i64 hand) := blk_cell hblk 1
 have he5 : _ = some kv := blk_cell hblk 5
 have HC := Aside0.mk (HW.out.hold.blk hc (.inl hcb) hne hng)
 clear hblk hstk hc
 have HS := Aside0.mk (show specP (resP hand ma mb) [s0, s1, s2, s3, s4, s5, s6, s7] [g0, g1, g2, g3, g4, g5, g6, g7] [t0, t1, t2, t3] 11 a ks [l0, l1, l2, l3, l4, l5, l6, l7] = (popP ([s0, s1, s2, s3, s4, s5, s6, s7].getD a 0) ks).map (fun s2 => (s2, [l0, l1, l2, l3, l4, l5, l6, l7])) from rfl)
 have hca : w1.cell? ⟨cb, 1 + a, none⟩ = some (.int .i64 ([s0, s1, s2, s3, s4, s5, s6, s7].getD a 0)) := kd_cell1 HC.out a ha
 have q1 : 0 ≤ (a : Int) ∧ (a : Int) < 8 := by omega
 obtain ⟨v, hv⟩ : ∃ v, v = [s0, s1, s2, s3, s4, s5, s6, s7].getD a 0 := ⟨_, rfl⟩
 rw [← hv] at HS hca
 clear HE he1 he5 hv
 rcases hp : popP v ks with _ | k1
 ·rw [hp] at HS
  have HS2 := HS
  go_wp2
  go_still_tail 11, (by kernel_rfl)
  change wpList _ _ _ _ _ w1.drew
  have n0_ := Aside0.mk (HW.out.step hM (below_drew (Below.refl _ _)))
  clear HW
  have HW := n0_
  clear n0_ he0 hx0 hx1 hca HX HC
  generalize w1.drew = wd at HW ⊢
  go_wp2_with (go_at_call 41; (with_reducible refine (popBad N cb wb g hand at_ iv sv w0 _ ks [l0, l1, l2, l3, l4, l5, l6, l7] v hN hM (by omega) hp HW.out).mono ?_); rintro e w2 ⟨rfl, hh⟩; have HH := Aside0.mk hh; clear hh)
  exact ⟨rfl, .inl ⟨HS2.out, rfl, HH.out⟩⟩
 rw [hp] at HS
 have HS2 := HS
 rcases hg : ks.getLast? with _ | t
 ·unfold popP at hp
  rw [hg] at hp
  cases hp
 go_wp2
 go_still_tail 11, (by kernel_rfl)
 change wpList _ _ _ _ _ w1.drew
 have n0_ := Aside0.mk (HW.out.step hM (below_drew (Below.refl _ _)))
 clear HW
 have HW := n0_
 clear n0_ he0 hx0 hx1 hca HX HC
 generalize w1.drew = wd at HW ⊢
 go_wp2_with (go_at_call 41; (with_reducible refine (popGood N cb wb g hand at_ iv sv w0 _ ks k1 [l0, l1, l2, l3, l4, l5, l6, l7] v hN hM (by omega) hp t hg HW.out).mono ?_); rintro e w2 ⟨rfl, hw⟩; have n0_ := Aside0.mk hw; clear HW hw; have HW := n0_; clear n0_)
 (first | go_end0 | refine bodyPost_ret (results_none rfl _ _ _) rfl ?_)
 exact .inr ⟨_, _, HS2.out, rfl, HW.out⟩
set_option maxHeartbeats 8000000 in
set_option maxRecDepth 100000 in
theorem spec12R (words s0 s1 s2 s3 s4 s5 s6 s7 g0 g1 g2 g3 g4 g5 g6 g7 t0 t1 t2 t3 ma mb sa na sb nb : Int) (both : Bool) (h0 h1 h2 h3 h4 : Value) (N cb wb g : Nat) (hand at_ : Int) (iv sv : Value) (w0 : World) (w : World) (ks lo : List Int) (a : Nat) (hN : wb < N) (hM : N ≤ w0.heap.size) (hl : ks.length ≤ 500) (hcb : cb < N) (hne : cb ≠ wb) (hng : cb ≠ g) (hc : w0.heap[cb]? = some (.cells #[.int .i64 words, .int .i64 s0, .int .i64 s1, .int .i64 s2, .int .i64 s3, .int .i64 s4, .int .i64 s5, .int .i64 s6, .int .i64 s7, .int .i64 g0, .int .i64 g1, .int .i64 g2, .int .i64 g3, .int .i64 g4, .int .i64 g5, .int .i64 g6, .int .i64 g7, .int .i64 t0, .int .i64 t1, .int .i64 t2, .int .i64 t3, .int .i64 ma, .int .i64 mb, .int .i64 sa, .int .i64 na, .int .i64 sb, .int .i64 nb, .bool both, h0, h1, h2, h3, h4] 31 (0, 0))) (ha : a < 8) (h : WkAt N cb wb g hand at_ iv sv w0 w ks lo) :
  Calls Try.prog 43 #[.pointer (some ⟨wb, 0, none⟩), .agg #[.int .i64 12, .int .i64 (a : Int)]] w fun e w' => (specP (resP hand ma mb) [s0, s1, s2, s3, s4, s5, s6, s7] [g0, g1, g2, g3, g4, g5, g6, g7] [t0, t1, t2, t3] 12 a ks lo = none ∧ Gives N wb g hand at_ w0 e w') ∨ ∃ ks' lo', specP (resP hand ma mb) [s0, s1, s2, s3, s4, s5, s6, s7] [g0, g1, g2, g3, g4, g5, g6, g7] [t0, t1, t2, t3] 12 a ks lo = some (ks', lo') ∧ e = .returned (.tuple #[]) ∧ WkAt N cb wb g hand at_ iv sv w0 w' ks' lo' := by
 have HNS := Aside0.mk (Nat.le_trans hM h.hold.size)
 have HBX := Aside0.mk (below_alloc (Below.refl w.heap.size w) (.cells #[.int .i64 12, .int .i64 (a : Int)] 42))
 have HW := Aside0.mk (h.step hM HBX.out)
 have HX := Aside0.mk (heap_alloc_new w (.cells #[.int .i64 12, .int .i64 (a : Int)] 42))
 clear h HBX
 go_enter Try.func43, Try.ntmps43
 go_upto_region 1 with (fail)
 generalize w.alloc (.cells #[.int .i64 12, .int .i64 (a : Int)] 42) = w1 at HW HX ⊢
 generalize w.heap.size = xb at HX HNS ⊢
 have hx0 : _ = some (Value.int .i64 12) := blk_cell HX.out 0
 have hx1 : _ = some (Value.int .i64 (a : Int)) := blk_cell HX.out 1
 obtain ⟨kv, l0, l1, l2, l3, l4, l5, l6, l7, hlo, hblk, hstk⟩ := HW.out.blk
 subst hlo
 have HE := Aside0.mk hblk
 have HK := Aside0.mk hstk
 have he0 : _ = some (Value.pointer (some ⟨cb, 0, none⟩)) := blk_cell hblk 0
 have he1 : _ = some (Value.int .i64 hand) := blk_cell hblk 1
 have he5 : _ = some kv := blk_cell hblk 5
 have HC := Aside0.mk (HW.out.hold.blk hc (.inl hcb) hne hng)
 clear hblk hstk hc
 have HS := Aside0.mk (show specP (resP hand ma mb) [s0, s1, s2, s3, s4, s5, s6, s7] [g0, g1, g2, g3, g4, g5, g6, g7] [t0, t1, t2, t3] 12 a ks [l0, l1, l2, l3, l4, l5, l6, l7] = (pushP ([g0, g1, g2, g3, g4, g5, g6, g7].getD a 0) ks).map (fun s2 => (s2, [l0, l1, l2, l3, l4, l5, l6, l7])) from rfl)
 have hca : w1.cell? ⟨cb, 9 + a, none⟩ = some (.int .i64 ([g0, g1, g2, g3, g4, g5, g6, g7].getD a 0)) := kd_cell2 HC.out a ha
 have q1 : 0 ≤ (a : Int) ∧ (a : Int) < 8 := by omega
 obtain ⟨v, hv⟩ : ∃ v, v = [g0, g1, g2, g3, g4, g5, g6, g7].getD a 0 := ⟨_, rfl⟩
 rw [← hv] at HS hca
 clear HE he1 he5 hv
 rcases hp : pushP v ks with _ | k1
 ·rw [hp] at HS
  have HS2 := HS
  go_wp2
  go_still_tail 11, (by kernel_rfl)
  change wpList _ _ _ _ _ w1.drew
  have n0_ := Aside0.mk (HW.out.step hM (below_drew (Below.refl _ _)))
  clear HW
  have HW := n0_
  clear n0_ he0 hx0 hx1 hca HX HC
  generalize w1.drew = wd at HW ⊢
  go_wp2_with (go_at_call 44; (with_reducible refine (pushBad N cb wb g hand at_ iv sv w0 _ ks [l0, l1, l2, l3, l4, l5, l6, l7] v hN hM (by omega) hp HW.out).mono ?_); rintro e w2 ⟨rfl, hh⟩; have HH := Aside0.mk hh; clear hh)
  exact ⟨rfl, .inl ⟨HS2.out, rfl, HH.out⟩⟩
 rw [hp] at HS
 have HS2 := HS
 go_wp2
 go_still_tail 11, (by kernel_rfl)
 change wpList _ _ _ _ _ w1.drew
 have n0_ := Aside0.mk (HW.out.step hM (below_drew (Below.refl _ _)))
 clear HW
 have HW := n0_
 clear n0_ he0 hx0 hx1 hca HX HC
 generalize w1.drew = wd at HW ⊢
 go_wp2_with (go_at_call 44; (with_reducible refine (pushGood N cb wb g hand at_ iv sv w0 _ ks k1 [l0, l1, l2, l3, l4, l5, l6, l7] v hN hM (by omega) hp HW.out).mono ?_); rintro e w2 ⟨rfl, hw⟩; have n0_ := Aside0.mk hw; clear HW hw; have HW := n0_; clear n0_)
 (first | go_end0 | refine bodyPost_ret (results_none rfl _ _ _) rfl ?_)
 exact .inr ⟨_, _, HS2.out, rfl, HW.out⟩
set_option maxHeartbeats 8000000 in
set_option maxRecDepth 100000 in
theorem spec13R (words s0 s1 s2 s3 s4 s5 s6 s7 g0 g1 g2 g3 g4 g5 g6 g7 t0 t1 t2 t3 ma mb sa na sb nb : Int) (both : Bool) (h0 h1 h2 h3 h4 : Value) (N cb wb g : Nat) (hand at_ : Int) (iv sv : Value) (w0 : World) (w : World) (ks lo : List Int) (a : Nat) (hN : wb < N) (hM : N ≤ w0.heap.size) (hl : ks.length ≤ 500) (hcb : cb < N) (hne : cb ≠ wb) (hng : cb ≠ g) (hc : w0.heap[cb]? = some (.cells #[.int .i64 words, .int .i64 s0, .int .i64 s1, .int .i64 s2, .int .i64 s3, .int .i64 s4, .int .i64 s5, .int .i64 s6, .int .i64 s7, .int .i64 g0, .int .i64 g1, .int .i64 g2, .int .i64 g3, .int .i64 g4, .int .i64 g5, .int .i64 g6, .int .i64 g7, .int .i64 t0, .int .i64 t1, .int .i64 t2, .int .i64 t3, .int .i64 ma, .int .i64 mb, .int .i64 sa, .int .i64 na, .int .i64 sb, .int .i64 nb, .bool both, h0, h1, h2, h3, h4] 31 (0, 0))) (ha : a < 8) (h : WkAt N cb wb g hand at_ iv sv w0 w ks lo) :
  Calls Try.prog 43 #[.pointer (some ⟨wb, 0, none⟩), .agg #[.int .i64 13, .int .i64 (a : Int)]] w fun e w' => (specP (resP hand ma mb) [s0, s1, s2, s3, s4, s5, s6, s7] [g0, g1, g2, g3, g4, g5, g6, g7] [t0, t1, t2, t3] 13 a ks lo = none ∧ Gives N wb g hand at_ w0 e w') ∨ ∃ ks' lo', specP (resP hand ma mb) [s0, s1, s2, s3, s4, s5, s6, s7] [g0, g1, g2, g3, g4, g5, g6, g7] [t0, t1, t2, t3] 13 a ks lo = some (ks', lo') ∧ e = .returned (.tuple #[]) ∧ WkAt N cb wb g hand at_ iv sv w0 w' ks' lo' := by
 have HNS := Aside0.mk (Nat.le_trans hM h.hold.size)
 have HBX := Aside0.mk (below_alloc (Below.refl w.heap.size w) (.cells #[.int .i64 13, .int .i64 (a : Int)] 42))
 have HW := Aside0.mk (h.step hM HBX.out)
 have HX := Aside0.mk (heap_alloc_new w (.cells #[.int .i64 13, .int .i64 (a : Int)] 42))
 clear h HBX
 go_enter Try.func43, Try.ntmps43
 go_upto_region 1 with (fail)
 generalize w.alloc (.cells #[.int .i64 13, .int .i64 (a : Int)] 42) = w1 at HW HX ⊢
 generalize w.heap.size = xb at HX HNS ⊢
 have hx0 : _ = some (Value.int .i64 13) := blk_cell HX.out 0
 have hx1 : _ = some (Value.int .i64 (a : Int)) := blk_cell HX.out 1
 obtain ⟨kv, l0, l1, l2, l3, l4, l5, l6, l7, hlo, hblk, hstk⟩ := HW.out.blk
 subst hlo
 have HE := Aside0.mk hblk
 have HK := Aside0.mk hstk
 have he0 : _ = some (Value.pointer (some ⟨cb, 0, none⟩)) := blk_cell hblk 0
 have he1 : _ = some (Value.int .i64 hand) := blk_cell hblk 1
 have he5 : _ = some kv := blk_cell hblk 5
 have HC := Aside0.mk (HW.out.hold.blk hc (.inl hcb) hne hng)
 clear hblk hstk hc
 have HS := Aside0.mk (show specP (resP hand ma mb) [s0, s1, s2, s3, s4, s5, s6, s7] [g0, g1, g2, g3, g4, g5, g6, g7] [t0, t1, t2, t3] 13 a ks [l0, l1, l2, l3, l4, l5, l6, l7] = (popP ([g0, g1, g2, g3, g4, g5, g6, g7].getD a 0) ks).map (fun s2 => (s2, [l0, l1, l2, l3, l4, l5, l6, l7])) from rfl)
 have hca : w1.cell? ⟨cb, 9 + a, none⟩ = some (.int .i64 ([g0, g1, g2, g3, g4, g5, g6, g7].getD a 0)) := kd_cell2 HC.out a ha
 have q1 : 0 ≤ (a : Int) ∧ (a : Int) < 8 := by omega
 obtain ⟨v, hv⟩ : ∃ v, v = [g0, g1, g2, g3, g4, g5, g6, g7].getD a 0 := ⟨_, rfl⟩
 rw [← hv] at HS hca
 clear HE he1 he5 hv
 rcases hp : popP v ks with _ | k1
 ·rw [hp] at HS
  have HS2 := HS
  go_wp2
  go_still_tail 11, (by kernel_rfl)
  change wpList _ _ _ _ _ w1.drew
  have n0_ := Aside0.mk (HW.out.step hM (below_drew (Below.refl _ _)))
  clear HW
  have HW := n0_
  clear n0_ he0 hx0 hx1 hca HX HC
  generalize w1.drew = wd at HW ⊢
  go_wp2_with (go_at_call 41; (with_reducible refine (popBad N cb wb g hand at_ iv sv w0 _ ks [l0, l1, l2, l3, l4, l5, l6, l7] v hN hM (by omega) hp HW.out).mono ?_); rintro e w2 ⟨rfl, hh⟩; have HH := Aside0.mk hh; clear hh)
  exact ⟨rfl, .inl ⟨HS2.out, rfl, HH.out⟩⟩
 rw [hp] at HS
 have HS2 := HS
 rcases hg : ks.getLast? with _ | t
 ·unfold popP at hp
  rw [hg] at hp
  cases hp
 go_wp2
 go_still_tail 11, (by kernel_rfl)
 change wpList _ _ _ _ _ w1.drew
 have n0_ := Aside0.mk (HW.out.step hM (below_drew (Below.refl _ _)))
 clear HW
 have HW := n0_
 clear n0_ he0 hx0 hx1 hca HX HC
 generalize w1.drew = wd at HW ⊢
 go_wp2_with (go_at_call 41; (with_reducible refine (popGood N cb wb g hand at_ iv sv w0 _ ks k1 [l0, l1, l2, l3, l4, l5, l6, l7] v hN hM (by omega) hp t hg HW.out).mono ?_); rintro e w2 ⟨rfl, hw⟩; have n0_ := Aside0.mk hw; clear HW hw; have HW := n0_; clear n0_)
 (first | go_end0 | refine bodyPost_ret (results_none rfl _ _ _) rfl ?_)
 exact .inr ⟨_, _, HS2.out, rfl, HW.out⟩
set_option maxHeartbeats 8000000 in
set_option maxRecDepth 100000 in
theorem spec14R (words s0 s1 s2 s3 s4 s5 s6 s7 g0 g1 g2 g3 g4 g5 g6 g7 t0 t1 t2 t3 ma mb sa na sb nb : Int) (both : Bool) (h0 h1 h2 h3 h4 : Value) (N cb wb g : Nat) (hand at_ : Int) (iv sv : Value) (w0 : World) (w : World) (ks lo : List Int) (a : Nat) (hN : wb < N) (hM : N ≤ w0.heap.size) (hl : ks.length ≤ 500) (hcb : cb < N) (hne : cb ≠ wb) (hng : cb ≠ g) (hc : w0.heap[cb]? = some (.cells #[.int .i64 words, .int .i64 s0, .int .i64 s1, .int .i64 s2, .int .i64 s3, .int .i64 s4, .int .i64 s5, .int .i64 s6, .int .i64 s7, .int .i64 g0, .int .i64 g1, .int .i64 g2, .int .i64 g3, .int .i64 g4, .int .i64 g5, .int .i64 g6, .int .i64 g7, .int .i64 t0, .int .i64 t1, .int .i64 t2, .int .i64 t3, .int .i64 ma, .int .i64 mb, .int .i64 sa, .int .i64 na, .int .i64 sb, .int .i64 nb, .bool both, h0, h1, h2, h3, h4] 31 (0, 0))) (ha : a < 4) (h : WkAt N cb wb g hand at_ iv sv w0 w ks lo) :
  Calls Try.prog 43 #[.pointer (some ⟨wb, 0, none⟩), .agg #[.int .i64 14, .int .i64 (a : Int)]] w fun e w' => (specP (resP hand ma mb) [s0, s1, s2, s3, s4, s5, s6, s7] [g0, g1, g2, g3, g4, g5, g6, g7] [t0, t1, t2, t3] 14 a ks lo = none ∧ Gives N wb g hand at_ w0 e w') ∨ ∃ ks' lo', specP (resP hand ma mb) [s0, s1, s2, s3, s4, s5, s6, s7] [g0, g1, g2, g3, g4, g5, g6, g7] [t0, t1, t2, t3] 14 a ks lo = some (ks', lo') ∧ e = .returned (.tuple #[]) ∧ WkAt N cb wb g hand at_ iv sv w0 w' ks' lo' := by
 have HNS := Aside0.mk (Nat.le_trans hM h.hold.size)
 have HBX := Aside0.mk (below_alloc (Below.refl w.heap.size w) (.cells #[.int .i64 14, .int .i64 (a : Int)] 42))
 have HW := Aside0.mk (h.step hM HBX.out)
 have HX := Aside0.mk (heap_alloc_new w (.cells #[.int .i64 14, .int .i64 (a : Int)] 42))
 clear h HBX
 go_enter Try.func43, Try.ntmps43
 go_upto_region 1 with (fail)
 generalize w.alloc (.cells #[.int .i64 14, .int .i64 (a : Int)] 42) = w1 at HW HX ⊢
 generalize w.heap.size = xb at HX HNS ⊢
 have hx0 : _ = some (Value.int .i64 14) := blk_cell HX.out 0
 have hx1 : _ = some (Value.int .i64 (a : Int)) := blk_cell HX.out 1
 obtain ⟨kv, l0, l1, l2, l3, l4, l5, l6, l7, hlo, hblk, hstk⟩ := HW.out.blk
 subst hlo
 have HE := Aside0.mk hblk
 have HK := Aside0.mk hstk
 have he0 : _ = some (Value.pointer (some ⟨cb, 0, none⟩)) := blk_cell hblk 0
 have he1 : _ = some (Value.int .i64 hand) := blk_cell hblk 1
 have he5 : _ = some kv := blk_cell hblk 5
 have HC := Aside0.mk (HW.out.hold.blk hc (.inl hcb) hne hng)
 clear hblk hstk hc
 have HS := Aside0.mk (show specP (resP hand ma mb) [s0, s1, s2, s3, s4, s5, s6, s7] [g0, g1, g2, g3, g4, g5, g6, g7] [t0, t1, t2, t3] 14 a ks [l0, l1, l2, l3, l4, l5, l6, l7] = (pushP ([t0, t1, t2, t3].getD a 0) ks).map (fun s2 => (s2, [l0, l1, l2, l3, l4, l5, l6, l7])) from rfl)
 have hca : w1.cell? ⟨cb, 17 + a, none⟩ = some (.int .i64 ([t0, t1, t2, t3].getD a 0)) := kd_cell3 HC.out a ha
 have q1 : 0 ≤ (a : Int) ∧ (a : Int) < 4 := by omega
 obtain ⟨v, hv⟩ : ∃ v, v = [t0, t1, t2, t3].getD a 0 := ⟨_, rfl⟩
 rw [← hv] at HS hca
 clear HE he1 he5 hv
 rcases hp : pushP v ks with _ | k1
 ·rw [hp] at HS
  have HS2 := HS
  go_wp2
  go_still_tail 11, (by kernel_rfl)
  change wpList _ _ _ _ _ w1.drew
  have n0_ := Aside0.mk (HW.out.step hM (below_drew (Below.refl _ _)))
  clear HW
  have HW := n0_
  clear n0_ he0 hx0 hx1 hca HX HC
  generalize w1.drew = wd at HW ⊢
  go_wp2_with (go_at_call 44; (with_reducible refine (pushBad N cb wb g hand at_ iv sv w0 _ ks [l0, l1, l2, l3, l4, l5, l6, l7] v hN hM (by omega) hp HW.out).mono ?_); rintro e w2 ⟨rfl, hh⟩; have HH := Aside0.mk hh; clear hh)
  exact ⟨rfl, .inl ⟨HS2.out, rfl, HH.out⟩⟩
 rw [hp] at HS
 have HS2 := HS
 go_wp2
 go_still_tail 11, (by kernel_rfl)
 change wpList _ _ _ _ _ w1.drew
 have n0_ := Aside0.mk (HW.out.step hM (below_drew (Below.refl _ _)))
 clear HW
 have HW := n0_
 clear n0_ he0 hx0 hx1 hca HX HC
 generalize w1.drew = wd at HW ⊢
 go_wp2_with (go_at_call 44; (with_reducible refine (pushGood N cb wb g hand at_ iv sv w0 _ ks k1 [l0, l1, l2, l3, l4, l5, l6, l7] v hN hM (by omega) hp HW.out).mono ?_); rintro e w2 ⟨rfl, hw⟩; have n0_ := Aside0.mk hw; clear HW hw; have HW := n0_; clear n0_)
 (first | go_end0 | refine bodyPost_ret (results_none rfl _ _ _) rfl ?_)
 exact .inr ⟨_, _, HS2.out, rfl, HW.out⟩
set_option maxHeartbeats 8000000 in
set_option maxRecDepth 100000 in
theorem spec15R (words s0 s1 s2 s3 s4 s5 s6 s7 g0 g1 g2 g3 g4 g5 g6 g7 t0 t1 t2 t3 ma mb sa na sb nb : Int) (both : Bool) (h0 h1 h2 h3 h4 : Value) (N cb wb g : Nat) (hand at_ : Int) (iv sv : Value) (w0 : World) (w : World) (ks lo : List Int) (a : Nat) (hN : wb < N) (hM : N ≤ w0.heap.size) (hl : ks.length ≤ 500) (hcb : cb < N) (hne : cb ≠ wb) (hng : cb ≠ g) (hc : w0.heap[cb]? = some (.cells #[.int .i64 words, .int .i64 s0, .int .i64 s1, .int .i64 s2, .int .i64 s3, .int .i64 s4, .int .i64 s5, .int .i64 s6, .int .i64 s7, .int .i64 g0, .int .i64 g1, .int .i64 g2, .int .i64 g3, .int .i64 g4, .int .i64 g5, .int .i64 g6, .int .i64 g7, .int .i64 t0, .int .i64 t1, .int .i64 t2, .int .i64 t3, .int .i64 ma, .int .i64 mb, .int .i64 sa, .int .i64 na, .int .i64 sb, .int .i64 nb, .bool both, h0, h1, h2, h3, h4] 31 (0, 0))) (ha : a < 4) (h : WkAt N cb wb g hand at_ iv sv w0 w ks lo) :
  Calls Try.prog 43 #[.pointer (some ⟨wb, 0, none⟩), .agg #[.int .i64 15, .int .i64 (a : Int)]] w fun e w' => (specP (resP hand ma mb) [s0, s1, s2, s3, s4, s5, s6, s7] [g0, g1, g2, g3, g4, g5, g6, g7] [t0, t1, t2, t3] 15 a ks lo = none ∧ Gives N wb g hand at_ w0 e w') ∨ ∃ ks' lo', specP (resP hand ma mb) [s0, s1, s2, s3, s4, s5, s6, s7] [g0, g1, g2, g3, g4, g5, g6, g7] [t0, t1, t2, t3] 15 a ks lo = some (ks', lo') ∧ e = .returned (.tuple #[]) ∧ WkAt N cb wb g hand at_ iv sv w0 w' ks' lo' := by
 have HNS := Aside0.mk (Nat.le_trans hM h.hold.size)
 have HBX := Aside0.mk (below_alloc (Below.refl w.heap.size w) (.cells #[.int .i64 15, .int .i64 (a : Int)] 42))
 have HW := Aside0.mk (h.step hM HBX.out)
 have HX := Aside0.mk (heap_alloc_new w (.cells #[.int .i64 15, .int .i64 (a : Int)] 42))
 clear h HBX
 go_enter Try.func43, Try.ntmps43
 go_upto_region 1 with (fail)
 generalize w.alloc (.cells #[.int .i64 15, .int .i64 (a : Int)] 42) = w1 at HW HX ⊢
 generalize w.heap.size = xb at HX HNS ⊢
 have hx0 : _ = some (Value.int .i64 15) := blk_cell HX.out 0
 have hx1 : _ = some (Value.int .i64 (a : Int)) := blk_cell HX.out 1
 obtain ⟨kv, l0, l1, l2, l3, l4, l5, l6, l7, hlo, hblk, hstk⟩ := HW.out.blk
 subst hlo
 have HE := Aside0.mk hblk
 have HK := Aside0.mk hstk
 have he0 : _ = some (Value.pointer (some ⟨cb, 0, none⟩)) := blk_cell hblk 0
 have he1 : _ = some (Value.int .i64 hand) := blk_cell hblk 1
 have he5 : _ = some kv := blk_cell hblk 5
 have HC := Aside0.mk (HW.out.hold.blk hc (.inl hcb) hne hng)
 clear hblk hstk hc
 have HS := Aside0.mk (show specP (resP hand ma mb) [s0, s1, s2, s3, s4, s5, s6, s7] [g0, g1, g2, g3, g4, g5, g6, g7] [t0, t1, t2, t3] 15 a ks [l0, l1, l2, l3, l4, l5, l6, l7] = (popP ([t0, t1, t2, t3].getD a 0) ks).map (fun s2 => (s2, [l0, l1, l2, l3, l4, l5, l6, l7])) from rfl)
 have hca : w1.cell? ⟨cb, 17 + a, none⟩ = some (.int .i64 ([t0, t1, t2, t3].getD a 0)) := kd_cell3 HC.out a ha
 have q1 : 0 ≤ (a : Int) ∧ (a : Int) < 4 := by omega
 obtain ⟨v, hv⟩ : ∃ v, v = [t0, t1, t2, t3].getD a 0 := ⟨_, rfl⟩
 rw [← hv] at HS hca
 clear HE he1 he5 hv
 rcases hp : popP v ks with _ | k1
 ·rw [hp] at HS
  have HS2 := HS
  go_wp2
  go_still_tail 11, (by kernel_rfl)
  change wpList _ _ _ _ _ w1.drew
  have n0_ := Aside0.mk (HW.out.step hM (below_drew (Below.refl _ _)))
  clear HW
  have HW := n0_
  clear n0_ he0 hx0 hx1 hca HX HC
  generalize w1.drew = wd at HW ⊢
  go_wp2_with (go_at_call 41; (with_reducible refine (popBad N cb wb g hand at_ iv sv w0 _ ks [l0, l1, l2, l3, l4, l5, l6, l7] v hN hM (by omega) hp HW.out).mono ?_); rintro e w2 ⟨rfl, hh⟩; have HH := Aside0.mk hh; clear hh)
  exact ⟨rfl, .inl ⟨HS2.out, rfl, HH.out⟩⟩
 rw [hp] at HS
 have HS2 := HS
 rcases hg : ks.getLast? with _ | t
 ·unfold popP at hp
  rw [hg] at hp
  cases hp
 go_wp2
 go_still_tail 11, (by kernel_rfl)
 change wpList _ _ _ _ _ w1.drew
 have n0_ := Aside0.mk (HW.out.step hM (below_drew (Below.refl _ _)))
 clear HW
 have HW := n0_
 clear n0_ he0 hx0 hx1 hca HX HC
 generalize w1.drew = wd at HW ⊢
 go_wp2_with (go_at_call 41; (with_reducible refine (popGood N cb wb g hand at_ iv sv w0 _ ks k1 [l0, l1, l2, l3, l4, l5, l6, l7] v hN hM (by omega) hp t hg HW.out).mono ?_); rintro e w2 ⟨rfl, hw⟩; have n0_ := Aside0.mk hw; clear HW hw; have HW := n0_; clear n0_)
 (first | go_end0 | refine bodyPost_ret (results_none rfl _ _ _) rfl ?_)
 exact .inr ⟨_, _, HS2.out, rfl, HW.out⟩
theorem specialR (words s0 s1 s2 s3 s4 s5 s6 s7 g0 g1 g2 g3 g4 g5 g6 g7 t0 t1 t2 t3 ma mb sa na sb nb : Int) (both : Bool) (h0 h1 h2 h3 h4 : Value) (N cb wb g : Nat) (hand at_ : Int) (iv sv : Value) (w0 : World) (w : World) (ks lo : List Int) (op a : Nat) (hN : wb < N) (hM : N ≤ w0.heap.size) (hl : ks.length ≤ 500) (hcb : cb < N) (hne : cb ≠ wb) (hng : cb ≠ g) (hc : w0.heap[cb]? = some (.cells #[.int .i64 words, .int .i64 s0, .int .i64 s1, .int .i64 s2, .int .i64 s3, .int .i64 s4, .int .i64 s5, .int .i64 s6, .int .i64 s7, .int .i64 g0, .int .i64 g1, .int .i64 g2, .int .i64 g3, .int .i64 g4, .int .i64 g5, .int .i64 g6, .int .i64 g7, .int .i64 t0, .int .i64 t1, .int .i64 t2, .int .i64 t3, .int .i64 ma, .int .i64 mb, .int .i64 sa, .int .i64 na, .int .i64 sb, .int .i64 nb, .bool both, h0, h1, h2, h3, h4] 31 (0, 0))) (hop : op = 0 ∨ (4 ≤ op ∧ op ≤ 15)) (h7 : op = 7 → a < 32) (h8 : op = 8 ∨ op = 9 → a < 8) (h10 : 10 ≤ op → op ≤ 13 → a < 8) (h14 : 14 ≤ op → a < 4) (h : WkAt N cb wb g hand at_ iv sv w0 w ks lo) :
  Calls Try.prog 43 #[.pointer (some ⟨wb, 0, none⟩), .agg #[.int .i64 (op : Int), .int .i64 (a : Int)]] w fun e w' => (specP (resP hand ma mb) [s0, s1, s2, s3, s4, s5, s6, s7] [g0, g1, g2, g3, g4, g5, g6, g7] [t0, t1, t2, t3] op a ks lo = none ∧ Gives N wb g hand at_ w0 e w') ∨ ∃ ks' lo', specP (resP hand ma mb) [s0, s1, s2, s3, s4, s5, s6, s7] [g0, g1, g2, g3, g4, g5, g6, g7] [t0, t1, t2, t3] op a ks lo = some (ks', lo') ∧ e = .returned (.tuple #[]) ∧ WkAt N cb wb g hand at_ iv sv w0 w' ks' lo' := by
 have : op = 0 ∨ op = 4 ∨ op = 5 ∨ op = 6 ∨ op = 7 ∨ op = 8 ∨ op = 9 ∨ op = 10 ∨ op = 11 ∨ op = 12 ∨ op = 13 ∨ op = 14 ∨ op = 15 := by omega
 rcases this with rfl | rfl | rfl | rfl | rfl | rfl | rfl | rfl | rfl | rfl | rfl | rfl | rfl
 ·exact spec0R words s0 s1 s2 s3 s4 s5 s6 s7 g0 g1 g2 g3 g4 g5 g6 g7 t0 t1 t2 t3 ma mb sa na sb nb both h0 h1 h2 h3 h4 N cb wb g hand at_ iv sv w0 w ks lo a hN hM hl hcb hne hng hc h
 ·exact spec4R words s0 s1 s2 s3 s4 s5 s6 s7 g0 g1 g2 g3 g4 g5 g6 g7 t0 t1 t2 t3 ma mb sa na sb nb both h0 h1 h2 h3 h4 N cb wb g hand at_ iv sv w0 w ks lo a hN hM hl hcb hne hng hc h
 ·exact spec5R words s0 s1 s2 s3 s4 s5 s6 s7 g0 g1 g2 g3 g4 g5 g6 g7 t0 t1 t2 t3 ma mb sa na sb nb both h0 h1 h2 h3 h4 N cb wb g hand at_ iv sv w0 w ks lo a hN hM hl hcb hne hng hc h
 ·exact spec6R words s0 s1 s2 s3 s4 s5 s6 s7 g0 g1 g2 g3 g4 g5 g6 g7 t0 t1 t2 t3 ma mb sa na sb nb both h0 h1 h2 h3 h4 N cb wb g hand at_ iv sv w0 w ks lo a hN hM hl hcb hne hng hc h
 ·exact spec7R words s0 s1 s2 s3 s4 s5 s6 s7 g0 g1 g2 g3 g4 g5 g6 g7 t0 t1 t2 t3 ma mb sa na sb nb both h0 h1 h2 h3 h4 N cb wb g hand at_ iv sv w0 w ks lo a hN hM hl hcb hne hng hc (h7 rfl) h
 ·exact spec8R words s0 s1 s2 s3 s4 s5 s6 s7 g0 g1 g2 g3 g4 g5 g6 g7 t0 t1 t2 t3 ma mb sa na sb nb both h0 h1 h2 h3 h4 N cb wb g hand at_ iv sv w0 w ks lo a hN hM hl hcb hne hng hc (h8 (.inl rfl)) h
 ·exact spec9R words s0 s1 s2 s3 s4 s5 s6 s7 g0 g1 g2 g3 g4 g5 g6 g7 t0 t1 t2 t3 ma mb sa na sb nb both h0 h1 h2 h3 h4 N cb wb g hand at_ iv sv w0 w ks lo a hN hM hl hcb hne hng hc (h8 (.inr rfl)) h
 ·exact spec10R words s0 s1 s2 s3 s4 s5 s6 s7 g0 g1 g2 g3 g4 g5 g6 g7 t0 t1 t2 t3 ma mb sa na sb nb both h0 h1 h2 h3 h4 N cb wb g hand at_ iv sv w0 w ks lo a hN hM hl hcb hne hng hc (h10 (by decide) (by decide)) h
 ·exact spec11R words s0 s1 s2 s3 s4 s5 s6 s7 g0 g1 g2 g3 g4 g5 g6 g7 t0 t1 t2 t3 ma mb sa na sb nb both h0 h1 h2 h3 h4 N cb wb g hand at_ iv sv w0 w ks lo a hN hM hl hcb hne hng hc (h10 (by decide) (by decide)) h
 ·exact spec12R words s0 s1 s2 s3 s4 s5 s6 s7 g0 g1 g2 g3 g4 g5 g6 g7 t0 t1 t2 t3 ma mb sa na sb nb both h0 h1 h2 h3 h4 N cb wb g hand at_ iv sv w0 w ks lo a hN hM hl hcb hne hng hc (h10 (by decide) (by decide)) h
 ·exact spec13R words s0 s1 s2 s3 s4 s5 s6 s7 g0 g1 g2 g3 g4 g5 g6 g7 t0 t1 t2 t3 ma mb sa na sb nb both h0 h1 h2 h3 h4 N cb wb g hand at_ iv sv w0 w ks lo a hN hM hl hcb hne hng hc (h10 (by decide) (by decide)) h
 ·exact spec14R words s0 s1 s2 s3 s4 s5 s6 s7 g0 g1 g2 g3 g4 g5 g6 g7 t0 t1 t2 t3 ma mb sa na sb nb both h0 h1 h2 h3 h4 N cb wb g hand at_ iv sv w0 w ks lo a hN hM hl hcb hne hng hc (h14 (by decide)) h
 exact spec15R words s0 s1 s2 s3 s4 s5 s6 s7 g0 g1 g2 g3 g4 g5 g6 g7 t0 t1 t2 t3 ma mb sa na sb nb both h0 h1 h2 h3 h4 N cb wb g hand at_ iv sv w0 w ks lo a hN hM hl hcb hne hng hc (h14 (by decide)) h
end Special
end Go.Proofs.Ytcpcpmojallcdaa.QLoomChecks
