/- LoomChecks: LookA Lens Reach. Conditions: as each theorem says. -/
import Derived.Deep.DeepCutAuto
import Derived.Deep.RegionHeld3
import Derived.Test.YtcpcpmojallcdaaLcQ
import Derived.Test.YtcpcpmojallcdaaLcGD
import Derived.Test.YtcpcpmojallcdaaLcGA
import Derived.Test.YtcpcpmojallcdaaLcGC
import Derived.Test.YtcpcpmojallcdaaLcGF
namespace Go.Proofs.Ytcpcpmojallcdaa.QLoomChecks
open Go.RowKit Go.Proofs.YtcpcpmojallcdaaW.PrintWords Go.Proofs.YtcpcpmojallcdaaW.PrintLast Go.Proofs.YtcpcpmojallcdaaW.PrintMore
set_option linter.unusedVariables false
set_option linter.unusedSimpArgs false
section Lens
theorem push_len {k : Int} {s s' : List Int} (h : pushP k s = some s') : s'.length ≤ 32 := by
 unfold pushP at h
 split at h
 ·cases h
 injection h with h
 rw [← h, List.length_append]
 simp only [List.length_singleton]
 omega
theorem pop_len {k : Int} {s s' : List Int} (h : popP k s = some s') : s'.length ≤ s.length := by
 unfold popP at h
 split at h
 ·cases h
 split at h
 ·cases h
 injection h with h
 rw [← h, List.length_dropLast]
 omega
theorem pops_len : ∀ (p : List Int) {s s' : List Int}, popsP p s = some s' → s'.length ≤ s.length
 | [], s, s', h => by
  injection h with h
  rw [h]
  exact Nat.le_refl _
 | k :: r, s, s', h => by
  unfold popsP at h
  rcases hp : popP k s with _ | s1
  ·rw [hp] at h; cases h
  rw [hp] at h
  exact Nat.le_trans (pops_len r h) (pop_len hp)
theorem pushes_len : ∀ (p : List Int) {s s' : List Int}, s.length ≤ 32 → pushesP p s = some s' → s'.length ≤ 32
 | [], s, s', hs, h => by
  injection h with h
  rw [← h]
  exact hs
 | k :: r, s, s', hs, h => by
  unfold pushesP at h
  rcases hp : pushP k s with _ | s1
  ·rw [hp] at h; cases h
  rw [hp] at h
  exact pushes_len r (push_len hp) h
theorem spec_len {res st ag ct : List Int} {op a : Nat} {s lo s' lo' : List Int} (hs : s.length ≤ 32) (h : specP res st ag ct op a s lo = some (s', lo')) : s'.length ≤ 32 ∧ lo'.length = lo.length := by
 have key : ∀ {o : Option (List Int)}, o.map (fun s2 => (s2, lo)) = some (s', lo') → o = some s' ∧ lo' = lo := by
  intro o ho
  cases o with
  | none => cases ho
  | some x =>
   injection ho with ho
   injection ho with h1 h2
   exact ⟨by rw [h1], h2.symm⟩
 have kpush : ∀ {k : Int} {s1 : List Int}, (pushP k s1).map (fun s2 => (s2, lo)) = some (s', lo') → s'.length ≤ 32 ∧ lo'.length = lo.length := by
  intro k s1 h
  obtain ⟨h1, h2⟩ := key h
  exact ⟨push_len h1, by rw [h2]⟩
 have kpop : ∀ {k : Int}, (popP k s).map (fun s2 => (s2, lo)) = some (s', lo') → s'.length ≤ 32 ∧ lo'.length = lo.length := by
  intro k h
  obtain ⟨h1, h2⟩ := key h
  exact ⟨Nat.le_trans (pop_len h1) hs, by rw [h2]⟩
 have kpush2 : ∀ {k k' : Int} {s1 : List Int}, ((pushP k s1).bind (pushP k')).map (fun s2 => (s2, lo)) = some (s', lo') → s'.length ≤ 32 ∧ lo'.length = lo.length := by
  intro k k' s1 h
  obtain ⟨h1, h2⟩ := key h
  cases hx : pushP k s1 with
  | none => rw [hx] at h1; cases h1
  | some x =>
   rw [hx] at h1
   exact ⟨push_len h1, by rw [h2]⟩
 unfold specP at h
 by_cases e0 : op = 0
 ·rw [if_pos e0] at h
  split at h
  ·injection h with h
   injection h with h1 h2
   subst h1; subst h2
   exact ⟨hs, rfl⟩
  cases h
 rw [if_neg e0] at h
 by_cases e4 : op = 4
 ·rw [if_pos e4] at h
  split at h
  ·cases h
  exact kpush2 h
 rw [if_neg e4] at h
 by_cases e5 : op = 5
 ·rw [if_pos e5] at h
  exact kpop h
 rw [if_neg e5] at h
 by_cases e6 : op = 6
 ·rw [if_pos e6] at h
  split at h
  ·exact kpush2 h
  cases h
 rw [if_neg e6] at h
 by_cases e7 : op = 7
 ·rw [if_pos e7] at h
  split at h
  ·cases h
  exact kpush h
 rw [if_neg e7] at h
 by_cases e8 : op = 8
 ·rw [if_pos e8] at h
  split at h
  ·cases h
  exact kpush h
 rw [if_neg e8] at h
 by_cases e9 : op = 9
 ·rw [if_pos e9] at h
  split at h
  ·cases h
  injection h with h
  injection h with h1 h2
  subst h1; subst h2
  exact ⟨by rw [List.length_dropLast]; omega, by rw [List.length_set]⟩
 rw [if_neg e9] at h
 by_cases e10 : op = 10
 ·rw [if_pos e10] at h
  exact kpush h
 rw [if_neg e10] at h
 by_cases e11 : op = 11
 ·rw [if_pos e11] at h
  exact kpop h
 rw [if_neg e11] at h
 by_cases e12 : op = 12
 ·rw [if_pos e12] at h
  exact kpush h
 rw [if_neg e12] at h
 by_cases e13 : op = 13
 ·rw [if_pos e13] at h
  exact kpop h
 rw [if_neg e13] at h
 by_cases e14 : op = 14
 ·rw [if_pos e14] at h
  exact kpush h
 rw [if_neg e14] at h
 by_cases e15 : op = 15
 ·rw [if_pos e15] at h
  exact kpop h
 rw [if_neg e15] at h
 injection h with h
 injection h with h1 h2
 subst h1; subst h2
 exact ⟨hs, rfl⟩
theorem after_len {res st ag ct p q : List Int} {sp : Bool} {op a : Nat} {s lo s' lo' : List Int} (hs : s.length ≤ 32) (h : afterP res st ag ct p q sp op a s lo = some (s', lo')) : s'.length ≤ 32 ∧ lo'.length = lo.length := by
 unfold afterP at h
 rcases h1 : popsP p.reverse s with _ | s1
 ·rw [h1] at h; cases h
 rw [h1, Option.bind_some] at h
 have hl1 := Nat.le_trans (pops_len _ h1) hs
 have h2 : ∀ x, (if sp = true then specP res st ag ct op a s1 lo else some (s1, lo)) = some x → x.1.length ≤ 32 ∧ x.2.length = lo.length := by
  intro x hx
  split at hx
  ·exact spec_len hl1 hx
  injection hx with hx
  subst hx
  exact ⟨hl1, rfl⟩
 rcases h3 : (if sp = true then specP res st ag ct op a s1 lo else some (s1, lo)) with _ | x
 ·rw [h3] at h; cases h
 rw [h3, Option.bind_some] at h
 obtain ⟨h4, h5⟩ := h2 x h3
 rcases h6 : pushesP q x.1 with _ | s3
 ·rw [h6] at h; cases h
 rw [h6] at h
 injection h with h
 injection h with e1 e2
 subst e1; subst e2
 exact ⟨pushes_len q h4 h6, h5⟩
end Lens
section Reach
theorem meet_succ (a b : List Int) (d : Bool) (i : Nat) : meetTo a b d (i + 1) = if a.getD i 0 ≠ 0 ∧ a.getD i 0 ≠ b.getD i 0 then ((meetTo a b d i).1.set i 0, true) else meetTo a b d i := rfl
theorem set_self (ss : List Sg) (i : Nat) : ss.set i (ss.getD i Sg.zero) = ss := by
 by_cases h : i < ss.length
 ·rw [List.getD_eq_getElem?_getD, List.getElem?_eq_getElem h]
  exact List.set_getElem_self h
 exact List.set_eq_of_length_le (by omega)
/-- A walker beside a block of another type. -/
def WkG (t : Nat) (N cb wb g : Nat) (hand at_ : Int) (iv sv : Value) (w0 : World) (w : World) (ks lo : List Int) : Prop := (wb ≠ g ∧ t ≠ 22) ∧ WkAt N cb wb g hand at_ iv sv w0 w ks lo ∧ ∃ A, w.heap[g]? = some (.cells A t (0, 0))
theorem WkG.put {t : Nat} {N cb wb g : Nat} {hand at_ : Int} {iv sv : Value} {w0 : World} {w : World} {ks lo : List Int} (h : WkG t N cb wb g hand at_ iv sv w0 w ks lo) (j : Nat) (v : Value) : WkG t N cb wb g hand at_ iv sv w0 (w.setCell ⟨g, j, none⟩ v) ks lo := by
 obtain ⟨hn, ⟨⟨kv, l0, l1, l2, l3, l4, l5, l6, l7, rfl, h1, h2⟩, h3⟩, A, hA⟩ := h
 exact ⟨hn, ⟨⟨kv, l0, l1, l2, l3, l4, l5, l6, l7, rfl, (Below.heap_setCell w ⟨g, j, none⟩ v wb hn.1).trans h1, h2.set hA hn.2 j v⟩, h3.set _ _ (.inr rfl)⟩, _, blk_set hA j v⟩
set_option maxHeartbeats 8000000 in
set_option maxRecDepth 100000 in
theorem reachR (N cb wb g : Nat) (hand at_ : Int) (iv sv : Value) (w0 : World) (w : World) (ks lo : List Int) (ss : List Sg) (tt cap : Nat) (hN : wb < N) (hgN : g < N) (hM : N ≤ w0.heap.size) (hl : ks.length ≤ 500) (hsv : sv = .slice (some ⟨g, 0, none⟩) ss.length cap) (hto : tt < ss.length) (hls : (ss.getD tt Sg.zero).stack.length ≤ 500) (hns : ss.length ≤ 1000) (h : WkAt N cb wb g hand at_ iv sv w0 w ks lo) (hs : SgAt 67 g w ss) :
  Calls Try.prog 46 #[.pointer (some ⟨wb, 0, none⟩), .int .i64 (tt : Int)] w fun e w' => (reachP ks lo (ss.getD tt Sg.zero) = none ∧ Gives N wb g hand at_ w0 e w') ∨ ∃ s', reachP ks lo (ss.getD tt Sg.zero) = some s' ∧ e = .returned (.tuple #[]) ∧ WkAt N cb wb g hand at_ iv sv w0 w' ks lo ∧ SgAt 67 g w' (ss.set tt s') := by
 subst hsv
 have HW := Aside0.mk h
 have HG := Aside0.mk hs
 obtain ⟨kv, l0, l1, l2, l3, l4, l5, l6, l7, hlo, hblk, hstk⟩ := h.blk
 subst hlo
 have HE := Aside0.mk hblk
 have HK := Aside0.mk hstk
 have hwg : wb ≠ g := by
  obtain ⟨A, hA, _⟩ := hs
  exact blk_ne hblk hA (by decide)
 have HWG := Aside0.mk (show wb ≠ g ∧ (67 : Nat) ≠ 22 from ⟨hwg, by decide⟩)
 have he3 : _ = some (Value.slice (some ⟨g, 0, none⟩) ss.length cap) := blk_cell hblk 3
 have he5 : _ = some kv := blk_cell hblk 5
 obtain ⟨c0, c1, ⟨v, c2, hv⟩, hn, c3⟩ := hs.cells tt hto
 obtain ⟨s, hsd⟩ : ∃ s, s = ss.getD tt Sg.zero := ⟨_, rfl⟩
 rw [← hsd] at c0 c1 hv hn c3 hls
 have HSD := Aside0.mk hsd
 have HV := Aside0.mk hv
 have q1 : 0 ≤ (tt : Int) ∧ (tt : Int) < (ss.length : Int) := by omega
 clear h hs hblk hstk hsd hv
 obtain ⟨r, d, st, lc⟩ := s
 simp only at c0 c1 c3 hn hls
 match lc, hn with
 | [a0, a1, a2, a3, a4, a5, a6, a7], _ =>
 go_enter Try.func46, Try.ntmps46
 rcases r with _ | _
 ·have HS := Aside0.mk (show reachP ks [l0, l1, l2, l3, l4, l5, l6, l7] (ss.getD tt Sg.zero) = some ⟨true, true, ks, [l0, l1, l2, l3, l4, l5, l6, l7]⟩ by rw [← HSD.out]; rfl)
  have HKD := Aside0.mk (HK.out.read.below (below_drew (Below.refl w.heap.size w)))
  have HL := Aside0.mk hl
  have HTO := Aside0.mk hto
  have hm0 : _ = some (Value.int .i64 l0) := blk_cell HE.out 6
  have hm1 : _ = some (Value.int .i64 l1) := blk_cell HE.out 7
  have hm2 : _ = some (Value.int .i64 l2) := blk_cell HE.out 8
  have hm3 : _ = some (Value.int .i64 l3) := blk_cell HE.out 9
  have hm4 : _ = some (Value.int .i64 l4) := blk_cell HE.out 10
  have hm5 : _ = some (Value.int .i64 l5) := blk_cell HE.out 11
  have hm6 : _ = some (Value.int .i64 l6) := blk_cell HE.out 12
  have hm7 : _ = some (Value.int .i64 l7) := blk_cell HE.out 13
  go_wp2
  go_region_with ((go_at_call 40; refine (cloneR _ kv ks HKD.out (by have := HL.out; omega)).mono ?_; rintro e w2 ⟨v2, rfl, hv2, hb2⟩; obtain ⟨A2, c2', hvv, _⟩ := hv2.read.slice; subst hvv; have HB2 := Aside0.mk (below_step (below_drew (Below.refl _ _)) hb2); have hE2 := (HB2.out.block wb (blk_lt HE.out)).trans HE.out; have hn0 : _ = some (Value.int .i64 l0) := blk_cell hE2 6; have hn1 : _ = some (Value.int .i64 l1) := blk_cell hE2 7; have hn2 : _ = some (Value.int .i64 l2) := blk_cell hE2 8; have hn3 : _ = some (Value.int .i64 l3) := blk_cell hE2 9; have hn4 : _ = some (Value.int .i64 l4) := blk_cell hE2 10; have hn5 : _ = some (Value.int .i64 l5) := blk_cell hE2 11; have hn6 : _ = some (Value.int .i64 l6) := blk_cell hE2 12; have hn7 : _ = some (Value.int .i64 l7) := blk_cell hE2 13; have hg2 := HG.out.below HB2.out; obtain ⟨d0, d1, ⟨dv, d2, _⟩, _, d3⟩ := hg2.cells tt HTO.out; have d30 := d3 0 (by omega); have d31 := d3 1 (by omega); have d32 := d3 2 (by omega); have d33 := d3 3 (by omega); have d34 := d3 4 (by omega); have d35 := d3 5 (by omega); have d36 := d3 6 (by omega); have d37 := d3 7 (by omega); have f0 := hg2.frozen (tt * 11); have f1 := hg2.frozen (tt * 11 + 1); have f2 := hg2.frozen (tt * 11 + 2); have f3 := hg2.frozen (tt * 11 + 3); have f4 := hg2.frozen (tt * 11 + 4); have f5 := hg2.frozen (tt * 11 + 5); have f6 := hg2.frozen (tt * 11 + 6); have f7 := hg2.frozen (tt * 11 + 7); have f8 := hg2.frozen (tt * 11 + 8); have f9 := hg2.frozen (tt * 11 + 9); have f10 := hg2.frozen (tt * 11 + 10); have HG2 := Aside0.mk hg2; have HV2 := Aside0.mk hv2.read; have HE2 := Aside0.mk hE2; clear hg2 hv2 hE2 hb2 d3))
  all_goals go_wp2
  all_goals refine bodyPost_ret (results_none rfl _ _ _) rfl ?_
  all_goals exact .inr ⟨_, HS.out, rfl, (WkG.put (WkG.put (WkG.put (WkG.put (WkG.put (WkG.put (WkG.put (WkG.put (WkG.put (WkG.put (WkG.put ⟨HWG.out, HW.out.step hM HB2.out, (by obtain ⟨A, hA, _⟩ := HG2.out; exact ⟨A, hA⟩)⟩ _ _) _ _) _ _) _ _) _ _) _ _) _ _) _ _) _ _) _ _) _ _).2.1, HG2.out.putAll (by decide) HTO.out true true _ ks HV2.out l0 l1 l2 l3 l4 l5 l6 l7⟩
 have HS := Aside0.mk (show reachP ks [l0, l1, l2, l3, l4, l5, l6, l7] (ss.getD tt Sg.zero) = if st = ks then some ⟨true, (meetTo [a0, a1, a2, a3, a4, a5, a6, a7] [l0, l1, l2, l3, l4, l5, l6, l7] d 8).2, st, (meetTo [a0, a1, a2, a3, a4, a5, a6, a7] [l0, l1, l2, l3, l4, l5, l6, l7] d 8).1⟩ else none by rw [← HSD.out]; rfl)
 have HL := Aside0.mk hl
 have HTO := Aside0.mk hto
 obtain ⟨dq, hdq⟩ : ∃ x, x = decide (st = ks) := ⟨_, rfl⟩
 have HDQ := Aside0.mk hdq
 have HCE := Aside0.mk (show ∀ W, Below w.heap.size w W → Calls Try.prog 54 #[v, kv] W fun e w' => e = .returned (.bool dq) ∧ Drawn0 W w' from fun W hb => by rw [hdq]; exact equalR W v kv st ks (HV.out.below hb) (HK.out.read.below hb) (by omega))
 clear hdq
 go_wp2
 have h00 : Aside0 (Below w.heap.size w w) := ⟨Below.refl _ _⟩
 have HSK : Aside0 (∀ W, Below w.heap.size w W → W.cell? ⟨g, tt * 11 + 2, none⟩ = some v ∧ W.cell? ⟨wb, 5, none⟩ = some kv ∧ Below w.heap.size w W) := ⟨fun W h => ⟨pw_cell_below h c2, pw_cell_below h he5, h⟩⟩
 go_region_held3 (fun W => W.cell? ⟨g, tt * 11 + 2, none⟩ = some v ∧ W.cell? ⟨wb, 5, none⟩ = some kv ∧ Below w.heap.size w W) ((refine HSK.out _ ?_; exact (by first | assumption | exact below_drew h00.out | exact pw_below_drewN h00.out _ | exact pw_below_drewN (below_drew h00.out) _))) (first | (go_at_call 54; refine (HCE.out _ (by first | assumption | exact below_drew h00.out | exact pw_below_drewN h00.out _ | exact pw_below_drewN (below_drew h00.out) _)).mono ?_; rintro e w2 ⟨rfl, ⟨nd, rfl⟩⟩))
 have HB2 := Aside0.mk (show Below w.heap.size w (w.drewN (1 + nd)) from pw_below_drewN (Below.refl _ _) _)
 have HW2 := Aside0.mk (HW.out.step hM HB2.out)
 have HG2 := Aside0.mk (HG.out.below HB2.out)
 have HE2 := Aside0.mk (show (w.drewN (1 + nd)).heap[wb]? = _ from HE.out)
 generalize w.drewN (1 + nd) = w3 at HB2 HW2 HG2 HE2 ⊢
 clear c0 c1 c2 c3 he3 he5 HG HW HE HK HV
 rcases dq with _ | _
 case false =>
  have HS2 := Aside0.mk (HS.out.trans (if_neg (of_decide_eq_false HDQ.out.symm)))
  go_wp2_with (go_at_call 39; refine (failR cb wb hand at_ l0 l1 l2 l3 l4 l5 l6 l7 iv (.slice (some ⟨g, 0, none⟩) ss.length cap) kv w3 HE2.out).mono ?_; rintro e w4 ⟨rfl, ⟨nd2, rfl⟩⟩)
  exact ⟨rfl, .inl ⟨HS2.out, rfl, HW2.out.hold.drewN nd2⟩⟩
 case true =>
  have HS2 := Aside0.mk (HS.out.trans (if_pos (of_decide_eq_true HDQ.out.symm)))
  have dd := (HG2.out.cells tt hto).2.2.2.2
  rw [← HSD.out] at dd
  have d30 : w3.cell? ⟨g, tt * 11 + 3, none⟩ = some (.int .i64 a0) := dd 0 (by omega)
  have d31 : w3.cell? ⟨g, tt * 11 + 4, none⟩ = some (.int .i64 a1) := dd 1 (by omega)
  have d32 : w3.cell? ⟨g, tt * 11 + 5, none⟩ = some (.int .i64 a2) := dd 2 (by omega)
  have d33 : w3.cell? ⟨g, tt * 11 + 6, none⟩ = some (.int .i64 a3) := dd 3 (by omega)
  have d34 : w3.cell? ⟨g, tt * 11 + 7, none⟩ = some (.int .i64 a4) := dd 4 (by omega)
  have d35 : w3.cell? ⟨g, tt * 11 + 8, none⟩ = some (.int .i64 a5) := dd 5 (by omega)
  have d36 : w3.cell? ⟨g, tt * 11 + 9, none⟩ = some (.int .i64 a6) := dd 6 (by omega)
  have d37 : w3.cell? ⟨g, tt * 11 + 10, none⟩ = some (.int .i64 a7) := dd 7 (by omega)
  clear dd
  go_wp2
  go_loopg [46] 8 (fun kq v46 w' => ∃ i : Nat, v46 = .int .i64 (i : Int) ∧ Aside0 (kq + i = 8) ∧ Aside0 (WkAt N cb wb g hand at_ iv (.slice (some ⟨g, 0, none⟩) ss.length cap) w0 w' ks [l0, l1, l2, l3, l4, l5, l6, l7]) ∧ Aside0 (SgAt 67 g w' (ss.set tt ⟨true, (meetTo [a0, a1, a2, a3, a4, a5, a6, a7] [l0, l1, l2, l3, l4, l5, l6, l7] d i).2, st, (meetTo [a0, a1, a2, a3, a4, a5, a6, a7] [l0, l1, l2, l3, l4, l5, l6, l7] d i).1⟩)))
  case atStart => exact ⟨0, rfl, ⟨rfl⟩, HW2, ⟨by rw [show (⟨true, (meetTo [a0, a1, a2, a3, a4, a5, a6, a7] [l0, l1, l2, l3, l4, l5, l6, l7] d 0).2, st, (meetTo [a0, a1, a2, a3, a4, a5, a6, a7] [l0, l1, l2, l3, l4, l5, l6, l7] d 0).1⟩ : Sg) = ss.getD tt Sg.zero from HSD.out, set_self]; exact HG2.out⟩⟩
  case round =>
   clear HW2 HG2 HE2 HB2
   obtain ⟨i, rfl, HI, HWI, HGI⟩ := hrel
   by_cases h1 : i < 8
   ·have c1 : decide ((i : Int) < 8) = true := decide_eq_true (by omega)
    have H1 := Aside0.mk h1
    have hix := fun W => index23 a0 a1 a2 a3 a4 a5 a6 a7 W i H1.out
    obtain ⟨kvi, m0, m1, m2, m3, m4, m5, m6, m7, hm, hblk2, hstk2⟩ := HWI.out.blk
    injection hm with e0 hm; injection hm with e1 hm; injection hm with e2 hm; injection hm with e3 hm; injection hm with e4 hm; injection hm with e5 hm; injection hm with e6 hm; injection hm with e7 hm
    subst e0 e1 e2 e3 e4 e5 e6 e7
    have hwl := wk_cell hblk2 i H1.out
    have hcs := HGI.out.cells tt (by rw [List.length_set]; exact HTO.out)
    have hcd := hcs.2.1
    have hcl := hcs.2.2.2.2 i H1.out
    have hf1 := HGI.out.frozen (tt * 11 + 1)
    have hf2 := HGI.out.frozen (tt * 11 + 3 + i)
    obtain ⟨x, hx⟩ : ∃ x, x = [a0, a1, a2, a3, a4, a5, a6, a7].getD i 0 := ⟨_, rfl⟩
    obtain ⟨u, hu⟩ : ∃ u, u = [l0, l1, l2, l3, l4, l5, l6, l7].getD i 0 := ⟨_, rfl⟩
    have HME := Aside0.mk (show meetTo [a0, a1, a2, a3, a4, a5, a6, a7] [l0, l1, l2, l3, l4, l5, l6, l7] d (i + 1) = if x ≠ 0 ∧ x ≠ u then ((meetTo [a0, a1, a2, a3, a4, a5, a6, a7] [l0, l1, l2, l3, l4, l5, l6, l7] d i).1.set i 0, true) else meetTo [a0, a1, a2, a3, a4, a5, a6, a7] [l0, l1, l2, l3, l4, l5, l6, l7] d i from by rw [hx, hu]; exact meet_succ _ _ _ _)
    rw [← hx] at hix
    rw [← hu] at hwl
    have hwr : wrap64 ((i : Int) + 1) = ((i + 1 : Nat) : Int) := by
     unfold wrap64
     omega
    have HWR := Aside0.mk hwr
    have hq1 : 0 ≤ (i : Int) ∧ (i : Int) < 8 := ⟨Int.natCast_nonneg i, Int.ofNat_lt.mpr H1.out⟩
    have HBK := Aside0.mk hblk2
    generalize hsd_ : (((ss.set tt ⟨true, (meetTo [a0, a1, a2, a3, a4, a5, a6, a7] [l0, l1, l2, l3, l4, l5, l6, l7] d i).2, st, (meetTo [a0, a1, a2, a3, a4, a5, a6, a7] [l0, l1, l2, l3, l4, l5, l6, l7] d i).1⟩)).getD tt Sg.zero) = sg at hcd hcl
    clear hwr h1 hx hu hcs hm hblk2 hstk2 hsd_
    obtain ⟨k1_, rfl⟩ : ∃ k1_, gk = k1_ + 1 := ⟨gk - 1, by have := HI.out; have := H1.out; omega⟩
    by_cases hz : x = 0
    ·have d1 : (x != 0) = false := bne_eq_false_iff_eq.mpr hz
     have HM2 := Aside0.mk (HME.out.trans (if_neg (fun h => h.1 hz)))
     clear hz
     go_wp2
     go_roundg k1_
     case measure => omega
     case rel => exact ⟨i + 1, rfl, ⟨by have := HI.out; omega⟩, HWI, ⟨by rw [HM2.out]; exact HGI.out⟩⟩
    have d1 : (x != 0) = true := bne_iff_ne.mpr hz
    by_cases hy : x = u
    ·have d2 : (x != u) = false := bne_eq_false_iff_eq.mpr hy
     have HM2 := Aside0.mk (HME.out.trans (if_neg (fun h => h.2 hy)))
     clear hz hy
     go_wp2
     go_roundg k1_
     case measure => omega
     case rel => exact ⟨i + 1, rfl, ⟨by have := HI.out; omega⟩, HWI, ⟨by rw [HM2.out]; exact HGI.out⟩⟩
    have d2 : (x != u) = true := bne_iff_ne.mpr hy
    have HM2 := Aside0.mk (HME.out.trans (if_pos ⟨hz, hy⟩))
    clear hz hy
    have hA := HGI.out.putL (by decide) (i := tt) (by rw [List.length_set]; exact HTO.out) i H1.out 0
    rw [getD_set_eq _ HTO.out, List.set_set] at hA
    have hB := hA.putD (by decide) (i := tt) (by rw [List.length_set]; exact HTO.out) true
    rw [getD_set_eq _ HTO.out, List.set_set] at hB
    have HB := Aside0.mk hB
    have HWB := Aside0.mk (WkG.put (WkG.put ⟨HWG.out, HWI.out, (by obtain ⟨A, hA, _⟩ := HGI.out; exact ⟨A, hA⟩)⟩ (tt * 11 + 3 + i) (.int .i64 0)) (tt * 11 + 1) (.bool true)).2.1
    clear hA hB
    go_wp2
    go_roundg k1_
    case measure => omega
    case rel => exact ⟨i + 1, rfl, ⟨by have := HI.out; omega⟩, HWB, ⟨by rw [HM2.out]; exact HB.out⟩⟩
   have c1 : decide ((i : Int) < 8) = false := decide_eq_false (by omega)
   obtain rfl : i = 8 := by have := HI.out; omega
   go_wp2
   go_end0
   exact .inr ⟨_, HS2.out, rfl, HWI.out, HGI.out⟩
end Reach
section LookA
def kindOf1 (b : UInt8) : Int := if b = 105 then 1 else if b = 114 then 2 else 3
def kindsOf (p : ByteArray) : List Int := p.data.toList.map kindOf1
/-- Instructions that are read, of an elder block. -/
def InsAt (B : Nat) (w : World) (A : Option Addr) (L : List S42) : Prop := ∀ i, i < L.length → ∃ ad, A = some ad ∧ ad.block < B ∧ w.cell? (ad.add (i * 2)) = some (.int .i64 (L.getD i z42).f0) ∧ w.cell? ⟨(ad.add (i * 2)).block, (ad.add (i * 2)).off + 1, none⟩ = some (.int .i64 (L.getD i z42).f1)
theorem cell_heap {w w1 : World} {a : Addr} (h : w1.heap[a.block]? = w.heap[a.block]?) : w1.cell? a = w.cell? a := by
 unfold World.cell?
 rw [h]
theorem InsAt.move {B : Nat} {w w1 : World} {A : Option Addr} {L : List S42} (h : InsAt B w A L) (hb : ∀ k, k < B → w1.heap[k]? = w.heap[k]?) : InsAt B w1 A L := by
 intro i hi
 obtain ⟨ad, h1, h2, h3, h4⟩ := h i hi
 have e : w1.heap[(ad.add (i * 2)).block]? = w.heap[(ad.add (i * 2)).block]? := hb _ (by rw [add_block]; exact h2)
 exact ⟨ad, h1, h2, (cell_heap e).trans h3, (cell_heap (a := ⟨(ad.add (i * 2)).block, (ad.add (i * 2)).off + 1, none⟩) e).trans h4⟩
theorem popGood2 (N cb wb g : Nat) (hand at_ : Int) (iv sv : Value) (w0 : World) (w : World) (ks ks' lo : List Int) (k : Int) (hN : wb < N) (hM : N ≤ w0.heap.size) (hl : ks.length ≤ 1000) (hp : popP k ks = some ks') (t : Int) (ht : ks.getLast? = some t) (h : WkAt N cb wb g hand at_ iv sv w0 w ks lo) :
  Calls Try.prog 41 #[.pointer (some ⟨wb, 0, none⟩), .int .i64 k] w fun e w' => e = .returned (.int .i64 t) ∧ WkAt N cb wb g hand at_ iv sv w0 w' ks' lo ∧ Holds N wb wb w w' := (popGood N cb wb wb hand at_ iv sv w w ks ks' lo k hN (Nat.le_trans hM h.hold.size) hl hp t ht ⟨h.blk, .refl _ _ _ _⟩).mono fun e w' hh => ⟨hh.1, ⟨hh.2.blk, h.hold.trans (hh.2.hold.more g)⟩, hh.2.hold⟩
theorem pushGood2 (N cb wb g : Nat) (hand at_ : Int) (iv sv : Value) (w0 : World) (w : World) (ks ks' lo : List Int) (k : Int) (hN : wb < N) (hM : N ≤ w0.heap.size) (hl : ks.length ≤ 1000) (hp : pushP k ks = some ks') (h : WkAt N cb wb g hand at_ iv sv w0 w ks lo) :
  Calls Try.prog 44 #[.pointer (some ⟨wb, 0, none⟩), .int .i64 k] w fun e w' => e = .returned (.tuple #[]) ∧ WkAt N cb wb g hand at_ iv sv w0 w' ks' lo ∧ Holds N wb wb w w' := (pushGood N cb wb wb hand at_ iv sv w w ks ks' lo k hN (Nat.le_trans hM h.hold.size) hl hp ⟨h.blk, .refl _ _ _ _⟩).mono fun e w' hh => ⟨hh.1, ⟨hh.2.blk, h.hold.trans (hh.2.hold.more g)⟩, hh.2.hold⟩
theorem specBad (words s0 s1 s2 s3 s4 s5 s6 s7 g0 g1 g2 g3 g4 g5 g6 g7 t0 t1 t2 t3 ma mb sa na sb nb : Int) (both : Bool) (h0 h1 h2 h3 h4 : Value) (N cb wb g : Nat) (hand at_ : Int) (iv sv : Value) (w0 : World) (w : World) (ks lo : List Int) (op a : Nat) (hN : wb < N) (hM : N ≤ w0.heap.size) (hl : ks.length ≤ 500) (hcb : cb < N) (hne : cb ≠ wb) (hng : cb ≠ g) (hc : w0.heap[cb]? = some (.cells #[.int .i64 words, .int .i64 s0, .int .i64 s1, .int .i64 s2, .int .i64 s3, .int .i64 s4, .int .i64 s5, .int .i64 s6, .int .i64 s7, .int .i64 g0, .int .i64 g1, .int .i64 g2, .int .i64 g3, .int .i64 g4, .int .i64 g5, .int .i64 g6, .int .i64 g7, .int .i64 t0, .int .i64 t1, .int .i64 t2, .int .i64 t3, .int .i64 ma, .int .i64 mb, .int .i64 sa, .int .i64 na, .int .i64 sb, .int .i64 nb, .bool both, h0, h1, h2, h3, h4] 31 (0, 0))) (hop : op = 0 ∨ (4 ≤ op ∧ op ≤ 15)) (h7 : op = 7 → a < 32) (h8 : op = 8 ∨ op = 9 → a < 8) (h10 : 10 ≤ op → op ≤ 13 → a < 8) (h14 : 14 ≤ op → a < 4) (hp : specP (resP hand ma mb) [s0, s1, s2, s3, s4, s5, s6, s7] [g0, g1, g2, g3, g4, g5, g6, g7] [t0, t1, t2, t3] op a ks lo = none) (h : WkAt N cb wb g hand at_ iv sv w0 w ks lo) :
  Calls Try.prog 43 #[.pointer (some ⟨wb, 0, none⟩), .agg #[.int .i64 (op : Int), .int .i64 (a : Int)]] w fun e w' => e = .panicked [{ v := .iface 44 (.agg #[.int .i64 hand, .int .i64 at_]), recovered := false }] ∧ Holds N wb g w0 w' := (specialR words s0 s1 s2 s3 s4 s5 s6 s7 g0 g1 g2 g3 g4 g5 g6 g7 t0 t1 t2 t3 ma mb sa na sb nb both h0 h1 h2 h3 h4 N cb wb g hand at_ iv sv w0 w ks lo op a hN hM hl hcb hne hng hc hop h7 h8 h10 h14 h).mono fun e w' hh => by
 rcases hh with ⟨_, hh⟩ | ⟨k, l, hh, _⟩
 ·exact hh
 rw [hp] at hh; cases hh
theorem specGood2 (words s0 s1 s2 s3 s4 s5 s6 s7 g0 g1 g2 g3 g4 g5 g6 g7 t0 t1 t2 t3 ma mb sa na sb nb : Int) (both : Bool) (h0 h1 h2 h3 h4 : Value) (N cb wb g : Nat) (hand at_ : Int) (iv sv : Value) (w0 : World) (w : World) (ks lo ks' lo' : List Int) (op a : Nat) (hN : wb < N) (hM : N ≤ w0.heap.size) (hl : ks.length ≤ 500) (hcb : cb < N) (hne : cb ≠ wb) (hng : cb ≠ g) (hc : w0.heap[cb]? = some (.cells #[.int .i64 words, .int .i64 s0, .int .i64 s1, .int .i64 s2, .int .i64 s3, .int .i64 s4, .int .i64 s5, .int .i64 s6, .int .i64 s7, .int .i64 g0, .int .i64 g1, .int .i64 g2, .int .i64 g3, .int .i64 g4, .int .i64 g5, .int .i64 g6, .int .i64 g7, .int .i64 t0, .int .i64 t1, .int .i64 t2, .int .i64 t3, .int .i64 ma, .int .i64 mb, .int .i64 sa, .int .i64 na, .int .i64 sb, .int .i64 nb, .bool both, h0, h1, h2, h3, h4] 31 (0, 0))) (hop : op = 0 ∨ (4 ≤ op ∧ op ≤ 15)) (h7 : op = 7 → a < 32) (h8 : op = 8 ∨ op = 9 → a < 8) (h10 : 10 ≤ op → op ≤ 13 → a < 8) (h14 : 14 ≤ op → a < 4) (hp : specP (resP hand ma mb) [s0, s1, s2, s3, s4, s5, s6, s7] [g0, g1, g2, g3, g4, g5, g6, g7] [t0, t1, t2, t3] op a ks lo = some (ks', lo')) (h : WkAt N cb wb g hand at_ iv sv w0 w ks lo) :
  Calls Try.prog 43 #[.pointer (some ⟨wb, 0, none⟩), .agg #[.int .i64 (op : Int), .int .i64 (a : Int)]] w fun e w' => e = .returned (.tuple #[]) ∧ WkAt N cb wb g hand at_ iv sv w0 w' ks' lo' ∧ Holds N wb wb w w' := (specialR words s0 s1 s2 s3 s4 s5 s6 s7 g0 g1 g2 g3 g4 g5 g6 g7 t0 t1 t2 t3 ma mb sa na sb nb both h0 h1 h2 h3 h4 N cb wb wb hand at_ iv sv w w ks lo op a hN (Nat.le_trans hM h.hold.size) hl hcb hne hne (h.hold.blk hc (.inl hcb) hne hng) hop h7 h8 h10 h14 ⟨h.blk, .refl _ _ _ _⟩).mono fun e w' hh => by
 rcases hh with ⟨hh, _⟩ | ⟨k, l, hh, h1, h2⟩
 ·rw [hp] at hh; cases hh
 rw [hp] at hh
 injection hh with hh
 injection hh with e1 e2
 subst e1; subst e2
 exact ⟨h1, ⟨h2.blk, h.hold.trans (h2.hold.more g)⟩, h2.hold⟩
/-- What is known of an instruction that may be. -/
structure InsOk (n : Nat) (x : S42) (op a : Nat) : Prop where
 opE : x.f0 = (op : Int)
 lt : op < 69
 arg : op = 0 ∨ (4 ≤ op ∧ op ≤ 15) → x.f1 = (a : Int)
 h7 : op = 7 → a < 32
 h8 : op = 8 ∨ op = 9 → a < 8
 h10 : 10 ≤ op → op ≤ 13 → a < 8
 h14 : 14 ≤ op → op ≤ 15 → a < 4
 jump : 66 ≤ op → x.f1 = (a : Int) ∧ a < n
def nxP (op a i : Nat) : List Nat := if op = 0 then [] else if op = 66 then [a] else if op = 67 ∨ op = 68 then [i + 1, a] else [i + 1]
theorem onward_val {n : Nat} {x : S42} {op a : Nat} (h : InsOk n x op a) (i : Nat) (hi : i ≤ 512) : loom_onward.f x.f0 x.f1 (i : Int) = some ((nxP op a i).map (fun (t : Nat) => (t : Int))) := by
 have hw : wrap64 ((i : Int) + 1) = ((i + 1 : Nat) : Int) := by
  unfold wrap64
  omega
 unfold loom_onward.f nxP
 rw [h.opE, hw]
 by_cases h0 : op = 0
 ·rw [if_pos (by omega), if_pos h0]; rfl
 by_cases h1 : op = 66
 ·rw [if_neg (by omega), if_pos (by omega), if_neg h0, if_pos h1, (h.jump (by omega)).1]; rfl
 by_cases h2 : op = 67
 ·rw [if_neg (by omega), if_neg (by omega), if_pos (by omega), if_neg h0, if_neg h1, if_pos (.inl h2), (h.jump (by omega)).1]; rfl
 by_cases h3 : op = 68
 ·rw [if_neg (by omega), if_neg (by omega), if_neg (by omega), if_pos (by omega), if_neg h0, if_neg h1, if_pos (.inr h3), (h.jump (by omega)).1]; rfl
 rw [if_neg (by omega), if_neg (by omega), if_neg (by omega), if_neg (by omega), if_neg h0, if_neg h1, if_neg (by omega)]; rfl
theorem nx_next {n : Nat} {x : S42} {op a : Nat} (h : InsOk n x op a) (i : Nat) : sluiceref11_Next.f x.f0 x.f1 (i : Int) = loom_onward.f x.f0 x.f1 (i : Int) := rfl
theorem kind_val (b : UInt8) : loom_kindOf.f ((b.toNat : Int)) = some (kindOf1 b) := by
 unfold loom_kindOf.f kindOf1
 by_cases h1 : b = 105
 ·subst h1; rfl
 by_cases h2 : b = 114
 ·subst h2; rfl
 have e1 : ¬ (b.toNat : Int) = 105 := fun h => h1 (UInt8.toNat_inj.1 (by show b.toNat = 105; omega))
 have e2 : ¬ (b.toNat : Int) = 114 := fun h => h2 (UInt8.toNat_inj.1 (by show b.toNat = 114; omega))
 rw [if_neg e1, if_neg e2, if_neg h1, if_neg h2]
theorem tab_small : ∀ op : Nat, op < 69 → (tabP op).size ≤ 4 ∧ (tabQ op).size ≤ 4 := by decide +kernel
theorem tab_special : ∀ op : Nat, op < 69 → tabS op = true → (op = 0 ∨ (4 ≤ op ∧ op ≤ 15)) ∧ (tabP op).size = 0 ∧ (tabQ op).size = 0 := by decide +kernel
theorem tab_special2 : ∀ op : Nat, op < 69 → (op = 0 ∨ (4 ≤ op ∧ op ≤ 15)) → tabS op = true := by decide +kernel
theorem kinds_len (p : ByteArray) : (kindsOf p).length = p.size := by rw [kindsOf, List.length_map, Array.length_toList]; rfl
theorem kinds_get (p : ByteArray) (j : Nat) (hj : j < p.size) : (kindsOf p).getD j 0 = kindOf1 p[j] := by
 rw [List.getD_eq_getElem?_getD, kindsOf, List.getElem?_map, List.getElem?_eq_getElem (by rw [Array.length_toList]; exact hj)]
 simp only [Option.map_some, Option.getD_some, Array.getElem_toList]
 rfl
theorem kind_ne (b : UInt8) : kindOf1 b ≠ 0 := by
 unfold kindOf1
 split
 ·decide
 split <;> decide
/-- A letter of a text of letters. -/
theorem index9 (p : ByteArray) (W : World) (j : Nat) (hj : j < p.size) : (Instr.index 9 (.string p) (.int .i64 (j : Int))).run Try.prog W = .ok (.int .u8 ((p[j]).toNat : Int)) W := by
 simp only [Instr.index, asIntOf, Sem.run_bind, run_underlying Try.underlying9, Result.andThen_ok, Sem.run_pure]
 rw [if_pos (by constructor <;> omega)]
 rw [show p[(j : Int).toNat]? = some p[j] by simp [hj]]
 rfl
theorem nx_lt {n : Nat} {x : S42} {op a : Nat} (h : InsOk n x op a) {i : Nat} (hi : i < n) : (∀ t ∈ nxP op a i, t < n + 1) ∧ (nxP op a i).length ≤ 2 := by
 unfold nxP
 by_cases h0 : op = 0
 ·rw [if_pos h0]; exact ⟨fun t ht => by simp at ht, by simp⟩
 by_cases h1 : op = 66
 ·rw [if_neg h0, if_pos h1]; exact ⟨fun t ht => by have := (h.jump (by omega)).2; simp at ht; omega, by simp⟩
 by_cases h2 : op = 67 ∨ op = 68
 ·rw [if_neg h0, if_neg h1, if_pos h2]; exact ⟨fun t ht => by have := (h.jump (by omega)).2; simp at ht; omega, by simp⟩
 rw [if_neg h0, if_neg h1, if_neg h2]; exact ⟨fun t ht => by simp at ht; omega, by simp⟩
theorem SgAt.hold {t g wb N : Nat} {w w1 : World} {ss : List Sg} (h : SgAt t g w ss) (hh : Holds N wb wb w w1) (hN : w.heap.size ≤ N) {cs : Array Value} (hwb : w.heap[wb]? = some (.cells cs 65 (0, 0))) (hne : g ≠ wb) : SgAt t g w1 ss :=
 h.move (hh.block g (.inl (Nat.lt_of_lt_of_le h.lt hN)) hne hne) (fun k cur hk => hh.block k (.inl (Nat.lt_of_lt_of_le (blk_lt hk) hN)) (blk_ne hk hwb (by decide)) (blk_ne hk hwb (by decide)))
theorem blk_of_sg {t g : Nat} {w : World} {ss : List Sg} (h : SgAt t g w ss) : w.heap[g]? = some (.cells ((w.heap[g]?.bind (fun o => match o with | .cells cs _ _ => some cs | _ => none)).getD #[]) t (0, 0)) := by
 obtain ⟨A, h1, _⟩ := h
 rw [h1]
 rfl
theorem int_at {w : World} {A : Option Addr} {n : Nat} {xs : List Int} (h : (Kd.int .i64).C w A n xs) (j : Nat) (hj : j < n) : ∃ ad, A = some ad ∧ w.cell? (ad.add j) = some (.int .i64 (xs.getD j 0)) := by
 obtain ⟨ad, c, e, hl, hK, hc⟩ := Kd.C_get h 0 (j : Int) (by omega) (by omega)
 refine ⟨ad, e, ?_⟩
 have h1 := hc 0
 rw [Int.toNat_natCast] at h1 hK
 have hk : c = [.int .i64 (xs.getD j 0)] := hK
 subst hk
 have h2 := h1 _ rfl
 rw [show j * (Kd.int .i64).sz + 0 = j from Nat.mul_one j] at h2
 exact h2
theorem R3_hold {N b g base : Nat} {w w1 : World} {v : Value} {xs : List Int} (h : (Kd.int .i64).R 3 w base (fun _ => True) v xs) (hh : Holds N b g w w1) {cs cs' : Array Value} {t t' : TypeId} (hb : w.heap[b]? = some (.cells cs t (0, 0))) (hg : w.heap[g]? = some (.cells cs' t' (0, 0))) (ht : t ≠ 3) (ht' : t' ≠ 3) : (Kd.int .i64).R 3 w1 base (fun _ => True) v xs := by
 refine Kd.R_mono (Kd.R_move (Kd.R_bound h) (fun k hk => ?_)) (fun _ _ => trivial)
 obtain ⟨_, _, _, q, hq, cells, hc⟩ := hk
 have hq3 : q = 3 := by
  rcases List.mem_cons.1 hq with h | h
  ·exact h
  cases h
 subst hq3
 exact hh.block k (.inr ⟨cells, 3, hc, by decide⟩) (blk_ne hc hb (Ne.symm ht)) (blk_ne hc hg (Ne.symm ht'))
theorem reachBad (N cb wb g : Nat) (hand at_ : Int) (iv sv : Value) (w0 : World) (w : World) (ks lo : List Int) (ss : List Sg) (tt cap : Nat) (hN : wb < N) (hgN : g < N) (hM : N ≤ w0.heap.size) (hl : ks.length ≤ 500) (hsv : sv = .slice (some ⟨g, 0, none⟩) ss.length cap) (hto : tt < ss.length) (hls : (ss.getD tt Sg.zero).stack.length ≤ 500) (hns : ss.length ≤ 1000) (hp : reachP ks lo (ss.getD tt Sg.zero) = none) (h : WkAt N cb wb g hand at_ iv sv w0 w ks lo) (hs : SgAt 67 g w ss) :
  Calls Try.prog 46 #[.pointer (some ⟨wb, 0, none⟩), .int .i64 (tt : Int)] w fun e w' => e = .panicked [{ v := .iface 44 (.agg #[.int .i64 hand, .int .i64 at_]), recovered := false }] ∧ Holds N wb g w0 w' := (reachR N cb wb g hand at_ iv sv w0 w ks lo ss tt cap hN hgN hM hl hsv hto hls hns h hs).mono fun e w' hh => by
 rcases hh with ⟨_, hh⟩ | ⟨s', hh, _⟩
 ·exact hh
 rw [hp] at hh; cases hh
theorem reachGood2 (N cb wb g : Nat) (hand at_ : Int) (iv sv : Value) (w0 : World) (w : World) (ks lo : List Int) (ss : List Sg) (tt cap : Nat) (s' : Sg) (hN : wb < N) (hgN : g < N) (hM : N ≤ w0.heap.size) (hl : ks.length ≤ 500) (hsv : sv = .slice (some ⟨g, 0, none⟩) ss.length cap) (hto : tt < ss.length) (hls : (ss.getD tt Sg.zero).stack.length ≤ 500) (hns : ss.length ≤ 1000) (hp : reachP ks lo (ss.getD tt Sg.zero) = some s') (h : WkAt N cb wb g hand at_ iv sv w0 w ks lo) (hs : SgAt 67 g w ss) :
  Calls Try.prog 46 #[.pointer (some ⟨wb, 0, none⟩), .int .i64 (tt : Int)] w fun e w' => e = .returned (.tuple #[]) ∧ WkAt N cb wb g hand at_ iv sv w0 w' ks lo ∧ SgAt 67 g w' (ss.set tt s') ∧ Holds N wb g w w' := (reachR N cb wb g hand at_ iv sv w w ks lo ss tt cap hN hgN (Nat.le_trans hM h.hold.size) hl hsv hto hls hns ⟨h.blk, .refl _ _ _ _⟩ hs).mono fun e w' hh => by
 rcases hh with ⟨hh, _⟩ | ⟨s2, hh, h1, h2, h3⟩
 ·rw [hp] at hh; cases hh
 rw [hp] at hh
 injection hh with hh
 subst hh
 exact ⟨h1, ⟨h2.blk, h.hold.trans h2.hold⟩, h3, h2.hold⟩
end LookA
end Go.Proofs.Ytcpcpmojallcdaa.QLoomChecks
