/- LoomChecks: Twin Same Unt. Conditions: as each theorem says. -/
import Derived.Laws.CopyOwn
import Derived.ChangeKeysEq
import Derived.Deep.RegionHeld3
import Derived.Test.YtcpcpmojallcdaaLcQ
import Derived.Test.YtcpcpmojallcdaaLcGJ
namespace Go.Proofs.Ytcpcpmojallcdaa.QLoomChecks
open Go.RowKit Go.Proofs.YtcpcpmojallcdaaW.PrintWords Go.Proofs.YtcpcpmojallcdaaW.PrintLast Go.Proofs.YtcpcpmojallcdaaW.PrintMore
set_option linter.unusedVariables false
set_option linter.unusedSimpArgs false
section Twin
def mk42 : S42 := ⟨7777, 7777⟩
/-- A list of its own, a mark behind it. -/
def TwR (N : Nat) (L : List S42) (v : Value) (w : World) : Prop := ∃ (A : Option Addr) (c : Nat), v = .slice A L.length c ∧ Kd.R k42 42 w N (fun k => N ≤ k) (.slice A (L.length + 1) c) (L ++ [mk42])
theorem TwR.move {N : Nat} {L : List S42} {v : Value} {w w1 : World} (h : TwR N L v w) (hm : ∀ k, N ≤ k → k < w.heap.size → (∃ cells, w.heap[k]? = some (.cells cells 42 (0, 0))) → w1.heap[k]? = w.heap[k]?) : TwR N L v w1 := by
 obtain ⟨A, c, e, hr⟩ := h
 refine ⟨A, c, e, Kd.R_mono (Kd.R_move (Kd.R_bound hr) (fun k hk => ?_)) (fun _ hk => hk.1)⟩
 obtain ⟨h1, h2, h3, q, hq, cells, hc⟩ := hk
 have hq : q = 42 := by
  rcases List.mem_cons.1 hq with h | h
  ·exact h
  cases h
 subst hq
 exact hm k h1 h3 ⟨cells, hc⟩
theorem TwR.below {N : Nat} {L : List S42} {v : Value} {w w1 : World} (h : TwR N L v w) (hb : Below w.heap.size w w1) : TwR N L v w1 := h.move (fun k _ hk _ => hb.block k hk)
theorem TwR.set {N : Nat} {L : List S42} {v : Value} {w : World} (h : TwR N L v w) {b : Nat} {cs : Array Value} (hb : w.heap[b]? = some (.cells cs 31 (0, 0))) (j : Nat) (u : Value) : TwR N L v (w.setCell ⟨b, j, none⟩ u) :=
 h.move (fun k _ _ hc => by
  obtain ⟨cells, hc⟩ := hc
  exact Below.heap_setCell w ⟨b, j, none⟩ u k (blk_ne hc hb (by decide)))
theorem TwR.row {N : Nat} {L : List S42} {v : Value} {w : World} (h : TwR N L v w) {b : Nat} {cs : Array Value} (hb : w.heap[b]? = some (.cells cs 31 (0, 0))) (cs2 : Array Value) : TwR N L v (w.setRow b cs2) :=
 h.move (fun k _ _ hc => by
  obtain ⟨cells, hc⟩ := hc
  exact setRow_other w b k cs2 (blk_ne hc hb (by decide)))
theorem TwR.read {N : Nat} {L : List S42} {v : Value} {w : World} (h : TwR N L v w) : ∃ A c, v = .slice A L.length c ∧ L.length + 1 ≤ c ∧ Kd.C k42 w A L.length L ∧ Kd.C k42 w A (L ++ [mk42]).length (L ++ [mk42]) := by
 obtain ⟨A, c, e, hr⟩ := h
 have h1 := Kd.R_reads' hr
 have h2 := Kd.R_take (m := L.length) hr (by rw [List.length_append]; omega)
 rw [List.take_append_of_le_length (Nat.le_refl _), List.take_length] at h2
 exact ⟨A, c, e, h1.2.1, (Kd.R_reads' h2).2.2, h1.2.2⟩
theorem info42 : (Try.prog.info? 42).map (fun i => (i.zero, i.size, i.bytes)) = some (some (.agg #[.int .i64 0, .int .i64 0]), 2, 16) := by kernel_rfl
theorem info42s : ∃ i, Try.prog.info? 42 = some i := Option.isSome_iff_exists.mp (by kernel_rfl)
set_option maxHeartbeats 8000000 in
theorem hands_set (words s0 s1 s2 s3 s4 s5 s6 s7 g0 g1 g2 g3 g4 g5 g6 g7 t0 t1 t2 t3 ma mb sa na sb nb : Int) (both : Bool) (y0_ y1_ y2_ y3_ y4_ : Value) (i : Nat) (hi : i < 5) (v : Value) : ∃ x0 x1 x2 x3 x4 : Value, (∀ j, [x0, x1, x2, x3, x4].getD j undef = if j = i then v else [y0_, y1_, y2_, y3_, y4_].getD j undef) ∧ (#[.int .i64 words, .int .i64 s0, .int .i64 s1, .int .i64 s2, .int .i64 s3, .int .i64 s4, .int .i64 s5, .int .i64 s6, .int .i64 s7, .int .i64 g0, .int .i64 g1, .int .i64 g2, .int .i64 g3, .int .i64 g4, .int .i64 g5, .int .i64 g6, .int .i64 g7, .int .i64 t0, .int .i64 t1, .int .i64 t2, .int .i64 t3, .int .i64 ma, .int .i64 mb, .int .i64 sa, .int .i64 na, .int .i64 sb, .int .i64 nb, .bool both, y0_, y1_, y2_, y3_, y4_] : Array Value).setIfInBounds (28 + i) v = #[.int .i64 words, .int .i64 s0, .int .i64 s1, .int .i64 s2, .int .i64 s3, .int .i64 s4, .int .i64 s5, .int .i64 s6, .int .i64 s7, .int .i64 g0, .int .i64 g1, .int .i64 g2, .int .i64 g3, .int .i64 g4, .int .i64 g5, .int .i64 g6, .int .i64 g7, .int .i64 t0, .int .i64 t1, .int .i64 t2, .int .i64 t3, .int .i64 ma, .int .i64 mb, .int .i64 sa, .int .i64 na, .int .i64 sb, .int .i64 nb, .bool both, x0, x1, x2, x3, x4] := by
 have : i = 0 ∨ i = 1 ∨ i = 2 ∨ i = 3 ∨ i = 4 := by omega
 rcases this with rfl | rfl | rfl | rfl | rfl
 ·refine ⟨v, y1_, y2_, y3_, y4_, fun j => ?_, rfl⟩
  by_cases e : j = 0
  ·rw [if_pos e, e]; rfl
  rw [if_neg e]
  match j, e with
  | 0, e => first | exact absurd rfl e | rfl
  | 1, e => first | exact absurd rfl e | rfl
  | 2, e => first | exact absurd rfl e | rfl
  | 3, e => first | exact absurd rfl e | rfl
  | 4, e => first | exact absurd rfl e | rfl
  | j + 5, _ => rfl
 ·refine ⟨y0_, v, y2_, y3_, y4_, fun j => ?_, rfl⟩
  by_cases e : j = 1
  ·rw [if_pos e, e]; rfl
  rw [if_neg e]
  match j, e with
  | 0, e => first | exact absurd rfl e | rfl
  | 1, e => first | exact absurd rfl e | rfl
  | 2, e => first | exact absurd rfl e | rfl
  | 3, e => first | exact absurd rfl e | rfl
  | 4, e => first | exact absurd rfl e | rfl
  | j + 5, _ => rfl
 ·refine ⟨y0_, y1_, v, y3_, y4_, fun j => ?_, rfl⟩
  by_cases e : j = 2
  ·rw [if_pos e, e]; rfl
  rw [if_neg e]
  match j, e with
  | 0, e => first | exact absurd rfl e | rfl
  | 1, e => first | exact absurd rfl e | rfl
  | 2, e => first | exact absurd rfl e | rfl
  | 3, e => first | exact absurd rfl e | rfl
  | 4, e => first | exact absurd rfl e | rfl
  | j + 5, _ => rfl
 ·refine ⟨y0_, y1_, y2_, v, y4_, fun j => ?_, rfl⟩
  by_cases e : j = 3
  ·rw [if_pos e, e]; rfl
  rw [if_neg e]
  match j, e with
  | 0, e => first | exact absurd rfl e | rfl
  | 1, e => first | exact absurd rfl e | rfl
  | 2, e => first | exact absurd rfl e | rfl
  | 3, e => first | exact absurd rfl e | rfl
  | 4, e => first | exact absurd rfl e | rfl
  | j + 5, _ => rfl
 refine ⟨y0_, y1_, y2_, y3_, v, fun j => ?_, rfl⟩
 by_cases e : j = 4
 ·rw [if_pos e, e]; rfl
 rw [if_neg e]
 match j, e with
 | 0, e => first | exact absurd rfl e | rfl
 | 1, e => first | exact absurd rfl e | rfl
 | 2, e => first | exact absurd rfl e | rfl
 | 3, e => first | exact absurd rfl e | rfl
 | 4, e => first | exact absurd rfl e | rfl
 | j + 5, _ => rfl
set_option maxHeartbeats 8000000 in
set_option maxRecDepth 100000 in
theorem twinR (words s0 s1 s2 s3 s4 s5 s6 s7 g0 g1 g2 g3 g4 g5 g6 g7 t0 t1 t2 t3 ma mb sa na sb nb : Int) (both : Bool) (h0 h1 h2 h3 h4 : Value) (A : Nat → Option Addr) (c : Nat → Nat) (L : Nat → List S42) (w : World) (hH : ∀ j, j < 5 → [h0, h1, h2, h3, h4].getD j undef = .slice (A j) (L j).length (c j) ∧ Kd.C k42 w (A j) (L j).length (L j) ∧ (L j).length ≤ c j ∧ (L j).length ≤ 8796093021952) :
  Calls Try.prog 4 #[.agg #[.int .i64 words, .int .i64 s0, .int .i64 s1, .int .i64 s2, .int .i64 s3, .int .i64 s4, .int .i64 s5, .int .i64 s6, .int .i64 s7, .int .i64 g0, .int .i64 g1, .int .i64 g2, .int .i64 g3, .int .i64 g4, .int .i64 g5, .int .i64 g6, .int .i64 g7, .int .i64 t0, .int .i64 t1, .int .i64 t2, .int .i64 t3, .int .i64 ma, .int .i64 mb, .int .i64 sa, .int .i64 na, .int .i64 sb, .int .i64 nb, .bool both, h0, h1, h2, h3, h4]] w fun e w' => ∃ y0_ y1_ y2_ y3_ y4_ : Value, e = .returned (.agg #[.int .i64 words, .int .i64 s0, .int .i64 s1, .int .i64 s2, .int .i64 s3, .int .i64 s4, .int .i64 s5, .int .i64 s6, .int .i64 s7, .int .i64 g0, .int .i64 g1, .int .i64 g2, .int .i64 g3, .int .i64 g4, .int .i64 g5, .int .i64 g6, .int .i64 g7, .int .i64 t0, .int .i64 t1, .int .i64 t2, .int .i64 t3, .int .i64 ma, .int .i64 mb, .int .i64 sa, .int .i64 na, .int .i64 sb, .int .i64 nb, .bool both, y0_, y1_, y2_, y3_, y4_]) ∧ (∀ j, j < 5 → TwR w.heap.size (L j) ([y0_, y1_, y2_, y3_, y4_].getD j undef) w') ∧ Below w.heap.size w w' := by
 have n0_ := blk_alloc (heap_alloc_new w (.cells #[.int .i64 words, .int .i64 s0, .int .i64 s1, .int .i64 s2, .int .i64 s3, .int .i64 s4, .int .i64 s5, .int .i64 s6, .int .i64 s7, .int .i64 g0, .int .i64 g1, .int .i64 g2, .int .i64 g3, .int .i64 g4, .int .i64 g5, .int .i64 g6, .int .i64 g7, .int .i64 t0, .int .i64 t1, .int .i64 t2, .int .i64 t3, .int .i64 ma, .int .i64 mb, .int .i64 sa, .int .i64 na, .int .i64 sb, .int .i64 nb, .bool both, h0, h1, h2, h3, h4] 31)) (.cells #[.int .i64 0, .int .i64 0, .int .i64 0, .int .i64 0, .int .i64 0, .int .i64 0, .int .i64 0, .int .i64 0, .int .i64 0, .int .i64 0, .int .i64 0, .int .i64 0, .int .i64 0, .int .i64 0, .int .i64 0, .int .i64 0, .int .i64 0, .int .i64 0, .int .i64 0, .int .i64 0, .int .i64 0, .int .i64 0, .int .i64 0, .int .i64 0, .int .i64 0, .int .i64 0, .int .i64 0, .bool false, .slice none 0 0, .slice none 0 0, .slice none 0 0, .slice none 0 0, .slice none 0 0] 31)
 have n1_ := heap_alloc_new (w.alloc (.cells #[.int .i64 words, .int .i64 s0, .int .i64 s1, .int .i64 s2, .int .i64 s3, .int .i64 s4, .int .i64 s5, .int .i64 s6, .int .i64 s7, .int .i64 g0, .int .i64 g1, .int .i64 g2, .int .i64 g3, .int .i64 g4, .int .i64 g5, .int .i64 g6, .int .i64 g7, .int .i64 t0, .int .i64 t1, .int .i64 t2, .int .i64 t3, .int .i64 ma, .int .i64 mb, .int .i64 sa, .int .i64 na, .int .i64 sb, .int .i64 nb, .bool both, h0, h1, h2, h3, h4] 31)) (.cells #[.int .i64 0, .int .i64 0, .int .i64 0, .int .i64 0, .int .i64 0, .int .i64 0, .int .i64 0, .int .i64 0, .int .i64 0, .int .i64 0, .int .i64 0, .int .i64 0, .int .i64 0, .int .i64 0, .int .i64 0, .int .i64 0, .int .i64 0, .int .i64 0, .int .i64 0, .int .i64 0, .int .i64 0, .int .i64 0, .int .i64 0, .int .i64 0, .int .i64 0, .int .i64 0, .int .i64 0, .bool false, .slice none 0 0, .slice none 0 0, .slice none 0 0, .slice none 0 0, .slice none 0 0] 31)
 simp only [World.size_alloc] at n1_
 have HE := Aside0.mk (And.intro n0_ n1_)
 have HB := Aside0.mk (below_alloc (below_alloc (Below.refl w.heap.size w) (.cells #[.int .i64 words, .int .i64 s0, .int .i64 s1, .int .i64 s2, .int .i64 s3, .int .i64 s4, .int .i64 s5, .int .i64 s6, .int .i64 s7, .int .i64 g0, .int .i64 g1, .int .i64 g2, .int .i64 g3, .int .i64 g4, .int .i64 g5, .int .i64 g6, .int .i64 g7, .int .i64 t0, .int .i64 t1, .int .i64 t2, .int .i64 t3, .int .i64 ma, .int .i64 mb, .int .i64 sa, .int .i64 na, .int .i64 sb, .int .i64 nb, .bool both, h0, h1, h2, h3, h4] 31)) (.cells #[.int .i64 0, .int .i64 0, .int .i64 0, .int .i64 0, .int .i64 0, .int .i64 0, .int .i64 0, .int .i64 0, .int .i64 0, .int .i64 0, .int .i64 0, .int .i64 0, .int .i64 0, .int .i64 0, .int .i64 0, .int .i64 0, .int .i64 0, .int .i64 0, .int .i64 0, .int .i64 0, .int .i64 0, .int .i64 0, .int .i64 0, .int .i64 0, .int .i64 0, .int .i64 0, .int .i64 0, .bool false, .slice none 0 0, .slice none 0 0, .slice none 0 0, .slice none 0 0, .slice none 0 0] 31))
 have HHH := Aside0.mk hH
 clear hH n0_ n1_
 go_enter Try.func4, Try.ntmps4
 go_upto_region 1 with (fail)
 generalize (w.alloc (.cells #[.int .i64 words, .int .i64 s0, .int .i64 s1, .int .i64 s2, .int .i64 s3, .int .i64 s4, .int .i64 s5, .int .i64 s6, .int .i64 s7, .int .i64 g0, .int .i64 g1, .int .i64 g2, .int .i64 g3, .int .i64 g4, .int .i64 g5, .int .i64 g6, .int .i64 g7, .int .i64 t0, .int .i64 t1, .int .i64 t2, .int .i64 t3, .int .i64 ma, .int .i64 mb, .int .i64 sa, .int .i64 na, .int .i64 sb, .int .i64 nb, .bool both, h0, h1, h2, h3, h4] 31)).alloc (.cells #[.int .i64 0, .int .i64 0, .int .i64 0, .int .i64 0, .int .i64 0, .int .i64 0, .int .i64 0, .int .i64 0, .int .i64 0, .int .i64 0, .int .i64 0, .int .i64 0, .int .i64 0, .int .i64 0, .int .i64 0, .int .i64 0, .int .i64 0, .int .i64 0, .int .i64 0, .int .i64 0, .int .i64 0, .int .i64 0, .int .i64 0, .int .i64 0, .int .i64 0, .int .i64 0, .int .i64 0, .bool false, .slice none 0 0, .slice none 0 0, .slice none 0 0, .slice none 0 0, .slice none 0 0] 31) = w1 at HE HB ⊢
 go_wp2
 go_loopg [3] 5 (fun kq v3 w' => ∃ (i : Nat) (y0_ y1_ y2_ y3_ y4_ : Value), v3 = .int .i64 (i : Int) ∧ Aside0 (kq + i = 5) ∧ Aside0 ((∀ j, j < i → TwR w.heap.size (L j) ([y0_, y1_, y2_, y3_, y4_].getD j undef) w') ∧ ∀ j, i ≤ j → [y0_, y1_, y2_, y3_, y4_].getD j undef = [h0, h1, h2, h3, h4].getD j undef) ∧ Aside0 (w'.heap[w.heap.size]? = some (.cells #[.int .i64 words, .int .i64 s0, .int .i64 s1, .int .i64 s2, .int .i64 s3, .int .i64 s4, .int .i64 s5, .int .i64 s6, .int .i64 s7, .int .i64 g0, .int .i64 g1, .int .i64 g2, .int .i64 g3, .int .i64 g4, .int .i64 g5, .int .i64 g6, .int .i64 g7, .int .i64 t0, .int .i64 t1, .int .i64 t2, .int .i64 t3, .int .i64 ma, .int .i64 mb, .int .i64 sa, .int .i64 na, .int .i64 sb, .int .i64 nb, .bool both, y0_, y1_, y2_, y3_, y4_] 31 (0, 0)) ∧ w'.heap[w.heap.size + 1]? = some (.cells #[.int .i64 0, .int .i64 0, .int .i64 0, .int .i64 0, .int .i64 0, .int .i64 0, .int .i64 0, .int .i64 0, .int .i64 0, .int .i64 0, .int .i64 0, .int .i64 0, .int .i64 0, .int .i64 0, .int .i64 0, .int .i64 0, .int .i64 0, .int .i64 0, .int .i64 0, .int .i64 0, .int .i64 0, .int .i64 0, .int .i64 0, .int .i64 0, .int .i64 0, .int .i64 0, .int .i64 0, .bool false, .slice none 0 0, .slice none 0 0, .slice none 0 0, .slice none 0 0, .slice none 0 0] 31 (0, 0))) ∧ Aside0 (Below w.heap.size w w'))
 case atStart => exact ⟨0, h0, h1, h2, h3, h4, rfl, ⟨rfl⟩, ⟨fun j hj => by omega, fun j _ => rfl⟩, HE, HB⟩
 case round =>
  clear HE HB
  obtain ⟨i, y0_, y1_, y2_, y3_, y4_, rfl, HI, HU, HE, HB⟩ := hrel
  by_cases hi : i < 5
  ·have d1 : decide ((i : Int) < 5) = true := decide_eq_true (by omega)
   have q1 : 0 ≤ (i : Int) ∧ (i : Int) < 5 := by omega
   have HI5 := Aside0.mk hi
   have hh := HHH.out i hi
   have hcl : wr.cell? ⟨w.heap.size, 28 + i, none⟩ = some (.slice (A i) (L i).length (c i)) := by
    rw [blk_cell HE.out.1 (28 + i), ← hh.1, ← HU.out.2 i (Nat.le_refl _)]
    have : i = 0 ∨ i = 1 ∨ i = 2 ∨ i = 3 ∨ i = 4 := by omega
    rcases this with rfl | rfl | rfl | rfl | rfl <;> rfl
   have HKC := Aside0.mk (Kd.C_below hh.2.1 HB.out)
   have HLN := Aside0.mk hh.2.2.2
   have HWR := Aside0.mk (show wrap64 ((i : Int) + 1) = ((i + 1 : Nat) : Int) by
    unfold wrap64
    omega)
   obtain ⟨k1_, rfl⟩ : ∃ k1_, gk = k1_ + 1 := ⟨gk - 1, by have := HI.out; omega⟩
   clear hi hh
   go_upto_region 6 with ((with_reducible refine gate_builtin (b := .append) (xs := #[.tmp 9, .tmp 13]) rfl ?_); at_builtin; refine Kd.R_append_rows k42 (w0 := wr) wr.heap.size rfl (.tmp 9) (.tmp 13) 28 42 (.agg #[.int .i64 0, .int .i64 0]) 16 rfl Try.underlying28 info42 rfl (by decide) (by omega) (.slice none 0 0) ([] : List S42) (L i) _ _ _ (fun k_ => wr.heap.size ≤ k_) (fun _ => False) rfl rfl ?aO ?aR (fun _ _ h => h) (fun _ h => h.elim) ?aF ?aB ?aS ?aL ?_; (case aR => exact HKC.out); (case aB => exact Below.refl _ _); (case aF => exact (fun k_ hk => hk)); (case aO => exact Kd.R_nil _ _ _ _ _); (case aS => exact Nat.le_refl _); (case aL => have h := HLN.out; simp only [List.length_nil]; omega); intro v1 w5 ho hb hg hat; rw [List.nil_append] at ho; obtain ⟨A1, c1, e1⟩ := Kd.R_slice ho; subst e1; have HO := Aside0.mk ho; have HB5 := Aside0.mk hb; clear ho hb hg hat)
   clear hcl HKC
   go_upto_region 7 with ((with_reducible refine gate_builtin (b := .append) (xs := #[.tmp 15, .tmp 17]) rfl ?_); at_builtin; refine Kd.R_append k42 (w0 := wr) wr.heap.size rfl (.tmp 15) (.tmp 17) 28 42 (.agg #[.int .i64 0, .int .i64 0]) 16 rfl Try.underlying28 info42 rfl (by decide) (by omega) (.slice A1 (L i).length c1) (L i) mk42 [.int .i64 7777, .int .i64 7777] (fun k_ => wr.heap.size ≤ k_) (fun _ => False) rfl rfl ?aP (fun _ hk => hk.elim) ?aF ?aO ?aB ?aS ?aL ?_; (case aP => exact k42_mkM _ _ _ _); (case aB => exact HB5.out); (case aF => exact (fun k_ hk => Nat.le_trans HB5.out.size hk)); (case aO => exact HO.out); (case aS => exact HB5.out.size); (case aL => have h := HLN.out; omega); intro v2 w6 ho hb hg hat; obtain ⟨A2, c2, e2⟩ := Kd.R_slice ho; rw [List.length_append] at e2; have e3 : v2 = .slice A2 ((L i).length + 1) c2 := e2; clear e2; subst e3; have HO2 := Aside0.mk ho; have HB6 := Aside0.mk hb; clear HO HB5 ho hb hg hat)
   have hE1 := (HB6.out.block _ (blk_lt HE.out.1)).trans HE.out.1
   have hE2 := (HB6.out.block _ (blk_lt HE.out.2)).trans HE.out.2
   have HB7 := Aside0.mk (below_then HB.out HB.out.size HB6.out)
   have HT := Aside0.mk (show TwR w.heap.size (L i) (.slice A2 (L i).length c2) w6 from ⟨A2, c2, rfl, Kd.R_mono (Kd.R_lower HO2.out HB.out.size) (fun k hk => Nat.le_trans HB.out.size hk)⟩)
   have hcap := (Kd.R_reads' HO2.out).2.1
   obtain ⟨n2, hn2⟩ : ∃ n2, n2 = (L i).length + 1 := ⟨_, rfl⟩
   rw [← hn2]
   rw [← hn2] at hcap
   obtain ⟨iz, hiz⟩ := info42s
   have hcut := cut_to (P := Try.prog) 28 42 .i64 Try.underlying28 hiz A2 n2 c2 ((L i).length : Int) (by omega) (by omega) hcap
   rw [Int.toNat_natCast] at hcut
   have hwl : wrap64 ((n2 : Int) - 1) = ((L i).length : Int) := by
    have h := HLN.out
    unfold wrap64
    omega
   obtain ⟨uo, huo⟩ : ∃ uo, w6.cell? ⟨w.heap.size, 28 + i, none⟩ = some uo := by
    rw [blk_cell hE1 (28 + i)]
    have hi := HI5.out
    have : i = 0 ∨ i = 1 ∨ i = 2 ∨ i = 3 ∨ i = 4 := by omega
    rcases this with rfl | rfl | rfl | rfl | rfl <;> exact ⟨_, rfl⟩
   have hfz := blk_frozen hE1 (28 + i)
   obtain ⟨x0, x1, x2, x3, x4, hx, hxa⟩ := hands_set words s0 s1 s2 s3 s4 s5 s6 s7 g0 g1 g2 g3 g4 g5 g6 g7 t0 t1 t2 t3 ma mb sa na sb nb both y0_ y1_ y2_ y3_ y4_ i HI5.out (.slice A2 (L i).length c2)
   have hS1 := blk_set hE1 (28 + i) (.slice A2 (L i).length c2)
   rw [hxa] at hS1
   have HE2 := Aside0.mk (And.intro hS1 ((Below.heap_setCell w6 ⟨w.heap.size, 28 + i, none⟩ (.slice A2 (L i).length c2) (w.heap.size + 1) (by show w.heap.size + 1 ≠ w.heap.size; omega)).trans hE2))
   have HU2 := Aside0.mk (show (∀ j, j < i + 1 → TwR w.heap.size (L j) ([x0, x1, x2, x3, x4].getD j undef) (w6.setCell ⟨w.heap.size, 28 + i, none⟩ (.slice A2 (L i).length c2))) ∧ ∀ j, i + 1 ≤ j → [x0, x1, x2, x3, x4].getD j undef = [h0, h1, h2, h3, h4].getD j undef from ⟨fun j hj => by
    rw [hx j]
    by_cases e : j = i
    ·rw [if_pos e, e]
     exact HT.out.set hE1 _ _
    ·rw [if_neg e]
     exact ((HU.out.1 j (by omega)).below HB6.out).set hE1 _ _, fun j hj => by
    rw [hx j, if_neg (by omega)]
    exact HU.out.2 j (by omega)⟩)
   have HB8 := Aside0.mk (below_set (j := 28 + i) (v := .slice A2 (L i).length c2) HB7.out (Nat.le_refl _))
   clear hE1 hE2 hS1 hxa hx hn2 hcap hiz HE HU HB HO2 HB6 HB7 HT
   go_wp2
   go_roundg k1_
   case measure => omega
   case rel => exact ⟨i + 1, x0, x1, x2, x3, x4, (by first | rfl | (rw [HWR.out])), ⟨by have := HI.out; omega⟩, HU2, HE2, HB8⟩
  have d1 : decide ((i : Int) < 5) = false := decide_eq_false (by omega)
  have HI5 := Aside0.mk (show 5 ≤ i by omega)
  obtain ⟨A0_, c0_, e0_, _⟩ := HU.out.1 0 (by omega)
  have e0_ : y0_ = .slice A0_ (L 0).length c0_ := e0_
  subst e0_
  obtain ⟨A1_, c1_, e1_, _⟩ := HU.out.1 1 (by omega)
  have e1_ : y1_ = .slice A1_ (L 1).length c1_ := e1_
  subst e1_
  obtain ⟨A2_, c2_, e2_, _⟩ := HU.out.1 2 (by omega)
  have e2_ : y2_ = .slice A2_ (L 2).length c2_ := e2_
  subst e2_
  obtain ⟨A3_, c3_, e3_, _⟩ := HU.out.1 3 (by omega)
  have e3_ : y3_ = .slice A3_ (L 3).length c3_ := e3_
  subst e3_
  obtain ⟨A4_, c4_, e4_, _⟩ := HU.out.1 4 (by omega)
  have e4_ : y4_ = .slice A4_ (L 4).length c4_ := e4_
  subst e4_
  clear hi
  have HR1 := Aside0.mk (setRow_heap wr (w.heap.size + 1) _ #[.int .i64 words, .int .i64 s0, .int .i64 s1, .int .i64 s2, .int .i64 s3, .int .i64 s4, .int .i64 s5, .int .i64 s6, .int .i64 s7, .int .i64 g0, .int .i64 g1, .int .i64 g2, .int .i64 g3, .int .i64 g4, .int .i64 g5, .int .i64 g6, .int .i64 g7, .int .i64 t0, .int .i64 t1, .int .i64 t2, .int .i64 t3, .int .i64 ma, .int .i64 mb, .int .i64 sa, .int .i64 na, .int .i64 sb, .int .i64 nb, .bool both, .slice A0_ (L 0).length c0_, .slice A1_ (L 1).length c1_, .slice A2_ (L 2).length c2_, .slice A3_ (L 3).length c3_, .slice A4_ (L 4).length c4_] 31 (0, 0) HE.out.2)
  have HR2 := Aside0.mk (below_setRow (g := w.heap.size + 1) HB.out (by omega) #[.int .i64 words, .int .i64 s0, .int .i64 s1, .int .i64 s2, .int .i64 s3, .int .i64 s4, .int .i64 s5, .int .i64 s6, .int .i64 s7, .int .i64 g0, .int .i64 g1, .int .i64 g2, .int .i64 g3, .int .i64 g4, .int .i64 g5, .int .i64 g6, .int .i64 g7, .int .i64 t0, .int .i64 t1, .int .i64 t2, .int .i64 t3, .int .i64 ma, .int .i64 mb, .int .i64 sa, .int .i64 na, .int .i64 sb, .int .i64 nb, .bool both, .slice A0_ (L 0).length c0_, .slice A1_ (L 1).length c1_, .slice A2_ (L 2).length c2_, .slice A3_ (L 3).length c3_, .slice A4_ (L 4).length c4_])
  have HR3 := Aside0.mk (show ∀ j, j < 5 → TwR w.heap.size (L j) ([.slice A0_ (L 0).length c0_, .slice A1_ (L 1).length c1_, .slice A2_ (L 2).length c2_, .slice A3_ (L 3).length c3_, .slice A4_ (L 4).length c4_].getD j undef) (wr.setRow (w.heap.size + 1) #[.int .i64 words, .int .i64 s0, .int .i64 s1, .int .i64 s2, .int .i64 s3, .int .i64 s4, .int .i64 s5, .int .i64 s6, .int .i64 s7, .int .i64 g0, .int .i64 g1, .int .i64 g2, .int .i64 g3, .int .i64 g4, .int .i64 g5, .int .i64 g6, .int .i64 g7, .int .i64 t0, .int .i64 t1, .int .i64 t2, .int .i64 t3, .int .i64 ma, .int .i64 mb, .int .i64 sa, .int .i64 na, .int .i64 sb, .int .i64 nb, .bool both, .slice A0_ (L 0).length c0_, .slice A1_ (L 1).length c1_, .slice A2_ (L 2).length c2_, .slice A3_ (L 3).length c3_, .slice A4_ (L 4).length c4_]) from fun j hj => (HU.out.1 j (by have := HI5.out; omega)).row HE.out.2 _)
  have hsz31 : (#[.int .i64 0, .int .i64 0, .int .i64 0, .int .i64 0, .int .i64 0, .int .i64 0, .int .i64 0, .int .i64 0, .int .i64 0, .int .i64 0, .int .i64 0, .int .i64 0, .int .i64 0, .int .i64 0, .int .i64 0, .int .i64 0, .int .i64 0, .int .i64 0, .int .i64 0, .int .i64 0, .int .i64 0, .int .i64 0, .int .i64 0, .int .i64 0, .int .i64 0, .int .i64 0, .int .i64 0, .bool false, .slice none 0 0, .slice none 0 0, .slice none 0 0, .slice none 0 0, .slice none 0 0] : Array Value).size = (#[.int .i64 words, .int .i64 s0, .int .i64 s1, .int .i64 s2, .int .i64 s3, .int .i64 s4, .int .i64 s5, .int .i64 s6, .int .i64 s7, .int .i64 g0, .int .i64 g1, .int .i64 g2, .int .i64 g3, .int .i64 g4, .int .i64 g5, .int .i64 g6, .int .i64 g7, .int .i64 t0, .int .i64 t1, .int .i64 t2, .int .i64 t3, .int .i64 ma, .int .i64 mb, .int .i64 sa, .int .i64 na, .int .i64 sb, .int .i64 nb, .bool both, .slice A0_ (L 0).length c0_, .slice A1_ (L 1).length c1_, .slice A2_ (L 2).length c2_, .slice A3_ (L 3).length c3_, .slice A4_ (L 4).length c4_] : Array Value).size := rfl
  have hone : (#[.int .i64 words, .int .i64 s0, .int .i64 s1, .int .i64 s2, .int .i64 s3, .int .i64 s4, .int .i64 s5, .int .i64 s6, .int .i64 s7, .int .i64 g0, .int .i64 g1, .int .i64 g2, .int .i64 g3, .int .i64 g4, .int .i64 g5, .int .i64 g6, .int .i64 g7, .int .i64 t0, .int .i64 t1, .int .i64 t2, .int .i64 t3, .int .i64 ma, .int .i64 mb, .int .i64 sa, .int .i64 na, .int .i64 sb, .int .i64 nb, .bool both, .slice A0_ (L 0).length c0_, .slice A1_ (L 1).length c1_, .slice A2_ (L 2).length c2_, .slice A3_ (L 3).length c3_, .slice A4_ (L 4).length c4_] : Array Value).all (·.oneCell') = true := by simp [Value.oneCell']
  go_wp2_with (first | ((with_reducible refine wpList_load_row rfl 31 (.tmp 1) rfl w.heap.size rfl _ _ _ _ HE.out.1 Try.underlying31 rfl (by kernel_rfl) ?_)) | ((with_reducible refine wpList_store_row rfl 31 (.tmp 2) (.tmp 27) rfl (w.heap.size + 1) #[.int .i64 words, .int .i64 s0, .int .i64 s1, .int .i64 s2, .int .i64 s3, .int .i64 s4, .int .i64 s5, .int .i64 s6, .int .i64 s7, .int .i64 g0, .int .i64 g1, .int .i64 g2, .int .i64 g3, .int .i64 g4, .int .i64 g5, .int .i64 g6, .int .i64 g7, .int .i64 t0, .int .i64 t1, .int .i64 t2, .int .i64 t3, .int .i64 ma, .int .i64 mb, .int .i64 sa, .int .i64 na, .int .i64 sb, .int .i64 nb, .bool both, .slice A0_ (L 0).length c0_, .slice A1_ (L 1).length c1_, .slice A2_ (L 2).length c2_, .slice A3_ (L 3).length c3_, .slice A4_ (L 4).length c4_] rfl rfl 31 _ HE.out.2 (by kernel_rfl) hsz31 hone ?_)))
  refine bodyPost_ret (results_cell_row rfl _ _ (w.heap.size + 1) 31 _ (0, 0) _ ?_ HR1.out Try.underlying31 rfl (by kernel_rfl)) rfl ?_
  ·rfl
  exact ⟨_, _, _, _, _, rfl, HR3.out, HR2.out⟩
end Twin
section Same
theorem cut_more (t e : TypeId) (kh : IntKind) {i : TypeInfo} (ht : Try.prog.underlying t = some (.slice e)) (hi : Try.prog.info? e = some i) (A : Option Addr) (n c : Nat) (hc : n + 1 ≤ c) :
  ∀ W : World, (Instr.slice t (.slice A n c) none (some (.int kh ((n : Int) + 1))) none).run Try.prog W = .ok (.slice A (n + 1) c) W := by
 intro W
 have hel : Try.prog.elem t = e := by simp [Program.elem, ht]
 have hu : Try.prog.underlying t = some (.slice (Try.prog.elem t)) := by rw [hel]; exact ht
 rw [run_slice_h W t A n c hu kh ((n : Int) + 1) (by omega) (by omega), hel]
 have ha : (A.map fun x => x.add 0) = A := by cases A <;> simp [Addr.add]
 simp [sizeOf, typeInfo, hi, sliced, Result.andThen, ha]
set_option maxRecDepth 100000 in
theorem items22 (d : Nat) (w : World) (xs : Array Value) : ∀ is : List Nat, (∀ i ∈ is, ∃ x, xs[i]? = some (.int .i64 x)) → (Op.eqItems (d + 1) 22 1 xs xs is).run Try.prog w = .ok true w
 | [], _ => by simp [Op.eqItems]
 | i :: is, h => by
  obtain ⟨x, hx⟩ := h i (List.mem_cons_self)
  have hp : (part 22 xs (i * 1)).run Try.prog w = .ok (.int .i64 x) w := run_part_plain w (by kernel_rfl) (by rw [Nat.mul_one]; exact hx)
  have he : (Op.equalIn (d + 1) 22 (.int .i64 x) (.int .i64 x)).run Try.prog w = .ok true w := by
   rw [run_equalIn_int w d 22 .i64 .i64 x x Try.underlying22]
   simp
  simp only [Op.eqItems, Sem.run_bind, hp, he, Result.andThen_ok, Bool.not_true, Bool.false_eq_true, if_false]
  exact items22 d w xs is (fun j hj => h j (List.mem_cons_of_mem _ hj))
theorem eqi (t : TypeId) (ht : Try.prog.underlying t = some (.int .i64)) (d : Nat) (w : World) (x : Int) : (Op.equalIn (d + 1) t (.int .i64 x) (.int .i64 x)).run Try.prog w = .ok true w := by
 rw [run_equalIn_int w d t .i64 .i64 x x ht]
 simp
set_option maxRecDepth 100000 in
theorem eq23 (d : Nat) (w : World) (x0 x1 x2 x3 x4 x5 x6 x7 : Int) : (Op.equalIn (d + 2) 23 (.agg #[.int .i64 x0, .int .i64 x1, .int .i64 x2, .int .i64 x3, .int .i64 x4, .int .i64 x5, .int .i64 x6, .int .i64 x7]) (.agg #[.int .i64 x0, .int .i64 x1, .int .i64 x2, .int .i64 x3, .int .i64 x4, .int .i64 x5, .int .i64 x6, .int .i64 x7])).run Try.prog w = .ok true w := by
 have hi : (Try.prog.info? 22).isSome = true := by kernel_rfl
 obtain ⟨i, hi⟩ := Option.isSome_iff_exists.mp hi
 have hc : Try.prog.cellsOf 22 = 1 := by kernel_rfl
 rw [run_equalIn_array w (d + 1) _ _ Try.underlying23 hi, hc]
 refine items22 d w _ _ (fun j hj => ?_)
 have hj8 : j < 8 := List.mem_range.mp hj
 have : j = 0 ∨ j = 1 ∨ j = 2 ∨ j = 3 ∨ j = 4 ∨ j = 5 ∨ j = 6 ∨ j = 7 := by omega
 rcases this with rfl | rfl | rfl | rfl | rfl | rfl | rfl | rfl <;> exact ⟨_, rfl⟩
set_option maxRecDepth 100000 in
theorem eq24 (d : Nat) (w : World) (x0 x1 x2 x3 : Int) : (Op.equalIn (d + 2) 24 (.agg #[.int .i64 x0, .int .i64 x1, .int .i64 x2, .int .i64 x3]) (.agg #[.int .i64 x0, .int .i64 x1, .int .i64 x2, .int .i64 x3])).run Try.prog w = .ok true w := by
 have hi : (Try.prog.info? 22).isSome = true := by kernel_rfl
 obtain ⟨i, hi⟩ := Option.isSome_iff_exists.mp hi
 have hc : Try.prog.cellsOf 22 = 1 := by kernel_rfl
 rw [run_equalIn_array w (d + 1) _ _ Try.underlying24 hi, hc]
 refine items22 d w _ _ (fun j hj => ?_)
 have hj8 : j < 4 := List.mem_range.mp hj
 have : j = 0 ∨ j = 1 ∨ j = 2 ∨ j = 3 := by omega
 rcases this with rfl | rfl | rfl | rfl <;> exact ⟨_, rfl⟩
theorem eq27 (d : Nat) (w : World) (x0 x1 x2 x3 : Int) : (Op.equalIn (d + 2) 27 (.agg #[.int .i64 x0, .int .i64 x1, .int .i64 x2, .int .i64 x3]) (.agg #[.int .i64 x0, .int .i64 x1, .int .i64 x2, .int .i64 x3])).run Try.prog w = .ok true w := by
 refine eqA_of Try.underlying27 (by kernel_rfl) ?_
 refine eqf_cons (r := true) (s := true) (by rfl) (run_part_plain w (by kernel_rfl) rfl) (run_part_plain w (by kernel_rfl) rfl) (eqi _ Try.underlying3 d w x0) ?_
 refine eqf_cons (r := true) (s := true) (by rfl) (run_part_plain w (by kernel_rfl) rfl) (run_part_plain w (by kernel_rfl) rfl) (eqi _ Try.underlying25 d w x1) ?_
 refine eqf_cons (r := true) (s := true) (by rfl) (run_part_plain w (by kernel_rfl) rfl) (run_part_plain w (by kernel_rfl) rfl) (eqi _ Try.underlying3 d w x2) ?_
 exact eqf_last (by rfl) (run_part_plain w (by kernel_rfl) rfl) (run_part_plain w (by kernel_rfl) rfl) (eqi _ Try.underlying25 d w x3)
theorem eq42 (d : Nat) (w : World) (x0 x1 : Int) : (Op.equalIn (d + 2) 42 (.agg #[.int .i64 x0, .int .i64 x1]) (.agg #[.int .i64 x0, .int .i64 x1])).run Try.prog w = .ok true w := by
 refine eqA_of Try.underlying42 (by kernel_rfl) ?_
 refine eqf_cons (r := true) (s := true) (by rfl) (run_part_plain w (by kernel_rfl) rfl) (run_part_plain w (by kernel_rfl) rfl) (eqi _ Try.underlying3 d w x0) ?_
 exact eqf_last (by rfl) (run_part_plain w (by kernel_rfl) rfl) (run_part_plain w (by kernel_rfl) rfl) (eqi _ Try.underlying2 d w x1)
theorem neq23 (x0 x1 x2 x3 x4 x5 x6 x7 : Int) (w : World) : (binOp .neq 23 (.agg #[.int .i64 x0, .int .i64 x1, .int .i64 x2, .int .i64 x3, .int .i64 x4, .int .i64 x5, .int .i64 x6, .int .i64 x7]) (.agg #[.int .i64 x0, .int .i64 x1, .int .i64 x2, .int .i64 x3, .int .i64 x4, .int .i64 x5, .int .i64 x6, .int .i64 x7])).run Try.prog w = .ok (.bool false) w := by
 simp only [binOp]
 simp [Op.equal, Op.maxDepth, eq23 9998]
theorem neq24 (x0 x1 x2 x3 : Int) (w : World) : (binOp .neq 24 (.agg #[.int .i64 x0, .int .i64 x1, .int .i64 x2, .int .i64 x3]) (.agg #[.int .i64 x0, .int .i64 x1, .int .i64 x2, .int .i64 x3])).run Try.prog w = .ok (.bool false) w := by
 simp only [binOp]
 simp [Op.equal, Op.maxDepth, eq24 9998]
theorem neq27 (x0 x1 x2 x3 : Int) (w : World) : (binOp .neq 27 (.agg #[.int .i64 x0, .int .i64 x1, .int .i64 x2, .int .i64 x3]) (.agg #[.int .i64 x0, .int .i64 x1, .int .i64 x2, .int .i64 x3])).run Try.prog w = .ok (.bool false) w := by
 simp only [binOp]
 simp [Op.equal, Op.maxDepth, eq27 9998]
theorem neq42 (x0 x1 : Int) (w : World) : (binOp .neq 42 (.agg #[.int .i64 x0, .int .i64 x1]) (.agg #[.int .i64 x0, .int .i64 x1])).run Try.prog w = .ok (.bool false) w := by
 simp only [binOp]
 simp [Op.equal, Op.maxDepth, eq42 9998]
theorem same_ins (l : List S42) (hm : l.length ≤ 8796093021952) : ∀ (d k i : Nat), i + d = l.length → d < k → sluicelaw11_sameIns.l0 k l l (i : Int) = some true
 | d, 0, i, _, hk => by omega
 | 0, k + 1, i, hi, _ => by
  unfold sluicelaw11_sameIns.l0
  rw [if_neg (by omega)]
 | d + 1, k + 1, i, hi, hk => by
  have hw : wrap64 ((i : Int) + 1) = ((i + 1 : Nat) : Int) := by
   unfold wrap64
   omega
  unfold sluicelaw11_sameIns.l0
  rw [if_pos (by omega), if_pos (by omega), if_pos (by omega), if_neg (by simp), hw]
  exact same_ins l hm d k (i + 1) (by omega) (by omega)
theorem same_val (l : List S42) (hm : l.length ≤ 8796093021952) : sluicelaw11_sameIns.f 8796093021953 l l = some true := by
 unfold sluicelaw11_sameIns.f
 rw [if_pos rfl]
 exact same_ins l hm l.length 8796093021953 0 (by omega) (by omega)
theorem five {P : Nat → Prop} (h0 : P 0) (h1 : P 1) (h2 : P 2) (h3 : P 3) (h4 : P 4) : ∀ j, j < 5 → P j := fun j hj => by
 have : j = 0 ∨ j = 1 ∨ j = 2 ∨ j = 3 ∨ j = 4 := by omega
 rcases this with rfl | rfl | rfl | rfl | rfl <;> assumption
set_option maxHeartbeats 8000000 in
set_option maxRecDepth 100000 in
theorem sameR (words s0 s1 s2 s3 s4 s5 s6 s7 g0 g1 g2 g3 g4 g5 g6 g7 t0 t1 t2 t3 ma mb sa na sb nb : Int) (both : Bool) (h0 h1 h2 h3 h4 : Value) (y0_ y1_ y2_ y3_ y4_ : Value) (L : Nat → List S42) (w : World) (hT : ∀ j, j < 5 → ∃ (A : Option Addr) (c : Nat), [y0_, y1_, y2_, y3_, y4_].getD j undef = .slice A (L j).length c ∧ (L j).length ≤ c ∧ Kd.C k42 w A (L j).length (L j)) (hH : ∀ j, j < 5 → ∃ (A : Option Addr) (c : Nat), [h0, h1, h2, h3, h4].getD j undef = .slice A (L j).length c ∧ (L j).length ≤ c ∧ Kd.C k42 w A (L j).length (L j)) (hm : ∀ j, j < 5 → (L j).length ≤ 8796093021952) :
  Calls Try.prog 14 #[.agg #[.int .i64 words, .int .i64 s0, .int .i64 s1, .int .i64 s2, .int .i64 s3, .int .i64 s4, .int .i64 s5, .int .i64 s6, .int .i64 s7, .int .i64 g0, .int .i64 g1, .int .i64 g2, .int .i64 g3, .int .i64 g4, .int .i64 g5, .int .i64 g6, .int .i64 g7, .int .i64 t0, .int .i64 t1, .int .i64 t2, .int .i64 t3, .int .i64 ma, .int .i64 mb, .int .i64 sa, .int .i64 na, .int .i64 sb, .int .i64 nb, .bool both, y0_, y1_, y2_, y3_, y4_], .agg #[.int .i64 words, .int .i64 s0, .int .i64 s1, .int .i64 s2, .int .i64 s3, .int .i64 s4, .int .i64 s5, .int .i64 s6, .int .i64 s7, .int .i64 g0, .int .i64 g1, .int .i64 g2, .int .i64 g3, .int .i64 g4, .int .i64 g5, .int .i64 g6, .int .i64 g7, .int .i64 t0, .int .i64 t1, .int .i64 t2, .int .i64 t3, .int .i64 ma, .int .i64 mb, .int .i64 sa, .int .i64 na, .int .i64 sb, .int .i64 nb, .bool both, h0, h1, h2, h3, h4]] w fun e w' => e = .returned (.bool true) ∧ Below w.heap.size w w' := by
 have n0_ := blk_alloc (heap_alloc_new w (.cells #[.int .i64 words, .int .i64 s0, .int .i64 s1, .int .i64 s2, .int .i64 s3, .int .i64 s4, .int .i64 s5, .int .i64 s6, .int .i64 s7, .int .i64 g0, .int .i64 g1, .int .i64 g2, .int .i64 g3, .int .i64 g4, .int .i64 g5, .int .i64 g6, .int .i64 g7, .int .i64 t0, .int .i64 t1, .int .i64 t2, .int .i64 t3, .int .i64 ma, .int .i64 mb, .int .i64 sa, .int .i64 na, .int .i64 sb, .int .i64 nb, .bool both, y0_, y1_, y2_, y3_, y4_] 31)) (.cells #[.int .i64 words, .int .i64 s0, .int .i64 s1, .int .i64 s2, .int .i64 s3, .int .i64 s4, .int .i64 s5, .int .i64 s6, .int .i64 s7, .int .i64 g0, .int .i64 g1, .int .i64 g2, .int .i64 g3, .int .i64 g4, .int .i64 g5, .int .i64 g6, .int .i64 g7, .int .i64 t0, .int .i64 t1, .int .i64 t2, .int .i64 t3, .int .i64 ma, .int .i64 mb, .int .i64 sa, .int .i64 na, .int .i64 sb, .int .i64 nb, .bool both, h0, h1, h2, h3, h4] 31)
 have n1_ := heap_alloc_new (w.alloc (.cells #[.int .i64 words, .int .i64 s0, .int .i64 s1, .int .i64 s2, .int .i64 s3, .int .i64 s4, .int .i64 s5, .int .i64 s6, .int .i64 s7, .int .i64 g0, .int .i64 g1, .int .i64 g2, .int .i64 g3, .int .i64 g4, .int .i64 g5, .int .i64 g6, .int .i64 g7, .int .i64 t0, .int .i64 t1, .int .i64 t2, .int .i64 t3, .int .i64 ma, .int .i64 mb, .int .i64 sa, .int .i64 na, .int .i64 sb, .int .i64 nb, .bool both, y0_, y1_, y2_, y3_, y4_] 31)) (.cells #[.int .i64 words, .int .i64 s0, .int .i64 s1, .int .i64 s2, .int .i64 s3, .int .i64 s4, .int .i64 s5, .int .i64 s6, .int .i64 s7, .int .i64 g0, .int .i64 g1, .int .i64 g2, .int .i64 g3, .int .i64 g4, .int .i64 g5, .int .i64 g6, .int .i64 g7, .int .i64 t0, .int .i64 t1, .int .i64 t2, .int .i64 t3, .int .i64 ma, .int .i64 mb, .int .i64 sa, .int .i64 na, .int .i64 sb, .int .i64 nb, .bool both, h0, h1, h2, h3, h4] 31)
 simp only [World.size_alloc] at n1_
 have HE := Aside0.mk (And.intro n0_ n1_)
 have HB := Aside0.mk (below_alloc (below_alloc (Below.refl w.heap.size w) (.cells #[.int .i64 words, .int .i64 s0, .int .i64 s1, .int .i64 s2, .int .i64 s3, .int .i64 s4, .int .i64 s5, .int .i64 s6, .int .i64 s7, .int .i64 g0, .int .i64 g1, .int .i64 g2, .int .i64 g3, .int .i64 g4, .int .i64 g5, .int .i64 g6, .int .i64 g7, .int .i64 t0, .int .i64 t1, .int .i64 t2, .int .i64 t3, .int .i64 ma, .int .i64 mb, .int .i64 sa, .int .i64 na, .int .i64 sb, .int .i64 nb, .bool both, y0_, y1_, y2_, y3_, y4_] 31)) (.cells #[.int .i64 words, .int .i64 s0, .int .i64 s1, .int .i64 s2, .int .i64 s3, .int .i64 s4, .int .i64 s5, .int .i64 s6, .int .i64 s7, .int .i64 g0, .int .i64 g1, .int .i64 g2, .int .i64 g3, .int .i64 g4, .int .i64 g5, .int .i64 g6, .int .i64 g7, .int .i64 t0, .int .i64 t1, .int .i64 t2, .int .i64 t3, .int .i64 ma, .int .i64 mb, .int .i64 sa, .int .i64 na, .int .i64 sb, .int .i64 nb, .bool both, h0, h1, h2, h3, h4] 31))
 have HT := Aside0.mk hT
 have HH := Aside0.mk hH
 have HM := Aside0.mk hm
 clear hT hH hm n0_ n1_
 go_enter Try.func14, Try.ntmps14
 go_upto_region 1 with (fail)
 generalize (w.alloc (.cells #[.int .i64 words, .int .i64 s0, .int .i64 s1, .int .i64 s2, .int .i64 s3, .int .i64 s4, .int .i64 s5, .int .i64 s6, .int .i64 s7, .int .i64 g0, .int .i64 g1, .int .i64 g2, .int .i64 g3, .int .i64 g4, .int .i64 g5, .int .i64 g6, .int .i64 g7, .int .i64 t0, .int .i64 t1, .int .i64 t2, .int .i64 t3, .int .i64 ma, .int .i64 mb, .int .i64 sa, .int .i64 na, .int .i64 sb, .int .i64 nb, .bool both, y0_, y1_, y2_, y3_, y4_] 31)).alloc (.cells #[.int .i64 words, .int .i64 s0, .int .i64 s1, .int .i64 s2, .int .i64 s3, .int .i64 s4, .int .i64 s5, .int .i64 s6, .int .i64 s7, .int .i64 g0, .int .i64 g1, .int .i64 g2, .int .i64 g3, .int .i64 g4, .int .i64 g5, .int .i64 g6, .int .i64 g7, .int .i64 t0, .int .i64 t1, .int .i64 t2, .int .i64 t3, .int .i64 ma, .int .i64 mb, .int .i64 sa, .int .i64 na, .int .i64 sb, .int .i64 nb, .bool both, h0, h1, h2, h3, h4] 31) = w1 at HE HB ⊢
 have fa0 : _ = some (Value.int .i64 words : Value) := blk_cell HE.out.1 0
 have fa1 : _ = some (Value.int .i64 s0 : Value) := blk_cell HE.out.1 1
 have fa2 : _ = some (Value.int .i64 s1 : Value) := blk_cell HE.out.1 2
 have fa3 : _ = some (Value.int .i64 s2 : Value) := blk_cell HE.out.1 3
 have fa4 : _ = some (Value.int .i64 s3 : Value) := blk_cell HE.out.1 4
 have fa5 : _ = some (Value.int .i64 s4 : Value) := blk_cell HE.out.1 5
 have fa6 : _ = some (Value.int .i64 s5 : Value) := blk_cell HE.out.1 6
 have fa7 : _ = some (Value.int .i64 s6 : Value) := blk_cell HE.out.1 7
 have fa8 : _ = some (Value.int .i64 s7 : Value) := blk_cell HE.out.1 8
 have fa9 : _ = some (Value.int .i64 g0 : Value) := blk_cell HE.out.1 9
 have fa10 : _ = some (Value.int .i64 g1 : Value) := blk_cell HE.out.1 10
 have fa11 : _ = some (Value.int .i64 g2 : Value) := blk_cell HE.out.1 11
 have fa12 : _ = some (Value.int .i64 g3 : Value) := blk_cell HE.out.1 12
 have fa13 : _ = some (Value.int .i64 g4 : Value) := blk_cell HE.out.1 13
 have fa14 : _ = some (Value.int .i64 g5 : Value) := blk_cell HE.out.1 14
 have fa15 : _ = some (Value.int .i64 g6 : Value) := blk_cell HE.out.1 15
 have fa16 : _ = some (Value.int .i64 g7 : Value) := blk_cell HE.out.1 16
 have fa17 : _ = some (Value.int .i64 t0 : Value) := blk_cell HE.out.1 17
 have fa18 : _ = some (Value.int .i64 t1 : Value) := blk_cell HE.out.1 18
 have fa19 : _ = some (Value.int .i64 t2 : Value) := blk_cell HE.out.1 19
 have fa20 : _ = some (Value.int .i64 t3 : Value) := blk_cell HE.out.1 20
 have fa21 : _ = some (Value.int .i64 ma : Value) := blk_cell HE.out.1 21
 have fa22 : _ = some (Value.int .i64 mb : Value) := blk_cell HE.out.1 22
 have fa23 : _ = some (Value.int .i64 sa : Value) := blk_cell HE.out.1 23
 have fa24 : _ = some (Value.int .i64 na : Value) := blk_cell HE.out.1 24
 have fa25 : _ = some (Value.int .i64 sb : Value) := blk_cell HE.out.1 25
 have fa26 : _ = some (Value.int .i64 nb : Value) := blk_cell HE.out.1 26
 have fa27 : _ = some (Value.bool both : Value) := blk_cell HE.out.1 27
 have fb0 : _ = some (Value.int .i64 words : Value) := blk_cell HE.out.2 0
 have fb1 : _ = some (Value.int .i64 s0 : Value) := blk_cell HE.out.2 1
 have fb2 : _ = some (Value.int .i64 s1 : Value) := blk_cell HE.out.2 2
 have fb3 : _ = some (Value.int .i64 s2 : Value) := blk_cell HE.out.2 3
 have fb4 : _ = some (Value.int .i64 s3 : Value) := blk_cell HE.out.2 4
 have fb5 : _ = some (Value.int .i64 s4 : Value) := blk_cell HE.out.2 5
 have fb6 : _ = some (Value.int .i64 s5 : Value) := blk_cell HE.out.2 6
 have fb7 : _ = some (Value.int .i64 s6 : Value) := blk_cell HE.out.2 7
 have fb8 : _ = some (Value.int .i64 s7 : Value) := blk_cell HE.out.2 8
 have fb9 : _ = some (Value.int .i64 g0 : Value) := blk_cell HE.out.2 9
 have fb10 : _ = some (Value.int .i64 g1 : Value) := blk_cell HE.out.2 10
 have fb11 : _ = some (Value.int .i64 g2 : Value) := blk_cell HE.out.2 11
 have fb12 : _ = some (Value.int .i64 g3 : Value) := blk_cell HE.out.2 12
 have fb13 : _ = some (Value.int .i64 g4 : Value) := blk_cell HE.out.2 13
 have fb14 : _ = some (Value.int .i64 g5 : Value) := blk_cell HE.out.2 14
 have fb15 : _ = some (Value.int .i64 g6 : Value) := blk_cell HE.out.2 15
 have fb16 : _ = some (Value.int .i64 g7 : Value) := blk_cell HE.out.2 16
 have fb17 : _ = some (Value.int .i64 t0 : Value) := blk_cell HE.out.2 17
 have fb18 : _ = some (Value.int .i64 t1 : Value) := blk_cell HE.out.2 18
 have fb19 : _ = some (Value.int .i64 t2 : Value) := blk_cell HE.out.2 19
 have fb20 : _ = some (Value.int .i64 t3 : Value) := blk_cell HE.out.2 20
 have fb21 : _ = some (Value.int .i64 ma : Value) := blk_cell HE.out.2 21
 have fb22 : _ = some (Value.int .i64 mb : Value) := blk_cell HE.out.2 22
 have fb23 : _ = some (Value.int .i64 sa : Value) := blk_cell HE.out.2 23
 have fb24 : _ = some (Value.int .i64 na : Value) := blk_cell HE.out.2 24
 have fb25 : _ = some (Value.int .i64 sb : Value) := blk_cell HE.out.2 25
 have fb26 : _ = some (Value.int .i64 nb : Value) := blk_cell HE.out.2 26
 have fb27 : _ = some (Value.bool both : Value) := blk_cell HE.out.2 27
 have e0 := bne_self_eq_false words
 have e1 := neq23 s0 s1 s2 s3 s4 s5 s6 s7
 have e2 := neq23 g0 g1 g2 g3 g4 g5 g6 g7
 have e3 := neq24 t0 t1 t2 t3
 have e4 := neq27 sa na sb nb
 have e5 := bne_self_eq_false ma
 have e6 := bne_self_eq_false mb
 have e7 : (both != both) = false := by cases both <;> rfl
 go_upto_if 59 with (fail)
 clear e0 e1 e2 e3 e4 e5 e6 e7 fa0 fb0 fa1 fb1 fa2 fb2 fa3 fb3 fa4 fb4 fa5 fb5 fa6 fb6 fa7 fb7 fa8 fb8 fa9 fb9 fa10 fb10 fa11 fb11 fa12 fb12 fa13 fb13 fa14 fb14 fa15 fb15 fa16 fb16 fa17 fb17 fa18 fb18 fa19 fb19 fa20 fb20 fa21 fb21 fa22 fb22 fa23 fb23 fa24 fb24 fa25 fb25 fa26 fb26 fa27 fb27
 go_wp2
 go_loopg [5] 5 (fun kq v5 w' => ∃ i : Nat, v5 = .int .i64 (i : Int) ∧ Aside0 (kq + i = 5) ∧ Aside0 (w'.heap[w.heap.size]? = some (.cells #[.int .i64 words, .int .i64 s0, .int .i64 s1, .int .i64 s2, .int .i64 s3, .int .i64 s4, .int .i64 s5, .int .i64 s6, .int .i64 s7, .int .i64 g0, .int .i64 g1, .int .i64 g2, .int .i64 g3, .int .i64 g4, .int .i64 g5, .int .i64 g6, .int .i64 g7, .int .i64 t0, .int .i64 t1, .int .i64 t2, .int .i64 t3, .int .i64 ma, .int .i64 mb, .int .i64 sa, .int .i64 na, .int .i64 sb, .int .i64 nb, .bool both, y0_, y1_, y2_, y3_, y4_] 31 (0, 0)) ∧ w'.heap[w.heap.size + 1]? = some (.cells #[.int .i64 words, .int .i64 s0, .int .i64 s1, .int .i64 s2, .int .i64 s3, .int .i64 s4, .int .i64 s5, .int .i64 s6, .int .i64 s7, .int .i64 g0, .int .i64 g1, .int .i64 g2, .int .i64 g3, .int .i64 g4, .int .i64 g5, .int .i64 g6, .int .i64 g7, .int .i64 t0, .int .i64 t1, .int .i64 t2, .int .i64 t3, .int .i64 ma, .int .i64 mb, .int .i64 sa, .int .i64 na, .int .i64 sb, .int .i64 nb, .bool both, h0, h1, h2, h3, h4] 31 (0, 0))) ∧ Aside0 (Below w.heap.size w w'))
 case atStart => exact ⟨0, rfl, ⟨rfl⟩, HE, HB⟩
 case round =>
  clear HE HB
  obtain ⟨i, rfl, HI, HE, HB⟩ := hrel
  by_cases hi : i < 5
  ·have d1 : decide ((i : Int) < 5) = true := decide_eq_true (by omega)
   have q1 : 0 ≤ (i : Int) ∧ (i : Int) < 5 := by omega
   obtain ⟨A1, c1, t1, t2, t3⟩ := HT.out i hi
   obtain ⟨A2, c2, k1, k2, k3⟩ := HH.out i hi
   have hc1 : wr.cell? ⟨w.heap.size, 28 + i, none⟩ = some (.slice A1 (L i).length c1) := by
    rw [blk_cell HE.out.1 (28 + i), ← t1]
    have : i = 0 ∨ i = 1 ∨ i = 2 ∨ i = 3 ∨ i = 4 := by omega
    rcases this with rfl | rfl | rfl | rfl | rfl <;> rfl
   have hc2 : wr.cell? ⟨w.heap.size + 1, 28 + i, none⟩ = some (.slice A2 (L i).length c2) := by
    rw [blk_cell HE.out.2 (28 + i), ← k1]
    have : i = 0 ∨ i = 1 ∨ i = 2 ∨ i = 3 ∨ i = 4 := by omega
    rcases this with rfl | rfl | rfl | rfl | rfl <;> rfl
   have HCS := Aside0.mk (show ∀ W, Below wr.heap.size wr W → Calls Try.prog 33 #[.slice A1 (L i).length c1, .slice A2 (L i).length c2] W fun e w' => e = .returned (.bool true) ∧ Drawn0 W w' from fun W hb => sluicelaw11_sameIns.calls 8796093021953 A1 c1 (L i) A2 c2 (L i) true W (Kd.C_below t3 (below_then HB.out HB.out.size hb)) t2 (Kd.C_below k3 (below_then HB.out HB.out.size hb)) k2 (same_val (L i) (HM.out i hi)))
   have HWR := Aside0.mk (show wrap64 ((i : Int) + 1) = ((i + 1 : Nat) : Int) by
    unfold wrap64
    omega)
   obtain ⟨k1_, rfl⟩ : ∃ k1_, gk = k1_ + 1 := ⟨gk - 1, by have := HI.out; omega⟩
   have h00 : Aside0 (Below wr.heap.size wr wr) := ⟨Below.refl _ _⟩
   have HSK : Aside0 (∀ W, Below wr.heap.size wr W → W.cell? ⟨w.heap.size, 28 + i, none⟩ = some (Value.slice A1 (L i).length c1) ∧ W.cell? ⟨w.heap.size + 1, 28 + i, none⟩ = some (Value.slice A2 (L i).length c2) ∧ Below wr.heap.size wr W) := ⟨fun W h => ⟨pw_cell_below h hc1, pw_cell_below h hc2, h⟩⟩
   clear t1 t2 t3 k1 k2 k3 hi
   go_upto_region 6 with (fail)
   clear d1
   go_region_held3 (fun W => W.cell? ⟨w.heap.size, 28 + i, none⟩ = some (Value.slice A1 (L i).length c1) ∧ W.cell? ⟨w.heap.size + 1, 28 + i, none⟩ = some (Value.slice A2 (L i).length c2) ∧ Below wr.heap.size wr W) ((refine HSK.out _ ?_; exact (by first | assumption | exact below_drew h00.out | exact pw_below_drewN h00.out _ | exact pw_below_drewN (below_drew h00.out) _))) (first | (go_at_call 33; refine (HCS.out _ (by first | assumption | exact below_drew h00.out | exact pw_below_drewN h00.out _ | exact pw_below_drewN (below_drew h00.out) _)).mono ?_; rintro e w2 ⟨rfl, ⟨nd, rfl⟩⟩))
   have HE2 := Aside0.mk (show (wr.drewN (1 + nd)).heap[w.heap.size]? = some (.cells #[.int .i64 words, .int .i64 s0, .int .i64 s1, .int .i64 s2, .int .i64 s3, .int .i64 s4, .int .i64 s5, .int .i64 s6, .int .i64 s7, .int .i64 g0, .int .i64 g1, .int .i64 g2, .int .i64 g3, .int .i64 g4, .int .i64 g5, .int .i64 g6, .int .i64 g7, .int .i64 t0, .int .i64 t1, .int .i64 t2, .int .i64 t3, .int .i64 ma, .int .i64 mb, .int .i64 sa, .int .i64 na, .int .i64 sb, .int .i64 nb, .bool both, y0_, y1_, y2_, y3_, y4_] 31 (0, 0)) ∧ (wr.drewN (1 + nd)).heap[w.heap.size + 1]? = some (.cells #[.int .i64 words, .int .i64 s0, .int .i64 s1, .int .i64 s2, .int .i64 s3, .int .i64 s4, .int .i64 s5, .int .i64 s6, .int .i64 s7, .int .i64 g0, .int .i64 g1, .int .i64 g2, .int .i64 g3, .int .i64 g4, .int .i64 g5, .int .i64 g6, .int .i64 g7, .int .i64 t0, .int .i64 t1, .int .i64 t2, .int .i64 t3, .int .i64 ma, .int .i64 mb, .int .i64 sa, .int .i64 na, .int .i64 sb, .int .i64 nb, .bool both, h0, h1, h2, h3, h4] 31 (0, 0)) from HE.out)
   have HB2 := Aside0.mk (pw_below_drewN HB.out (1 + nd))
   go_wp2
   go_roundg k1_
   case measure => omega
   case rel => exact ⟨i + 1, (by first | rfl | (rw [HWR.out])), ⟨by have := HI.out; omega⟩, HE2, HB2⟩
  have d1 : decide ((i : Int) < 5) = false := decide_eq_false (by omega)
  clear hi
  go_wp2
  go_ret
  exact ⟨rfl, HB.out⟩
end Same
section Unt
theorem last_mk (l : List S42) : (l ++ [mk42]).getD l.length z42 = mk42 := by
 rw [List.getD_eq_getElem?_getD, List.getElem?_append_right (Nat.le_refl _), Nat.sub_self]
 rfl
set_option maxHeartbeats 8000000 in
set_option maxRecDepth 100000 in
theorem untouchedR (words s0 s1 s2 s3 s4 s5 s6 s7 g0 g1 g2 g3 g4 g5 g6 g7 t0 t1 t2 t3 ma mb sa na sb nb : Int) (both : Bool) (h0 h1 h2 h3 h4 : Value) (y0_ y1_ y2_ y3_ y4_ : Value) (N : Nat) (L : Nat → List S42) (w : World) (hT : ∀ j, j < 5 → TwR N (L j) ([y0_, y1_, y2_, y3_, y4_].getD j undef) w) (hH : ∀ j, j < 5 → ∃ (A : Option Addr) (c : Nat), [h0, h1, h2, h3, h4].getD j undef = .slice A (L j).length c ∧ (L j).length ≤ c ∧ Kd.C k42 w A (L j).length (L j)) (hm : ∀ j, j < 5 → (L j).length ≤ 8796093021952) :
  Calls Try.prog 8 #[.agg #[.int .i64 words, .int .i64 s0, .int .i64 s1, .int .i64 s2, .int .i64 s3, .int .i64 s4, .int .i64 s5, .int .i64 s6, .int .i64 s7, .int .i64 g0, .int .i64 g1, .int .i64 g2, .int .i64 g3, .int .i64 g4, .int .i64 g5, .int .i64 g6, .int .i64 g7, .int .i64 t0, .int .i64 t1, .int .i64 t2, .int .i64 t3, .int .i64 ma, .int .i64 mb, .int .i64 sa, .int .i64 na, .int .i64 sb, .int .i64 nb, .bool both, y0_, y1_, y2_, y3_, y4_], .agg #[.int .i64 words, .int .i64 s0, .int .i64 s1, .int .i64 s2, .int .i64 s3, .int .i64 s4, .int .i64 s5, .int .i64 s6, .int .i64 s7, .int .i64 g0, .int .i64 g1, .int .i64 g2, .int .i64 g3, .int .i64 g4, .int .i64 g5, .int .i64 g6, .int .i64 g7, .int .i64 t0, .int .i64 t1, .int .i64 t2, .int .i64 t3, .int .i64 ma, .int .i64 mb, .int .i64 sa, .int .i64 na, .int .i64 sb, .int .i64 nb, .bool both, h0, h1, h2, h3, h4]] w fun e w' => e = .returned (.bool true) ∧ Below w.heap.size w w' := by
 have n0_ := blk_alloc (heap_alloc_new w (.cells #[.int .i64 words, .int .i64 s0, .int .i64 s1, .int .i64 s2, .int .i64 s3, .int .i64 s4, .int .i64 s5, .int .i64 s6, .int .i64 s7, .int .i64 g0, .int .i64 g1, .int .i64 g2, .int .i64 g3, .int .i64 g4, .int .i64 g5, .int .i64 g6, .int .i64 g7, .int .i64 t0, .int .i64 t1, .int .i64 t2, .int .i64 t3, .int .i64 ma, .int .i64 mb, .int .i64 sa, .int .i64 na, .int .i64 sb, .int .i64 nb, .bool both, y0_, y1_, y2_, y3_, y4_] 31)) (.cells #[.int .i64 words, .int .i64 s0, .int .i64 s1, .int .i64 s2, .int .i64 s3, .int .i64 s4, .int .i64 s5, .int .i64 s6, .int .i64 s7, .int .i64 g0, .int .i64 g1, .int .i64 g2, .int .i64 g3, .int .i64 g4, .int .i64 g5, .int .i64 g6, .int .i64 g7, .int .i64 t0, .int .i64 t1, .int .i64 t2, .int .i64 t3, .int .i64 ma, .int .i64 mb, .int .i64 sa, .int .i64 na, .int .i64 sb, .int .i64 nb, .bool both, h0, h1, h2, h3, h4] 31)
 have n1_ := heap_alloc_new (w.alloc (.cells #[.int .i64 words, .int .i64 s0, .int .i64 s1, .int .i64 s2, .int .i64 s3, .int .i64 s4, .int .i64 s5, .int .i64 s6, .int .i64 s7, .int .i64 g0, .int .i64 g1, .int .i64 g2, .int .i64 g3, .int .i64 g4, .int .i64 g5, .int .i64 g6, .int .i64 g7, .int .i64 t0, .int .i64 t1, .int .i64 t2, .int .i64 t3, .int .i64 ma, .int .i64 mb, .int .i64 sa, .int .i64 na, .int .i64 sb, .int .i64 nb, .bool both, y0_, y1_, y2_, y3_, y4_] 31)) (.cells #[.int .i64 words, .int .i64 s0, .int .i64 s1, .int .i64 s2, .int .i64 s3, .int .i64 s4, .int .i64 s5, .int .i64 s6, .int .i64 s7, .int .i64 g0, .int .i64 g1, .int .i64 g2, .int .i64 g3, .int .i64 g4, .int .i64 g5, .int .i64 g6, .int .i64 g7, .int .i64 t0, .int .i64 t1, .int .i64 t2, .int .i64 t3, .int .i64 ma, .int .i64 mb, .int .i64 sa, .int .i64 na, .int .i64 sb, .int .i64 nb, .bool both, h0, h1, h2, h3, h4] 31)
 simp only [World.size_alloc] at n1_
 have HE := Aside0.mk (And.intro n0_ n1_)
 have HB := Aside0.mk (below_alloc (below_alloc (Below.refl w.heap.size w) (.cells #[.int .i64 words, .int .i64 s0, .int .i64 s1, .int .i64 s2, .int .i64 s3, .int .i64 s4, .int .i64 s5, .int .i64 s6, .int .i64 s7, .int .i64 g0, .int .i64 g1, .int .i64 g2, .int .i64 g3, .int .i64 g4, .int .i64 g5, .int .i64 g6, .int .i64 g7, .int .i64 t0, .int .i64 t1, .int .i64 t2, .int .i64 t3, .int .i64 ma, .int .i64 mb, .int .i64 sa, .int .i64 na, .int .i64 sb, .int .i64 nb, .bool both, y0_, y1_, y2_, y3_, y4_] 31)) (.cells #[.int .i64 words, .int .i64 s0, .int .i64 s1, .int .i64 s2, .int .i64 s3, .int .i64 s4, .int .i64 s5, .int .i64 s6, .int .i64 s7, .int .i64 g0, .int .i64 g1, .int .i64 g2, .int .i64 g3, .int .i64 g4, .int .i64 g5, .int .i64 g6, .int .i64 g7, .int .i64 t0, .int .i64 t1, .int .i64 t2, .int .i64 t3, .int .i64 ma, .int .i64 mb, .int .i64 sa, .int .i64 na, .int .i64 sb, .int .i64 nb, .bool both, h0, h1, h2, h3, h4] 31))
 have HT := Aside0.mk hT
 have HH := Aside0.mk hH
 have HM := Aside0.mk hm
 clear hT hH hm n0_ n1_
 go_enter Try.func8, Try.ntmps8
 go_upto_region 1 with (fail)
 generalize (w.alloc (.cells #[.int .i64 words, .int .i64 s0, .int .i64 s1, .int .i64 s2, .int .i64 s3, .int .i64 s4, .int .i64 s5, .int .i64 s6, .int .i64 s7, .int .i64 g0, .int .i64 g1, .int .i64 g2, .int .i64 g3, .int .i64 g4, .int .i64 g5, .int .i64 g6, .int .i64 g7, .int .i64 t0, .int .i64 t1, .int .i64 t2, .int .i64 t3, .int .i64 ma, .int .i64 mb, .int .i64 sa, .int .i64 na, .int .i64 sb, .int .i64 nb, .bool both, y0_, y1_, y2_, y3_, y4_] 31)).alloc (.cells #[.int .i64 words, .int .i64 s0, .int .i64 s1, .int .i64 s2, .int .i64 s3, .int .i64 s4, .int .i64 s5, .int .i64 s6, .int .i64 s7, .int .i64 g0, .int .i64 g1, .int .i64 g2, .int .i64 g3, .int .i64 g4, .int .i64 g5, .int .i64 g6, .int .i64 g7, .int .i64 t0, .int .i64 t1, .int .i64 t2, .int .i64 t3, .int .i64 ma, .int .i64 mb, .int .i64 sa, .int .i64 na, .int .i64 sb, .int .i64 nb, .bool both, h0, h1, h2, h3, h4] 31) = w1 at HE HB ⊢
 have HSM := Aside0.mk (sameR words s0 s1 s2 s3 s4 s5 s6 s7 g0 g1 g2 g3 g4 g5 g6 g7 t0 t1 t2 t3 ma mb sa na sb nb both h0 h1 h2 h3 h4 y0_ y1_ y2_ y3_ y4_ L w1 (fun j hj => (by
  obtain ⟨A, c, e, h1, h2, _⟩ := ((HT.out j hj).below HB.out).read
  exact ⟨A, c, e, by omega, h2⟩)) (fun j hj => (by
  obtain ⟨A, c, e, h1, h2⟩ := HH.out j hj
  exact ⟨A, c, e, h1, Kd.C_below h2 HB.out⟩)) HM.out)
 go_upto_region 3 with (first | ((with_reducible refine wpList_load_row rfl 31 (.tmp 2) rfl (w.heap.size) rfl _ _ _ _ HE.out.1 Try.underlying31 rfl (by kernel_rfl) ?_)) | ((with_reducible refine wpList_load_row rfl 31 (.tmp 3) rfl (w.heap.size + 1) rfl _ _ _ _ HE.out.2 Try.underlying31 rfl (by kernel_rfl) ?_)) | (go_at_call 14; (with_reducible refine HSM.out.mono ?_); rintro e w5 ⟨rfl, hb⟩; have n0_ := Aside0.mk ((hb.block _ (blk_lt HE.out.1)).trans HE.out.1); have n1_ := Aside0.mk (below_then HB.out HB.out.size hb); clear HE HB HSM hb; have HE := n0_; have HB := n1_; clear n0_ n1_))
 go_wp2
 go_loopg [5] 5 (fun kq v5 w' => ∃ i : Nat, v5 = .int .i64 (i : Int) ∧ Aside0 (kq + i = 5) ∧ Aside0 (w'.heap[w.heap.size]? = some (.cells #[.int .i64 words, .int .i64 s0, .int .i64 s1, .int .i64 s2, .int .i64 s3, .int .i64 s4, .int .i64 s5, .int .i64 s6, .int .i64 s7, .int .i64 g0, .int .i64 g1, .int .i64 g2, .int .i64 g3, .int .i64 g4, .int .i64 g5, .int .i64 g6, .int .i64 g7, .int .i64 t0, .int .i64 t1, .int .i64 t2, .int .i64 t3, .int .i64 ma, .int .i64 mb, .int .i64 sa, .int .i64 na, .int .i64 sb, .int .i64 nb, .bool both, y0_, y1_, y2_, y3_, y4_] 31 (0, 0))) ∧ Aside0 (Below w.heap.size w w'))
 case atStart => exact ⟨0, rfl, ⟨rfl⟩, HE, HB⟩
 case round =>
  clear HE HB
  obtain ⟨i, rfl, HI, HE, HB⟩ := hrel
  by_cases hi : i < 5
  ·have d1 : decide ((i : Int) < 5) = true := decide_eq_true (by omega)
   have q1 : 0 ≤ (i : Int) ∧ (i : Int) < 5 := by omega
   obtain ⟨A1, c1, t1_, t2_, _, t3_⟩ := ((HT.out i hi).below HB.out).read
   have hc1 : wr.cell? ⟨w.heap.size, 28 + i, none⟩ = some (.slice A1 (L i).length c1) := by
    rw [blk_cell HE.out (28 + i), ← t1_]
    have : i = 0 ∨ i = 1 ∨ i = 2 ∨ i = 3 ∨ i = 4 := by omega
    rcases this with rfl | rfl | rfl | rfl | rfl <;> rfl
   obtain ⟨ad, hA, _, hi0, hi1⟩ := insAt_of t3_ (L i).length (by rw [List.length_append, List.length_singleton]; omega)
   subst hA
   rw [last_mk] at hi0 hi1
   have hi0 : wr.cell? (ad.add ((L i).length * 2)) = some (.int .i64 7777) := hi0
   have hi1 : wr.cell? ⟨(ad.add ((L i).length * 2)).block, (ad.add ((L i).length * 2)).off + 1, none⟩ = some (.int .i64 7777) := hi1
   have hmi := HM.out i hi
   obtain ⟨iz, hiz⟩ := info42s
   have hcut := cut_more 28 42 .i64 Try.underlying28 hiz (some ad) (L i).length c1 t2_
   generalize (L i).length = n at hc1 hi0 hi1 hmi hcut
   have hwn : wrap64 ((n : Int) + 1) = (n : Int) + 1 := by
    unfold wrap64
    omega
   have q2 : 0 ≤ (n : Int) ∧ (n : Int) < ((n + 1 : Nat) : Int) := by omega
   have q3 : (n : Int) < (n : Int) + 1 := by omega
   have e1 := neq42 7777 7777
   have HWR := Aside0.mk (show wrap64 ((i : Int) + 1) = ((i + 1 : Nat) : Int) by
    unfold wrap64
    omega)
   obtain ⟨k1_, rfl⟩ : ∃ k1_, gk = k1_ + 1 := ⟨gk - 1, by have := HI.out; omega⟩
   clear t1_ t2_ t3_ hi hiz hmi
   go_wp2
   go_roundg k1_
   case measure => omega
   case rel => exact ⟨i + 1, (by first | rfl | (rw [HWR.out])), ⟨by have := HI.out; omega⟩, HE, HB⟩
  have d1 : decide ((i : Int) < 5) = false := decide_eq_false (by omega)
  clear hi
  go_wp2
  go_ret
  exact ⟨rfl, HB.out⟩
end Unt
end Go.Proofs.Ytcpcpmojallcdaa.QLoomChecks
