/- LoomChecks: Check. Conditions: as each theorem says. -/
import Derived.Defers
import Derived.Recover
import Derived.Laws.Pointers
import Derived.Test.YtcpcpmojallcdaaLcQ
import Derived.Test.YtcpcpmojallcdaaLcGJ
import Derived.Test.YtcpcpmojallcdaaLcGE
namespace Go.Proofs.Ytcpcpmojallcdaa.QLoomChecks
open Go.RowKit Go.Proofs.YtcpcpmojallcdaaW.PrintWords Go.Proofs.YtcpcpmojallcdaaW.PrintLast Go.Proofs.YtcpcpmojallcdaaW.PrintMore
set_option linter.unusedVariables false
set_option linter.unusedSimpArgs false
section Check
@[irreducible] def OpsS (P : Program) (ops : Array Oper) (Q : Exit → Act → List Frame → World → Prop) (l : List Nat) (a : Act) (cs : List Frame) (w : World) : Prop := wpOpsS P ops Q l a cs w
theorem opS_start {P : Program} {ops : Array Oper} {Q : Exit → Act → List Frame → World → Prop} {a : Act} {cs : List Frame} {w : World} (n : Nat) (id : Nat) (hn : ops.size = n) (h : OpsS P ops Q (List.range n) a cs w) : (Code.region id ops false).wpS P Q a cs w := by
 subst hn
 unfold OpsS at h
 exact wpS_region h
theorem opS_end {P : Program} {ops : Array Oper} {Q : Exit → Act → List Frame → World → Prop} {a : Act} {cs : List Frame} {w : World} (h : Q .normal a cs w) : OpsS P ops Q [] a cs w := by
 unfold OpsS
 exact h
theorem opS_val {P : Program} {ops : Array Oper} {Q : Exit → Act → List Frame → World → Prop} {a : Act} {cs  : List Frame} {w w' : World} {rest : List Nat} {o : Oper} {v : Value} (i : Nat) (hi : ops[i]? = some o) (hw : o.guard = none) (hr : (execOp a.eval o).run P w = .ok (Next.value v) w') (h : OpsS P ops Q rest (a.put o.dst v) cs w') : OpsS P ops Q (i :: rest) a cs w := by
 unfold OpsS at h ⊢
 unfold wpOpsS
 rw [hi]
 have hw2 : Region.wanted o (yielded ops a.tmps) = true := by simp only [Region.wanted, hw]
 simp only [hw2, if_true, hr]
 exact h
theorem opS_skip {P : Program} {ops : Array Oper} {Q : Exit → Act → List Frame → World → Prop} {a : Act} {cs  : List Frame} {w w' : World} {rest : List Nat} {o : Oper}  (i : Nat) (hi : ops[i]? = some o) (hw : o.guard = none) (hr : (execOp a.eval o).run P w = .ok Next.skip w') (h : OpsS P ops Q rest (a.put o.dst undef) cs w') : OpsS P ops Q (i :: rest) a cs w := by
 unfold OpsS at h ⊢
 unfold wpOpsS
 rw [hi]
 have hw2 : Region.wanted o (yielded ops a.tmps) = true := by simp only [Region.wanted, hw]
 simp only [hw2, if_true, hr]
 exact h
theorem opS_recover {P : Program} {ops : Array Oper} {Q : Exit → Act → List Frame → World → Prop} {a : Act} {cs cs' : List Frame} {w w' : World} {rest : List Nat} {o : Oper} {v : Value} (i : Nat) (hi : ops[i]? = some o) (hw : o.guard = none) (hr : (execOp a.eval o).run P w = .ok Next.recover w') (hc : recoverD cs = some (v, cs')) (h : OpsS P ops Q rest (a.put o.dst v) cs' w') : OpsS P ops Q (i :: rest) a cs w := by
 unfold OpsS at h ⊢
 unfold wpOpsS
 rw [hi]
 have hw2 : Region.wanted o (yielded ops a.tmps) = true := by simp only [Region.wanted, hw]
 simp only [hw2, if_true, hr, hc]
 exact h
theorem opS_recover0 {P : Program} {ops : Array Oper} {Q : Exit → Act → List Frame → World → Prop} {a : Act} {cs : List Frame} {w w' : World} {rest : List Nat} {o : Oper}  (i : Nat) (hi : ops[i]? = some o) (hw : o.guard = none) (hr : (execOp a.eval o).run P w = .ok Next.recover w') (hc : recoverD cs = none) (h : OpsS P ops Q rest (a.put o.dst .nilIface) cs w') : OpsS P ops Q (i :: rest) a cs w := by
 unfold OpsS at h ⊢
 unfold wpOpsS
 rw [hi]
 have hw2 : Region.wanted o (yielded ops a.tmps) = true := by simp only [Region.wanted, hw]
 simp only [hw2, if_true, hr, hc]
 exact h
theorem wp_norm {P : Program} {c : Code} {Q : Exit → Act → World → Prop} {a a' : Act} {w : World} (h : a = a') (k : c.wp P Q a' w) : c.wp P Q a w := h ▸ k
theorem recoverD_pan {c₀ : Frame} {cs : List Frame} {v : Value} {older : List PanicEntry} (hu : c₀.mode = .panicking ({ v := v, recovered := false } :: older)) : recoverD (c₀ :: cs) = some (v, { c₀ with mode := .panicking ({ v := v, recovered := true } :: older) } :: cs) := by
 simp only [recoverD, hu]
set_option maxHeartbeats 8000000 in
set_option maxRecDepth 100000 in
theorem catchP (b1 b2 b3 : Nat) (h a x1 x2 x3 : Int) (older : List PanicEntry) (w : World) (h1 : w.heap[b1]? = some (.cells #[.int .i64 x1] 33 (0, 0))) (h2 : w.heap[b2]? = some (.cells #[.int .i64 x2] 3 (0, 0))) (h3 : w.heap[b3]? = some (.cells #[.int .i64 x3] 3 (0, 0))) (n12 : b1 ≠ b2) (n13 : b1 ≠ b3) (n23 : b2 ≠ b3) :
  CallsD Try.prog 9 #[.pointer (some ⟨b1, 0, none⟩), .pointer (some ⟨b2, 0, none⟩), .pointer (some ⟨b3, 0, none⟩)] (.panicking ({ v := (.iface 44 (.agg #[.int .i64 h, .int .i64 a])), recovered := false } :: older)) w fun e u' w' =>
   e = .returned (.tuple #[]) ∧ u' = .panicking ({ v := (.iface 44 (.agg #[.int .i64 h, .int .i64 a])), recovered := true } :: older) ∧ w' = ((((w.alloc (.cells #[.int .i64 h, .int .i64 a] 44)).setCell ⟨b1, 0, none⟩ (.int .i64 110)).setCell ⟨b2, 0, none⟩ (.int .i64 h)).setCell ⟨b3, 0, none⟩ (.int .i64 a)).drew := by
 have hta : ∀ w : World, (Instr.typeAssert (.iface 44 (.agg #[.int .i64 h, .int .i64 a])) 20 44 true).run Try.prog w = .ok (.tuple #[.agg #[.int .i64 h, .int .i64 a], .bool true]) w := fun w => by kernel_rfl
 refine callsD_of_wpS Try.func9 rfl fun c₀ cs hu => ?_
 apply wpS_seq
 refine opS_start 8 _ rfl ?_
 rw [show List.range 8 = [0, 1, 2, 3, 4, 5, 6, 7] from rfl]
 simp only [Try.ntmps9]
 apply opS_recover 0
 case hi => rw [List.getElem?_toArray, List.getElem?_cons_zero]
 case hw => rfl
 case hc => exact recoverD_pan hu
 case hr =>
  go_simp
  first | exact ⟨rfl, rfl⟩ | rfl
 case h =>
 apply opS_val (v := .tuple #[(.agg #[.int .i64 h, .int .i64 a]), .bool true]) 1
 case hi => rw [List.getElem?_toArray, List.getElem?_cons_succ, List.getElem?_cons_zero]
 case hw => rfl
 case hr =>
  go_simp
  first | exact ⟨rfl, rfl⟩ | rfl
 case h =>
 apply opS_val 2
 case hi => rw [List.getElem?_toArray, List.getElem?_cons_succ, List.getElem?_cons_succ, List.getElem?_cons_zero]
 case hw => rfl
 case hr =>
  go_simp
  first | exact ⟨rfl, rfl⟩ | rfl
 case h =>
 apply opS_val 3
 case hi => rw [List.getElem?_toArray, List.getElem?_cons_succ, List.getElem?_cons_succ, List.getElem?_cons_succ, List.getElem?_cons_zero]
 case hw => rfl
 case hr =>
  go_simp
  first | exact ⟨rfl, rfl⟩ | rfl
 case h =>
 apply opS_val 4
 case hi => rw [List.getElem?_toArray, List.getElem?_cons_succ, List.getElem?_cons_succ, List.getElem?_cons_succ, List.getElem?_cons_succ, List.getElem?_cons_zero]
 case hw => rfl
 case hr =>
  go_simp
  first | exact ⟨rfl, rfl⟩ | rfl
 case h =>
 apply opS_val 5
 case hi => rw [List.getElem?_toArray, List.getElem?_cons_succ, List.getElem?_cons_succ, List.getElem?_cons_succ, List.getElem?_cons_succ, List.getElem?_cons_succ, List.getElem?_cons_zero]
 case hw => rfl
 case hr =>
  go_simp
  first | exact ⟨rfl, rfl⟩ | rfl
 case h =>
 apply opS_skip 6
 case hi => rw [List.getElem?_toArray, List.getElem?_cons_succ, List.getElem?_cons_succ, List.getElem?_cons_succ, List.getElem?_cons_succ, List.getElem?_cons_succ, List.getElem?_cons_succ, List.getElem?_cons_zero]
 case hw => rfl
 case hr =>
  go_simp
  first | exact ⟨rfl, rfl⟩ | rfl
 case h =>
 apply opS_val 7
 case hi => rw [List.getElem?_toArray, List.getElem?_cons_succ, List.getElem?_cons_succ, List.getElem?_cons_succ, List.getElem?_cons_succ, List.getElem?_cons_succ, List.getElem?_cons_succ, List.getElem?_cons_succ, List.getElem?_cons_zero]
 case hw => rfl
 case hr =>
  go_simp
  first | exact ⟨rfl, rfl⟩ | rfl
 case h =>
 refine opS_end ?_
 simp only [Exit.thenS]
 apply wpS_seq
 refine opS_start 1 _ rfl ?_
 rw [show List.range 1 = [0] from rfl]
 apply opS_val 0
 case hi => rw [List.getElem?_toArray, List.getElem?_cons_zero]
 case hw => rfl
 case hr =>
  go_simp
  first | exact ⟨rfl, rfl⟩ | rfl
 case h =>
 refine opS_end ?_
 simp only [Exit.thenS]
 refine wpS_cond (t := true) (by simp [Act.eval, Act.put, Array.replicate]) ?_
 simp only [if_true]
 refine wpS_of_wp ?_
 refine wp_norm (a' := { tmps := #[.pointer (some ⟨b1, 0, none⟩), .pointer (some ⟨b2, 0, none⟩), .pointer (some ⟨b3, 0, none⟩), .pointer (some ⟨w.heap.size, 0, none⟩), .bool true, .tuple #[(.agg #[.int .i64 h, .int .i64 a]), .bool true], (.iface 44 (.agg #[.int .i64 h, .int .i64 a])), .tuple #[(.agg #[.int .i64 h, .int .i64 a]), .bool true], (.agg #[.int .i64 h, .int .i64 a]), .bool true, .bool true, undef, undef, undef, undef], defers := [] }) (by kernel_rfl) ?_
 have HX := heap_alloc_new w (.cells #[.int .i64 h, .int .i64 a] 44)
 have hx0 : _ = some (Value.int .i64 h) := blk_cell HX 0
 have hx1 : _ = some (Value.int .i64 a) := blk_cell HX 1
 have k1 := (Below.heap_alloc w (.cells #[.int .i64 h, .int .i64 a] 44) b1 (blk_lt h1)).trans h1
 have k2 := (Below.heap_alloc w (.cells #[.int .i64 h, .int .i64 a] 44) b2 (blk_lt h2)).trans h2
 have k3 := (Below.heap_alloc w (.cells #[.int .i64 h, .int .i64 a] 44) b3 (blk_lt h3)).trans h3
 have c1 : _ = some (Value.int .i64 x1) := blk_cell k1 0
 have c2 : _ = some (Value.int .i64 x2) := blk_cell k2 0
 have c3 : _ = some (Value.int .i64 x3) := blk_cell k3 0
 have f1 := blk_frozen k1 0
 have f2 := blk_frozen k2 0
 have f3 := blk_frozen k3 0
 have d1 : ¬ w.heap.size = b1 := by have := blk_lt h1; omega
 have d2 : ¬ w.heap.size = b2 := by have := blk_lt h2; omega
 have d3 : ¬ w.heap.size = b3 := by have := blk_lt h3; omega
 have d1' : ¬ b1 = w.heap.size := fun e => d1 e.symm
 have d2' : ¬ b2 = w.heap.size := fun e => d2 e.symm
 have d3' : ¬ b3 = w.heap.size := fun e => d3 e.symm
 have n21 : ¬ b2 = b1 := fun e => n12 e.symm
 have n31 : ¬ b3 = b1 := fun e => n13 e.symm
 have n32 : ¬ b3 = b2 := fun e => n23 e.symm
 go_region
 all_goals simp [bodyPostS, results, Try.results9]
set_option maxHeartbeats 8000000 in
set_option maxRecDepth 100000 in
theorem catchI (p1 p2 p3 : Value) (w : World) :
  CallsD Try.prog 9 #[p1, p2, p3] .returning w fun e u' w' => e = .returned (.tuple #[]) ∧ u' = .returning ∧ Below w.heap.size w w' := by
 have hta : ∀ w : World, (Instr.typeAssert .nilIface 20 44 true).run Try.prog w = .ok (.tuple #[(.agg #[.int .i64 0, .int .i64 0]), .bool false]) w := fun w => by kernel_rfl
 have HB := Aside0.mk (below_alloc (Below.refl w.heap.size w) (.cells #[.int .i64 0, .int .i64 0] 44))
 refine callsD_of_wpS Try.func9 rfl fun c₀ cs hu => ?_
 apply wpS_seq
 refine opS_start 8 _ rfl ?_
 rw [show List.range 8 = [0, 1, 2, 3, 4, 5, 6, 7] from rfl]
 simp only [Try.ntmps9]
 apply opS_recover0 0
 case hi => rw [List.getElem?_toArray, List.getElem?_cons_zero]
 case hw => rfl
 case hc => simp only [recoverD, hu]
 case hr =>
  go_simp
  first | exact ⟨rfl, rfl⟩ | rfl
 case h =>
 apply opS_val (v := .tuple #[(.agg #[.int .i64 0, .int .i64 0]), .bool false]) 1
 case hi => rw [List.getElem?_toArray, List.getElem?_cons_succ, List.getElem?_cons_zero]
 case hw => rfl
 case hr =>
  go_simp
  first | exact ⟨rfl, rfl⟩ | rfl
 case h =>
 apply opS_val 2
 case hi => rw [List.getElem?_toArray, List.getElem?_cons_succ, List.getElem?_cons_succ, List.getElem?_cons_zero]
 case hw => rfl
 case hr =>
  go_simp
  first | exact ⟨rfl, rfl⟩ | rfl
 case h =>
 apply opS_val 3
 case hi => rw [List.getElem?_toArray, List.getElem?_cons_succ, List.getElem?_cons_succ, List.getElem?_cons_succ, List.getElem?_cons_zero]
 case hw => rfl
 case hr =>
  go_simp
  first | exact ⟨rfl, rfl⟩ | rfl
 case h =>
 apply opS_val 4
 case hi => rw [List.getElem?_toArray, List.getElem?_cons_succ, List.getElem?_cons_succ, List.getElem?_cons_succ, List.getElem?_cons_succ, List.getElem?_cons_zero]
 case hw => rfl
 case hr =>
  go_simp
  first | exact ⟨rfl, rfl⟩ | rfl
 case h =>
 apply opS_val 5
 case hi => rw [List.getElem?_toArray, List.getElem?_cons_succ, List.getElem?_cons_succ, List.getElem?_cons_succ, List.getElem?_cons_succ, List.getElem?_cons_succ, List.getElem?_cons_zero]
 case hw => rfl
 case hr =>
  go_simp
  first | exact ⟨rfl, rfl⟩ | rfl
 case h =>
 apply opS_skip 6
 case hi => rw [List.getElem?_toArray, List.getElem?_cons_succ, List.getElem?_cons_succ, List.getElem?_cons_succ, List.getElem?_cons_succ, List.getElem?_cons_succ, List.getElem?_cons_succ, List.getElem?_cons_zero]
 case hw => rfl
 case hr =>
  go_simp
  first | exact ⟨rfl, rfl⟩ | rfl
 case h =>
 apply opS_val 7
 case hi => rw [List.getElem?_toArray, List.getElem?_cons_succ, List.getElem?_cons_succ, List.getElem?_cons_succ, List.getElem?_cons_succ, List.getElem?_cons_succ, List.getElem?_cons_succ, List.getElem?_cons_succ, List.getElem?_cons_zero]
 case hw => rfl
 case hr =>
  go_simp
  first | exact ⟨rfl, rfl⟩ | rfl
 case h =>
 refine opS_end ?_
 simp only [Exit.thenS]
 apply wpS_seq
 refine opS_start 1 _ rfl ?_
 rw [show List.range 1 = [0] from rfl]
 apply opS_val 0
 case hi => rw [List.getElem?_toArray, List.getElem?_cons_zero]
 case hw => rfl
 case hr =>
  go_simp
  first | exact ⟨rfl, rfl⟩ | rfl
 case h =>
 refine opS_end ?_
 simp only [Exit.thenS]
 refine wpS_cond (t := false) (by simp [Act.eval, Act.put, Array.replicate]) ?_
 simp only [Bool.false_eq_true, if_false]
 refine wpS_of_wp (wp_skip ?_)
 cases c₀
 simp_all [bodyPostS, results, Try.results9, Act.put]
 exact HB.out
theorem walkBad (words s0 s1 s2 s3 s4 s5 s6 s7 g0 g1 g2 g3 g4 g5 g6 g7 t0 t1 t2 t3 ma mb sa na sb nb : Int) (both : Bool) (h0 h1 h2 h3 h4 : Value) (cb hand c : Nat) (hh : hand < 5) (A : Option Addr) (L : List S42) (w : World) (hc : w.heap[cb]? = some (.cells #[.int .i64 words, .int .i64 s0, .int .i64 s1, .int .i64 s2, .int .i64 s3, .int .i64 s4, .int .i64 s5, .int .i64 s6, .int .i64 s7, .int .i64 g0, .int .i64 g1, .int .i64 g2, .int .i64 g3, .int .i64 g4, .int .i64 g5, .int .i64 g6, .int .i64 g7, .int .i64 t0, .int .i64 t1, .int .i64 t2, .int .i64 t3, .int .i64 ma, .int .i64 mb, .int .i64 sa, .int .i64 na, .int .i64 sb, .int .i64 nb, .bool both, h0, h1, h2, h3, h4] 31 (0, 0))) (hH : w.cell? ⟨cb, 28 + hand, none⟩ = some (.slice A L.length c)) (hL : Kd.C k42 w A L.length L) (hlc : L.length ≤ c) (hlm : L.length ≤ 9223372036854775807) (hp : 0 ≤ walkP [s0, s1, s2, s3, s4, s5, s6, s7] [g0, g1, g2, g3, g4, g5, g6, g7] [t0, t1, t2, t3] ma mb hand L) :
  Calls Try.prog 11 #[.pointer (some ⟨cb, 0, none⟩), .int .i64 (hand : Int)] w fun e w' => e = .panicked [{ v := .iface 44 (.agg #[.int .i64 (hand : Int), .int .i64 (walkP [s0, s1, s2, s3, s4, s5, s6, s7] [g0, g1, g2, g3, g4, g5, g6, g7] [t0, t1, t2, t3] ma mb hand L)]), recovered := false }] ∧ Below w.heap.size w w' := (walkR words s0 s1 s2 s3 s4 s5 s6 s7 g0 g1 g2 g3 g4 g5 g6 g7 t0 t1 t2 t3 ma mb sa na sb nb both h0 h1 h2 h3 h4 cb hand c hh A L w hc hH hL hlc hlm).mono fun e w' h => by
 rcases h with ⟨h, _⟩ | ⟨_, h⟩
 ·rw [h] at hp; exact absurd hp (by decide)
 exact h
theorem walkGood (words s0 s1 s2 s3 s4 s5 s6 s7 g0 g1 g2 g3 g4 g5 g6 g7 t0 t1 t2 t3 ma mb sa na sb nb : Int) (both : Bool) (h0 h1 h2 h3 h4 : Value) (cb hand c : Nat) (hh : hand < 5) (A : Option Addr) (L : List S42) (w : World) (hc : w.heap[cb]? = some (.cells #[.int .i64 words, .int .i64 s0, .int .i64 s1, .int .i64 s2, .int .i64 s3, .int .i64 s4, .int .i64 s5, .int .i64 s6, .int .i64 s7, .int .i64 g0, .int .i64 g1, .int .i64 g2, .int .i64 g3, .int .i64 g4, .int .i64 g5, .int .i64 g6, .int .i64 g7, .int .i64 t0, .int .i64 t1, .int .i64 t2, .int .i64 t3, .int .i64 ma, .int .i64 mb, .int .i64 sa, .int .i64 na, .int .i64 sb, .int .i64 nb, .bool both, h0, h1, h2, h3, h4] 31 (0, 0))) (hH : w.cell? ⟨cb, 28 + hand, none⟩ = some (.slice A L.length c)) (hL : Kd.C k42 w A L.length L) (hlc : L.length ≤ c) (hlm : L.length ≤ 9223372036854775807) (hp : ¬ 0 ≤ walkP [s0, s1, s2, s3, s4, s5, s6, s7] [g0, g1, g2, g3, g4, g5, g6, g7] [t0, t1, t2, t3] ma mb hand L) :
  Calls Try.prog 11 #[.pointer (some ⟨cb, 0, none⟩), .int .i64 (hand : Int)] w fun e w' => (∃ v, e = .returned v) ∧ Below w.heap.size w w' := (walkR words s0 s1 s2 s3 s4 s5 s6 s7 g0 g1 g2 g3 g4 g5 g6 g7 t0 t1 t2 t3 ma mb sa na sb nb both h0 h1 h2 h3 h4 cb hand c hh A L w hc hH hL hlc hlm).mono fun e w' h => by
 rcases h with ⟨_, h⟩ | ⟨h, _⟩
 ·exact h
 exact absurd h hp
/-- What Check answers. -/
def checkP (words : Int) (st ag ct : List Int) (ma mb sa na sb nb : Int) (L : Nat → List S42) : Int × Int × Int :=
 if headsB words st ag ct ma mb sa na sb nb = false then (110, -1, 0) else match (List.range 5).find? (fun j => decide (0 ≤ walkP st ag ct ma mb j (L j))) with
  | some j => (110, (j : Int), walkP st ag ct ma mb j (L j))
  | none => (0, 0, 0)
theorem check_bad {words : Int} {st ag ct : List Int} {ma mb sa na sb nb : Int} {L : Nat → List S42} {i : Nat} (hh : headsB words st ag ct ma mb sa na sb nb = true) (hi : i < 5) (hb : 0 ≤ walkP st ag ct ma mb i (L i)) (hn : ∀ j, j < i → ¬ 0 ≤ walkP st ag ct ma mb j (L j)) : checkP words st ag ct ma mb sa na sb nb L = (110, (i : Int), walkP st ag ct ma mb i (L i)) := by
 unfold checkP
 rw [hh, if_neg (by decide)]
 have : (List.range 5).find? (fun j => decide (0 ≤ walkP st ag ct ma mb j (L j))) = some i := by
  rw [List.find?_range_eq_some]
  refine ⟨decide_eq_true hb, List.mem_range.2 hi, fun j hj => ?_⟩
  rw [decide_eq_false (hn j hj)]
  rfl
 rw [this]
theorem check_ok {words : Int} {st ag ct : List Int} {ma mb sa na sb nb : Int} {L : Nat → List S42} (hh : headsB words st ag ct ma mb sa na sb nb = true) (hn : ∀ j, j < 5 → ¬ 0 ≤ walkP st ag ct ma mb j (L j)) : checkP words st ag ct ma mb sa na sb nb L = (0, 0, 0) := by
 unfold checkP
 rw [hh, if_neg (by decide)]
 have : (List.range 5).find? (fun j => decide (0 ≤ walkP st ag ct ma mb j (L j))) = none := by
  rw [List.find?_eq_none]
  intro j hj
  rw [decide_eq_false (hn j (List.mem_range.1 hj))]
  decide
 rw [this]
theorem check_heads {words : Int} {st ag ct : List Int} {ma mb sa na sb nb : Int} {L : Nat → List S42} (hh : headsB words st ag ct ma mb sa na sb nb = false) : checkP words st ag ct ma mb sa na sb nb L = (110, -1, 0) := by
 unfold checkP
 rw [hh, if_pos rfl]
set_option maxHeartbeats 8000000 in
set_option maxRecDepth 100000 in
theorem checkR (words s0 s1 s2 s3 s4 s5 s6 s7 g0 g1 g2 g3 g4 g5 g6 g7 t0 t1 t2 t3 ma mb sa na sb nb : Int) (both : Bool) (h0 h1 h2 h3 h4 : Value) (A : Nat → Option Addr) (c : Nat → Nat) (L : Nat → List S42) (w : World) (hH : ∀ j, j < 5 → [h0, h1, h2, h3, h4].getD j undef = .slice (A j) (L j).length (c j) ∧ Kd.C k42 w (A j) (L j).length (L j) ∧ (L j).length ≤ c j ∧ (L j).length ≤ 9223372036854775807) :
  Calls Try.prog 5 #[.agg #[.int .i64 words, .int .i64 s0, .int .i64 s1, .int .i64 s2, .int .i64 s3, .int .i64 s4, .int .i64 s5, .int .i64 s6, .int .i64 s7, .int .i64 g0, .int .i64 g1, .int .i64 g2, .int .i64 g3, .int .i64 g4, .int .i64 g5, .int .i64 g6, .int .i64 g7, .int .i64 t0, .int .i64 t1, .int .i64 t2, .int .i64 t3, .int .i64 ma, .int .i64 mb, .int .i64 sa, .int .i64 na, .int .i64 sb, .int .i64 nb, .bool both, h0, h1, h2, h3, h4]] w fun e w' => e = .returned (.tuple #[.int .i64 (checkP words [s0, s1, s2, s3, s4, s5, s6, s7] [g0, g1, g2, g3, g4, g5, g6, g7] [t0, t1, t2, t3] ma mb sa na sb nb L).1, .int .i64 (checkP words [s0, s1, s2, s3, s4, s5, s6, s7] [g0, g1, g2, g3, g4, g5, g6, g7] [t0, t1, t2, t3] ma mb sa na sb nb L).2.1, .int .i64 (checkP words [s0, s1, s2, s3, s4, s5, s6, s7] [g0, g1, g2, g3, g4, g5, g6, g7] [t0, t1, t2, t3] ma mb sa na sb nb L).2.2]) ∧ Below w.heap.size w w' := by
 have hmf : ∀ (fn : Fn) (first cap : Array Value) (w : World), (Instr.makeFunc fn first cap).run Try.prog w = .ok (.func fn first cap) w := fun _ _ _ _ => rfl
 go_enter_defers Try.func5, Try.ntmps5
 go_upto_region 2 with (fail)
 have n0_ := blk_alloc (blk_alloc (blk_alloc (heap_alloc_new w (.cells #[.int .i64 words, .int .i64 s0, .int .i64 s1, .int .i64 s2, .int .i64 s3, .int .i64 s4, .int .i64 s5, .int .i64 s6, .int .i64 s7, .int .i64 g0, .int .i64 g1, .int .i64 g2, .int .i64 g3, .int .i64 g4, .int .i64 g5, .int .i64 g6, .int .i64 g7, .int .i64 t0, .int .i64 t1, .int .i64 t2, .int .i64 t3, .int .i64 ma, .int .i64 mb, .int .i64 sa, .int .i64 na, .int .i64 sb, .int .i64 nb, .bool both, h0, h1, h2, h3, h4] 31)) (.cells #[.int .i64 0] 33)) (.cells #[.int .i64 0] 3)) (.cells #[.int .i64 0] 3)
 have n1_ := blk_alloc (blk_alloc (heap_alloc_new (w.alloc (.cells #[.int .i64 words, .int .i64 s0, .int .i64 s1, .int .i64 s2, .int .i64 s3, .int .i64 s4, .int .i64 s5, .int .i64 s6, .int .i64 s7, .int .i64 g0, .int .i64 g1, .int .i64 g2, .int .i64 g3, .int .i64 g4, .int .i64 g5, .int .i64 g6, .int .i64 g7, .int .i64 t0, .int .i64 t1, .int .i64 t2, .int .i64 t3, .int .i64 ma, .int .i64 mb, .int .i64 sa, .int .i64 na, .int .i64 sb, .int .i64 nb, .bool both, h0, h1, h2, h3, h4] 31)) (.cells #[.int .i64 0] 33)) (.cells #[.int .i64 0] 3)) (.cells #[.int .i64 0] 3)
 have n2_ := blk_alloc (heap_alloc_new ((w.alloc (.cells #[.int .i64 words, .int .i64 s0, .int .i64 s1, .int .i64 s2, .int .i64 s3, .int .i64 s4, .int .i64 s5, .int .i64 s6, .int .i64 s7, .int .i64 g0, .int .i64 g1, .int .i64 g2, .int .i64 g3, .int .i64 g4, .int .i64 g5, .int .i64 g6, .int .i64 g7, .int .i64 t0, .int .i64 t1, .int .i64 t2, .int .i64 t3, .int .i64 ma, .int .i64 mb, .int .i64 sa, .int .i64 na, .int .i64 sb, .int .i64 nb, .bool both, h0, h1, h2, h3, h4] 31)).alloc (.cells #[.int .i64 0] 33)) (.cells #[.int .i64 0] 3)) (.cells #[.int .i64 0] 3)
 have n3_ := heap_alloc_new (((w.alloc (.cells #[.int .i64 words, .int .i64 s0, .int .i64 s1, .int .i64 s2, .int .i64 s3, .int .i64 s4, .int .i64 s5, .int .i64 s6, .int .i64 s7, .int .i64 g0, .int .i64 g1, .int .i64 g2, .int .i64 g3, .int .i64 g4, .int .i64 g5, .int .i64 g6, .int .i64 g7, .int .i64 t0, .int .i64 t1, .int .i64 t2, .int .i64 t3, .int .i64 ma, .int .i64 mb, .int .i64 sa, .int .i64 na, .int .i64 sb, .int .i64 nb, .bool both, h0, h1, h2, h3, h4] 31)).alloc (.cells #[.int .i64 0] 33)).alloc (.cells #[.int .i64 0] 3)) (.cells #[.int .i64 0] 3)
 simp only [World.size_alloc] at n1_ n2_ n3_
 have HC := Aside0.mk n0_
 have H1 := Aside0.mk n1_
 have H2 := Aside0.mk n2_
 have H3 := Aside0.mk n3_
 have HB := Aside0.mk (below_alloc (below_alloc (below_alloc (below_alloc (Below.refl w.heap.size w) (.cells #[.int .i64 words, .int .i64 s0, .int .i64 s1, .int .i64 s2, .int .i64 s3, .int .i64 s4, .int .i64 s5, .int .i64 s6, .int .i64 s7, .int .i64 g0, .int .i64 g1, .int .i64 g2, .int .i64 g3, .int .i64 g4, .int .i64 g5, .int .i64 g6, .int .i64 g7, .int .i64 t0, .int .i64 t1, .int .i64 t2, .int .i64 t3, .int .i64 ma, .int .i64 mb, .int .i64 sa, .int .i64 na, .int .i64 sb, .int .i64 nb, .bool both, h0, h1, h2, h3, h4] 31)) (.cells #[.int .i64 0] 33)) (.cells #[.int .i64 0] 3)) (.cells #[.int .i64 0] 3))
 clear n0_ n1_ n2_ n3_
 generalize (((w.alloc (.cells #[.int .i64 words, .int .i64 s0, .int .i64 s1, .int .i64 s2, .int .i64 s3, .int .i64 s4, .int .i64 s5, .int .i64 s6, .int .i64 s7, .int .i64 g0, .int .i64 g1, .int .i64 g2, .int .i64 g3, .int .i64 g4, .int .i64 g5, .int .i64 g6, .int .i64 g7, .int .i64 t0, .int .i64 t1, .int .i64 t2, .int .i64 t3, .int .i64 ma, .int .i64 mb, .int .i64 sa, .int .i64 na, .int .i64 sb, .int .i64 nb, .bool both, h0, h1, h2, h3, h4] 31)).alloc (.cells #[.int .i64 0] 33)).alloc (.cells #[.int .i64 0] 3)).alloc (.cells #[.int .i64 0] 3) = w4 at HC H1 H2 H3 HB ⊢
 have HDS := Aside0.mk (show ∀ W W' : World, Below W.heap.size W W' → W.heap[w.heap.size]? = some (.cells #[.int .i64 words, .int .i64 s0, .int .i64 s1, .int .i64 s2, .int .i64 s3, .int .i64 s4, .int .i64 s5, .int .i64 s6, .int .i64 s7, .int .i64 g0, .int .i64 g1, .int .i64 g2, .int .i64 g3, .int .i64 g4, .int .i64 g5, .int .i64 g6, .int .i64 g7, .int .i64 t0, .int .i64 t1, .int .i64 t2, .int .i64 t3, .int .i64 ma, .int .i64 mb, .int .i64 sa, .int .i64 na, .int .i64 sb, .int .i64 nb, .bool both, h0, h1, h2, h3, h4] 31 (0, 0)) ∧ W.heap[w.heap.size + 1]? = some (.cells #[.int .i64 0] 33 (0, 0)) ∧ W.heap[w.heap.size + 1 + 1]? = some (.cells #[.int .i64 0] 3 (0, 0)) ∧ W.heap[w.heap.size + 1 + 1 + 1]? = some (.cells #[.int .i64 0] 3 (0, 0)) → W'.heap[w.heap.size]? = some (.cells #[.int .i64 words, .int .i64 s0, .int .i64 s1, .int .i64 s2, .int .i64 s3, .int .i64 s4, .int .i64 s5, .int .i64 s6, .int .i64 s7, .int .i64 g0, .int .i64 g1, .int .i64 g2, .int .i64 g3, .int .i64 g4, .int .i64 g5, .int .i64 g6, .int .i64 g7, .int .i64 t0, .int .i64 t1, .int .i64 t2, .int .i64 t3, .int .i64 ma, .int .i64 mb, .int .i64 sa, .int .i64 na, .int .i64 sb, .int .i64 nb, .bool both, h0, h1, h2, h3, h4] 31 (0, 0)) ∧ W'.heap[w.heap.size + 1]? = some (.cells #[.int .i64 0] 33 (0, 0)) ∧ W'.heap[w.heap.size + 1 + 1]? = some (.cells #[.int .i64 0] 3 (0, 0)) ∧ W'.heap[w.heap.size + 1 + 1 + 1]? = some (.cells #[.int .i64 0] 3 (0, 0)) from fun W W' hb h => ⟨(hb.block _ (blk_lt h.1)).trans h.1, (hb.block _ (blk_lt h.2.1)).trans h.2.1, (hb.block _ (blk_lt h.2.2.1)).trans h.2.2.1, (hb.block _ (blk_lt h.2.2.2)).trans h.2.2.2⟩)
 have HA := Aside0.mk (And.intro HC.out (And.intro H1.out (And.intro H2.out H3.out)))
 clear HC H1 H2 H3
 have HHD := Aside0.mk (fun (W : World) (h : W.heap[w.heap.size]? = some (.cells #[.int .i64 words, .int .i64 s0, .int .i64 s1, .int .i64 s2, .int .i64 s3, .int .i64 s4, .int .i64 s5, .int .i64 s6, .int .i64 s7, .int .i64 g0, .int .i64 g1, .int .i64 g2, .int .i64 g3, .int .i64 g4, .int .i64 g5, .int .i64 g6, .int .i64 g7, .int .i64 t0, .int .i64 t1, .int .i64 t2, .int .i64 t3, .int .i64 ma, .int .i64 mb, .int .i64 sa, .int .i64 na, .int .i64 sb, .int .i64 nb, .bool both, h0, h1, h2, h3, h4] 31 (0, 0))) => headsR words s0 s1 s2 s3 s4 s5 s6 s7 g0 g1 g2 g3 g4 g5 g6 g7 t0 t1 t2 t3 ma mb sa na sb nb both h0 h1 h2 h3 h4 w.heap.size W h)
 obtain ⟨hz, hhz⟩ : ∃ z, headsB words [s0, s1, s2, s3, s4, s5, s6, s7] [g0, g1, g2, g3, g4, g5, g6, g7] [t0, t1, t2, t3] ma mb sa na sb nb = z := ⟨_, rfl⟩
 rw [hhz] at HHD
 have HHZ := Aside0.mk hhz
 clear hhz
 have HHH := Aside0.mk hH
 clear hH
 rcases hz with _ | _
 ·have HR := Aside0.mk (check_heads (L := L) HHZ.out)
  go_upto_region 3 with (go_at_call 10; refine (HHD.out _ HA.out.1).mono ?_; rintro e w5 ⟨rfl, hb⟩; have n0_ := Aside0.mk (HDS.out _ _ hb HA.out); have n1_ := Aside0.mk (below_step HB.out hb); clear HA HB hb; have HA := n0_; have HB := n1_; clear n0_ n1_)
  have c1 : _ = some (Value.int .i64 0) := blk_cell HA.out.2.1 0
  have c2 : _ = some (Value.int .i64 0) := blk_cell HA.out.2.2.1 0
  have c3 : _ = some (Value.int .i64 0) := blk_cell HA.out.2.2.2 0
  have f1 := blk_frozen HA.out.2.1 0
  have f2 := blk_frozen HA.out.2.2.1 0
  have f3 := blk_frozen HA.out.2.2.2 0
  go_wp2
  have n1_ := blk_far (p := ⟨w.heap.size + 1 + 1 + 1, 0, none⟩) (blk_far (p := ⟨w.heap.size + 1 + 1, 0, none⟩) (blk_set HA.out.2.1 0 (.int .i64 (110))) (show w.heap.size + 1 ≠ w.heap.size + 1 + 1 by omega) (.int .i64 (-1))) (show w.heap.size + 1 ≠ w.heap.size + 1 + 1 + 1 by omega) (.int .i64 (0))
  have n2_ := blk_far (p := ⟨w.heap.size + 1 + 1 + 1, 0, none⟩) (blk_set (blk_far (p := ⟨w.heap.size + 1, 0, none⟩) HA.out.2.2.1 (show w.heap.size + 1 + 1 ≠ w.heap.size + 1 by omega) (.int .i64 (110))) 0 (.int .i64 (-1))) (show w.heap.size + 1 + 1 ≠ w.heap.size + 1 + 1 + 1 by omega) (.int .i64 (0))
  have n3_ := blk_set (blk_far (p := ⟨w.heap.size + 1 + 1, 0, none⟩) (blk_far (p := ⟨w.heap.size + 1, 0, none⟩) HA.out.2.2.2 (show w.heap.size + 1 + 1 + 1 ≠ w.heap.size + 1 by omega) (.int .i64 (110))) (show w.heap.size + 1 + 1 + 1 ≠ w.heap.size + 1 + 1 by omega) (.int .i64 (-1))) 0 (.int .i64 (0))
  have n4_ := below_set (j := 0) (v := .int .i64 (0)) (below_set (j := 0) (v := .int .i64 (-1)) (below_set (j := 0) (v := .int .i64 (110)) HB.out (show w.heap.size ≤ w.heap.size + 1 by omega)) (show w.heap.size ≤ w.heap.size + 1 + 1 by omega)) (show w.heap.size ≤ w.heap.size + 1 + 1 + 1 by omega)
  generalize ((w5.setCell ⟨w.heap.size + 1, 0, none⟩ (.int .i64 (110))).setCell ⟨w.heap.size + 1 + 1, 0, none⟩ (.int .i64 (-1))).setCell ⟨w.heap.size + 1 + 1 + 1, 0, none⟩ (.int .i64 (0)) = w6 at n1_ n2_ n3_ n4_ ⊢
  refine leaves_cons (f := 9) (args := #[.pointer (some ⟨w.heap.size + 1, 0, none⟩), .pointer (some ⟨w.heap.size + 1 + 1, 0, none⟩), .pointer (some ⟨w.heap.size + 1 + 1 + 1, 0, none⟩)]) (by simp) (by simp [go_sem]) ?_
  refine (catchI _ _ _ _).mono ?_
  rintro e u' w7 ⟨rfl, rfl, hb⟩
  have k1 : _ = some (Value.int .i64 (110)) := blk_cell ((hb.block _ (blk_lt n1_)).trans n1_) 0
  have k2 : _ = some (Value.int .i64 (-1)) := blk_cell ((hb.block _ (blk_lt n2_)).trans n2_) 0
  have k3 : _ = some (Value.int .i64 (0)) := blk_cell ((hb.block _ (blk_lt n3_)).trans n3_) 0
  have k4 := below_step n4_ hb
  rw [HR.out]
  simp [Leaves, settle, results, Try.results5, go_sem, k1, k2, k3]
  exact k4
 go_upto_region 4 with (go_at_call 10; refine (HHD.out _ HA.out.1).mono ?_; rintro e w5 ⟨rfl, hb⟩; have n0_ := Aside0.mk (HDS.out _ _ hb HA.out); have n1_ := Aside0.mk (below_step HB.out hb); clear HA HB hb; have HA := n0_; have HB := n1_; clear n0_ n1_)
 clear HHD
 go_wp2
 go_loopg [9] 5 (fun kq v9 w' => ∃ j : Nat, v9 = .int .i64 (j : Int) ∧ Aside0 (kq + j = 5) ∧ Aside0 (∀ q, q < j → ¬ 0 ≤ walkP [s0, s1, s2, s3, s4, s5, s6, s7] [g0, g1, g2, g3, g4, g5, g6, g7] [t0, t1, t2, t3] ma mb q (L q)) ∧ Aside0 (w'.heap[w.heap.size]? = some (.cells #[.int .i64 words, .int .i64 s0, .int .i64 s1, .int .i64 s2, .int .i64 s3, .int .i64 s4, .int .i64 s5, .int .i64 s6, .int .i64 s7, .int .i64 g0, .int .i64 g1, .int .i64 g2, .int .i64 g3, .int .i64 g4, .int .i64 g5, .int .i64 g6, .int .i64 g7, .int .i64 t0, .int .i64 t1, .int .i64 t2, .int .i64 t3, .int .i64 ma, .int .i64 mb, .int .i64 sa, .int .i64 na, .int .i64 sb, .int .i64 nb, .bool both, h0, h1, h2, h3, h4] 31 (0, 0)) ∧ w'.heap[w.heap.size + 1]? = some (.cells #[.int .i64 0] 33 (0, 0)) ∧ w'.heap[w.heap.size + 1 + 1]? = some (.cells #[.int .i64 0] 3 (0, 0)) ∧ w'.heap[w.heap.size + 1 + 1 + 1]? = some (.cells #[.int .i64 0] 3 (0, 0))) ∧ Aside0 (Below w.heap.size w w'))
 case atStart => exact ⟨0, rfl, ⟨rfl⟩, ⟨fun q hq => by omega⟩, HA, HB⟩
 case round =>
  clear HA HB
  obtain ⟨j, rfl, HJ, HQ, HA, HB⟩ := hrel
  by_cases hj : j < 5
  ·have d1 : decide ((j : Int) < 5) = true := decide_eq_true (by omega)
   have hh := HHH.out j hj
   have HCL := Aside0.mk (show wr.cell? ⟨w.heap.size, 28 + j, none⟩ = some (.slice (A j) (L j).length (c j)) by
    rw [blk_cell HA.out.1 (28 + j), ← hh.1]
    have : j = 0 ∨ j = 1 ∨ j = 2 ∨ j = 3 ∨ j = 4 := by omega
    rcases this with rfl | rfl | rfl | rfl | rfl <;> rfl)
   have HKC := Aside0.mk (Kd.C_below hh.2.1 HB.out)
   have HJ5 := Aside0.mk hj
   obtain ⟨k1_, rfl⟩ : ∃ k1_, gk = k1_ + 1 := ⟨gk - 1, by have := HJ.out; omega⟩
   clear hj
   by_cases hw : 0 ≤ walkP [s0, s1, s2, s3, s4, s5, s6, s7] [g0, g1, g2, g3, g4, g5, g6, g7] [t0, t1, t2, t3] ma mb j (L j)
   ·have HR := Aside0.mk (check_bad (L := L) HHZ.out HJ5.out hw HQ.out)
    have HWB := Aside0.mk (walkBad words s0 s1 s2 s3 s4 s5 s6 s7 g0 g1 g2 g3 g4 g5 g6 g7 t0 t1 t2 t3 ma mb sa na sb nb both h0 h1 h2 h3 h4 w.heap.size j (c j) HJ5.out (A j) (L j) wr HA.out.1 HCL.out HKC.out hh.2.2.1 hh.2.2.2 hw)
    clear hw hh
    go_wp2_with (go_at_call 11; refine HWB.out.mono ?_; rintro e w6 ⟨rfl, hb⟩; have n0_ := Aside0.mk (HDS.out _ _ hb HA.out); have n1_ := Aside0.mk (below_step HB.out hb); clear HA HB hb; have HA := n0_; have HB := n1_; clear n0_ n1_)
    obtain ⟨z, hz⟩ : ∃ z, walkP [s0, s1, s2, s3, s4, s5, s6, s7] [g0, g1, g2, g3, g4, g5, g6, g7] [t0, t1, t2, t3] ma mb j (L j) = z := ⟨_, rfl⟩
    rw [hz]
    rw [hz] at HR
    have n1_ := blk_far (p := ⟨w.heap.size + 1 + 1 + 1, 0, none⟩) (blk_far (p := ⟨w.heap.size + 1 + 1, 0, none⟩) (blk_set (blk_alloc HA.out.2.1 (.cells #[.int .i64 (j : Int), .int .i64 z] 44)) 0 (.int .i64 (110))) (show w.heap.size + 1 ≠ w.heap.size + 1 + 1 by omega) (.int .i64 ((j : Int)))) (show w.heap.size + 1 ≠ w.heap.size + 1 + 1 + 1 by omega) (.int .i64 (z))
    have n2_ := blk_far (p := ⟨w.heap.size + 1 + 1 + 1, 0, none⟩) (blk_set (blk_far (p := ⟨w.heap.size + 1, 0, none⟩) (blk_alloc HA.out.2.2.1 (.cells #[.int .i64 (j : Int), .int .i64 z] 44)) (show w.heap.size + 1 + 1 ≠ w.heap.size + 1 by omega) (.int .i64 (110))) 0 (.int .i64 ((j : Int)))) (show w.heap.size + 1 + 1 ≠ w.heap.size + 1 + 1 + 1 by omega) (.int .i64 (z))
    have n3_ := blk_set (blk_far (p := ⟨w.heap.size + 1 + 1, 0, none⟩) (blk_far (p := ⟨w.heap.size + 1, 0, none⟩) (blk_alloc HA.out.2.2.2 (.cells #[.int .i64 (j : Int), .int .i64 z] 44)) (show w.heap.size + 1 + 1 + 1 ≠ w.heap.size + 1 by omega) (.int .i64 (110))) (show w.heap.size + 1 + 1 + 1 ≠ w.heap.size + 1 + 1 by omega) (.int .i64 ((j : Int)))) 0 (.int .i64 (z))
    have n4_ := below_set (j := 0) (v := .int .i64 (z)) (below_set (j := 0) (v := .int .i64 ((j : Int))) (below_set (j := 0) (v := .int .i64 (110)) (below_alloc HB.out (.cells #[.int .i64 (j : Int), .int .i64 z] 44)) (show w.heap.size ≤ w.heap.size + 1 by omega)) (show w.heap.size ≤ w.heap.size + 1 + 1 by omega)) (show w.heap.size ≤ w.heap.size + 1 + 1 + 1 by omega)
    refine leaves_cons (f := 9) (args := #[.pointer (some ⟨w.heap.size + 1, 0, none⟩), .pointer (some ⟨w.heap.size + 1 + 1, 0, none⟩), .pointer (some ⟨w.heap.size + 1 + 1 + 1, 0, none⟩)]) (by simp) (by simp [go_sem]) ?_
    refine (catchP (w.heap.size + 1) (w.heap.size + 1 + 1) (w.heap.size + 1 + 1 + 1) (j : Int) z 0 0 0 [] w6 HA.out.2.1 HA.out.2.2.1 HA.out.2.2.2 (by omega) (by omega) (by omega)).mono ?_
    rintro e u' w7 ⟨rfl, rfl, hw7⟩
    rw [hw7]
    generalize (((w6.alloc (.cells #[.int .i64 (j : Int), .int .i64 z] 44)).setCell ⟨w.heap.size + 1, 0, none⟩ (.int .i64 110)).setCell ⟨w.heap.size + 1 + 1, 0, none⟩ (.int .i64 (j : Int))).setCell ⟨w.heap.size + 1 + 1 + 1, 0, none⟩ (.int .i64 z) = w8 at n1_ n2_ n3_ n4_ ⊢
    have k1 : _ = some (Value.int .i64 110) := blk_cell n1_ 0
    have k2 : _ = some (Value.int .i64 (j : Int)) := blk_cell n2_ 0
    have k3 : _ = some (Value.int .i64 z) := blk_cell n3_ 0
    have k4 := below_drew n4_
    rw [HR.out]
    simp [Leaves, settle, results, Try.results5, go_sem, k1, k2, k3]
    exact k4
   have HQ2 := Aside0.mk (show ∀ q, q < j + 1 → ¬ 0 ≤ walkP [s0, s1, s2, s3, s4, s5, s6, s7] [g0, g1, g2, g3, g4, g5, g6, g7] [t0, t1, t2, t3] ma mb q (L q) from fun q hq => by
    by_cases e : q = j
    ·subst e; exact hw
    exact HQ.out q (by omega))
   have HWG := Aside0.mk (walkGood words s0 s1 s2 s3 s4 s5 s6 s7 g0 g1 g2 g3 g4 g5 g6 g7 t0 t1 t2 t3 ma mb sa na sb nb both h0 h1 h2 h3 h4 w.heap.size j (c j) HJ5.out (A j) (L j) wr HA.out.1 HCL.out HKC.out hh.2.2.1 hh.2.2.2 hw)
   clear hw hh
   go_wp2_with (go_at_call 11; refine HWG.out.mono ?_; rintro e w6 ⟨⟨v_, rfl⟩, hb⟩; have n0_ := Aside0.mk (HDS.out _ _ hb HA.out); have n1_ := Aside0.mk (below_step HB.out hb); clear HA HB hb; have HA := n0_; have HB := n1_; clear n0_ n1_)
   go_roundg k1_
   case measure => omega
   case rel => exact ⟨j + 1, (by first | rfl | (congr 1; have := HJ5.out; unfold wrap64; omega)), ⟨by have := HJ.out; omega⟩, HQ2, HA, HB⟩
  have d1 : decide ((j : Int) < 5) = false := decide_eq_false (by omega)
  have HR := Aside0.mk (check_ok (L := L) HHZ.out (fun q hq => HQ.out q (by omega)))
  have c1 : _ = some (Value.int .i64 0) := blk_cell HA.out.2.1 0
  have c2 : _ = some (Value.int .i64 0) := blk_cell HA.out.2.2.1 0
  have c3 : _ = some (Value.int .i64 0) := blk_cell HA.out.2.2.2 0
  have f1 := blk_frozen HA.out.2.1 0
  have f2 := blk_frozen HA.out.2.2.1 0
  have f3 := blk_frozen HA.out.2.2.2 0
  go_wp2
  have n1_ := blk_far (p := ⟨w.heap.size + 1 + 1 + 1, 0, none⟩) (blk_far (p := ⟨w.heap.size + 1 + 1, 0, none⟩) (blk_set HA.out.2.1 0 (.int .i64 (0))) (show w.heap.size + 1 ≠ w.heap.size + 1 + 1 by omega) (.int .i64 (0))) (show w.heap.size + 1 ≠ w.heap.size + 1 + 1 + 1 by omega) (.int .i64 (0))
  have n2_ := blk_far (p := ⟨w.heap.size + 1 + 1 + 1, 0, none⟩) (blk_set (blk_far (p := ⟨w.heap.size + 1, 0, none⟩) HA.out.2.2.1 (show w.heap.size + 1 + 1 ≠ w.heap.size + 1 by omega) (.int .i64 (0))) 0 (.int .i64 (0))) (show w.heap.size + 1 + 1 ≠ w.heap.size + 1 + 1 + 1 by omega) (.int .i64 (0))
  have n3_ := blk_set (blk_far (p := ⟨w.heap.size + 1 + 1, 0, none⟩) (blk_far (p := ⟨w.heap.size + 1, 0, none⟩) HA.out.2.2.2 (show w.heap.size + 1 + 1 + 1 ≠ w.heap.size + 1 by omega) (.int .i64 (0))) (show w.heap.size + 1 + 1 + 1 ≠ w.heap.size + 1 + 1 by omega) (.int .i64 (0))) 0 (.int .i64 (0))
  have n4_ := below_set (j := 0) (v := .int .i64 (0)) (below_set (j := 0) (v := .int .i64 (0)) (below_set (j := 0) (v := .int .i64 (0)) HB.out (show w.heap.size ≤ w.heap.size + 1 by omega)) (show w.heap.size ≤ w.heap.size + 1 + 1 by omega)) (show w.heap.size ≤ w.heap.size + 1 + 1 + 1 by omega)
  generalize ((wr.setCell ⟨w.heap.size + 1, 0, none⟩ (.int .i64 (0))).setCell ⟨w.heap.size + 1 + 1, 0, none⟩ (.int .i64 (0))).setCell ⟨w.heap.size + 1 + 1 + 1, 0, none⟩ (.int .i64 (0)) = w6 at n1_ n2_ n3_ n4_ ⊢
  refine leaves_cons (f := 9) (args := #[.pointer (some ⟨w.heap.size + 1, 0, none⟩), .pointer (some ⟨w.heap.size + 1 + 1, 0, none⟩), .pointer (some ⟨w.heap.size + 1 + 1 + 1, 0, none⟩)]) (by simp) (by simp [go_sem]) ?_
  refine (catchI _ _ _ _).mono ?_
  rintro e u' w7 ⟨rfl, rfl, hb⟩
  have k1 : _ = some (Value.int .i64 (0)) := blk_cell ((hb.block _ (blk_lt n1_)).trans n1_) 0
  have k2 : _ = some (Value.int .i64 (0)) := blk_cell ((hb.block _ (blk_lt n2_)).trans n2_) 0
  have k3 : _ = some (Value.int .i64 (0)) := blk_cell ((hb.block _ (blk_lt n3_)).trans n3_) 0
  have k4 := below_step n4_ hb
  rw [HR.out]
  simp [Leaves, settle, results, Try.results5, go_sem, k1, k2, k3]
  exact k4
end Check
end Go.Proofs.Ytcpcpmojallcdaa.QLoomChecks
