/- LoomChecks: Stk Sights WalkerA WalkerB. Conditions: as each theorem says. -/
import Derived.BigQuiet
import Derived.WalkLawsBesides
import Derived.DiesKit
import Derived.Test.YtcpcpmojallcdaaLcQ
import Derived.Test.YtcpcpmojallcdaaLcGA
import Derived.Test.YtcpcpmojallcdaaLcGB
namespace Go.Proofs.Ytcpcpmojallcdaa.QLoomChecks
open Go.RowKit Go.Proofs.YtcpcpmojallcdaaW.PrintWords Go.Proofs.YtcpcpmojallcdaaW.PrintLast Go.Proofs.YtcpcpmojallcdaaW.PrintMore
set_option linter.unusedVariables false
set_option linter.unusedSimpArgs false
section Stk
/-- A block below N, or one that is no row of kinds. -/
def Safe (N : Nat) (w : World) (k : Nat) : Prop := k < N ∨ ∃ cs t, w.heap[k]? = some (.cells cs t (0, 0)) ∧ t ≠ 22
/-- What is safe stays, but for two blocks. -/
structure Holds (N b g : Nat) (w w' : World) : Prop where
  os : w'.os = w.os
  tape : w'.tape = w.tape
  output : w'.output = w.output
  size : w.heap.size ≤ w'.heap.size
  block : ∀ k, Safe N w k → k ≠ b → k ≠ g → w'.heap[k]? = w.heap[k]?
theorem Safe.same {N k : Nat} {w w1 : World} (h : Safe N w k) (e : w1.heap[k]? = w.heap[k]?) : Safe N w1 k := by
  rcases h with h | ⟨cs, t, h, ht⟩
  · exact .inl h
  exact .inr ⟨cs, t, e.trans h, ht⟩
theorem Safe.lt {N k : Nat} {w : World} (h : Safe N w k) (hN : N ≤ w.heap.size) : k < w.heap.size := by
  rcases h with h | ⟨cs, t, h, ht⟩
  · omega
  exact blk_lt h
theorem Holds.refl (N b g : Nat) (w : World) : Holds N b g w w := ⟨rfl, rfl, rfl, Nat.le_refl _, fun _ _ _ _ => rfl⟩
theorem Holds.trans {N b g : Nat} {w w1 w2 : World} (h : Holds N b g w w1) (k : Holds N b g w1 w2) : Holds N b g w w2 :=
  ⟨k.os.trans h.os, k.tape.trans h.tape, k.output.trans h.output, Nat.le_trans h.size k.size, fun i h1 h2 h3 => (k.block i (h1.same (h.block i h1 h2 h3)) h2 h3).trans (h.block i h1 h2 h3)⟩
theorem Holds.of_below {N : Nat} (b g : Nat) {w w1 : World} (hN : N ≤ w.heap.size) (h : Below w.heap.size w w1) : Holds N b g w w1 := ⟨h.os, h.tape, h.output, h.size, fun k hk _ _ => h.block k (hk.lt hN)⟩
theorem Holds.step {N b g : Nat} {w w1 w2 : World} (h : Holds N b g w w1) (hN : N ≤ w1.heap.size) (k : Below w1.heap.size w1 w2) : Holds N b g w w2 := h.trans (.of_below b g hN k)
theorem Holds.more {N b : Nat} (g : Nat) {w w1 : World} (h : Holds N b b w w1) : Holds N b g w w1 := ⟨h.os, h.tape, h.output, h.size, fun k h1 h2 _ => h.block k h1 h2 h2⟩
theorem Holds.below {N M b g : Nat} {w w1 : World} (h : Holds N b g w w1) (hM : M ≤ N) (hb : M ≤ b) (hg : M ≤ g) : Below M w w1 := ⟨h.os, h.tape, h.output, h.size, fun k hk => h.block k (.inl (by omega)) (by omega) (by omega)⟩
theorem Holds.set {N b g : Nat} {w w1 : World} (h : Holds N b g w w1) (p : Addr) (v : Value) (hp : p.block = b ∨ p.block = g) : Holds N b g w (w1.setCell p v) :=
  ⟨h.os, h.tape, h.output, by rw [show (w1.setCell p v).heap.size = w1.heap.size by simp [World.setCell]]; exact h.size, fun k h1 h2 h3 => (Below.heap_setCell w1 p v k (fun e => by rcases hp with hp | hp <;> omega)).trans (h.block k h1 h2 h3)⟩
theorem Holds.drewN {N b g : Nat} {w w1 : World} (h : Holds N b g w w1) (n : Nat) : Holds N b g w (w1.drewN n) := ⟨h.os, h.tape, h.output, h.size, h.block⟩
theorem Holds.blk {N b g i t : Nat} {w w1 : World} {cs : Array Value} (h : Holds N b g w w1) (hi : w.heap[i]? = some (.cells cs t (0, 0))) (hN : i < N ∨ t ≠ 22) (hb : i ≠ b) (hg : i ≠ g) : w1.heap[i]? = some (.cells cs t (0, 0)) := (h.block i (hN.elim .inl (fun ht => .inr ⟨cs, t, hi, ht⟩)) hb hg).trans hi
/-- A stack of kinds: nothing, or a row of its own at N or behind. -/
def StkV (N : Nat) (w : World) (v : Value) (ks : List Int) : Prop :=
  (ks = [] ∧ ∃ A, v = .slice A 0 0) ∨ ∃ g cap cur, v = .slice (some ⟨g, 0, none⟩) ks.length cap ∧ N ≤ g ∧ w.heap[g]? = some (.cells cur 22 (0, 0)) ∧ ks.length ≤ cap ∧ cap ≤ maxLen ∧ cur.size = cap ∧ cur.toList.take ks.length = nums .i64 ks
/-- A stack that is read. -/
def StkR (w : World) (v : Value) (ks : List Int) : Prop :=
  ∃ A c, v = .slice A ks.length c ∧ ks.length ≤ c ∧ c ≤ maxLen ∧ (0 < ks.length → ∃ q cur, A = some ⟨q, 0, none⟩ ∧ w.heap[q]? = some (.cells cur 22 (0, 0)) ∧ cur.toList.take ks.length = nums .i64 ks)
theorem StkV.read {N : Nat} {w : World} {v : Value} {ks : List Int} (h : StkV N w v ks) : StkR w v ks := by
  rcases h with ⟨rfl, A, rfl⟩ | ⟨g, cap, cur, rfl, _, hh, hl, hcm, _, ht⟩
  · exact ⟨A, 0, rfl, Nat.le_refl _, Nat.zero_le _, fun h => absurd h (by simp)⟩
  exact ⟨_, cap, rfl, hl, hcm, fun _ => ⟨g, cur, rfl, hh, ht⟩⟩
theorem StkV.nil (N : Nat) (w : World) (A : Option Addr) : StkV N w (.slice A 0 0) [] := .inl ⟨rfl, A, rfl⟩
theorem StkV.move {N : Nat} {w w1 : World} {v : Value} {ks : List Int} (h : StkV N w v ks) (hm : ∀ (k : Nat) (cur : Array Value), N ≤ k → w.heap[k]? = some (.cells cur 22 (0, 0)) → w1.heap[k]? = w.heap[k]?) : StkV N w1 v ks := by
  rcases h with h | ⟨g, cap, cur, rfl, hN, hh, r⟩
  · exact .inl h
  exact .inr ⟨g, cap, cur, rfl, hN, (hm g cur hN hh).trans hh, r⟩
theorem StkR.move {w w1 : World} {v : Value} {ks : List Int} (h : StkR w v ks) (hm : ∀ (k : Nat) (cur : Array Value), w.heap[k]? = some (.cells cur 22 (0, 0)) → w1.heap[k]? = w.heap[k]?) : StkR w1 v ks := by
  obtain ⟨A, c, rfl, hl, hm_, hr⟩ := h
  refine ⟨A, c, rfl, hl, hm_, fun h0 => ?_⟩
  obtain ⟨q, cur, rfl, hh, ht⟩ := hr h0
  exact ⟨q, cur, rfl, (hm q cur hh).trans hh, ht⟩
theorem StkR.below {w w1 : World} {v : Value} {ks : List Int} (h : StkR w v ks) (hb : Below w.heap.size w w1) : StkR w1 v ks := h.move (fun k cur hk => hb.block k (blk_lt hk))
theorem StkV.below {N : Nat} {w w1 : World} {v : Value} {ks : List Int} (h : StkV N w v ks) (hb : Below w.heap.size w w1) : StkV N w1 v ks := h.move (fun k cur _ hk => hb.block k (blk_lt hk))
/-- A store into a block of another type. -/
theorem far22 {w : World} {b t : Nat} {cells : Array Value} (hb : w.heap[b]? = some (.cells cells t (0, 0))) (ht : t ≠ 22) (j : Nat) (u : Value) (k : Nat) (cur : Array Value) (hk : w.heap[k]? = some (.cells cur 22 (0, 0))) : (w.setCell ⟨b, j, none⟩ u).heap[k]? = w.heap[k]? :=
  Below.heap_setCell w ⟨b, j, none⟩ u k (fun e => blk_ne hk hb (Ne.symm ht) e)
theorem StkV.set {N : Nat} {w : World} {v : Value} {ks : List Int} (h : StkV N w v ks) {b t : Nat} {cells : Array Value} (hb : w.heap[b]? = some (.cells cells t (0, 0))) (ht : t ≠ 22) (j : Nat) (u : Value) : StkV N (w.setCell ⟨b, j, none⟩ u) v ks := h.move (fun k cur _ hk => far22 hb ht j u k cur hk)
theorem StkR.set {w : World} {v : Value} {ks : List Int} (h : StkR w v ks) {b t : Nat} {cells : Array Value} (hb : w.heap[b]? = some (.cells cells t (0, 0))) (ht : t ≠ 22) (j : Nat) (u : Value) : StkR (w.setCell ⟨b, j, none⟩ u) v ks := h.move (fun k cur hk => far22 hb ht j u k cur hk)
theorem StkV.less {N M : Nat} {w : World} {v : Value} {ks : List Int} (h : StkV N w v ks) (hM : M ≤ N) : StkV M w v ks := by
  rcases h with h | ⟨g, cap, cur, rfl, hN, r⟩
  · exact .inl h
  exact .inr ⟨g, cap, cur, rfl, by omega, r⟩
/-- The kind at a place of a stack. -/
theorem StkR.cell {w : World} {v : Value} {ks : List Int} (h : StkR w v ks) (i : Nat) (hi : i < ks.length) : ∃ q c, v = .slice (some ⟨q, 0, none⟩) ks.length c ∧ ks.length ≤ c ∧ w.cell? ⟨q, i, none⟩ = some (.int .i64 (ks.getD i 0)) := by
  obtain ⟨A, c, rfl, hl, hm_, hr⟩ := h
  obtain ⟨q, cur, rfl, hh, ht⟩ := hr (by omega)
  refine ⟨q, c, rfl, hl, ?_⟩
  rw [blk_cell hh i]
  have h1 : (nums .i64 ks)[i]? = some (.int .i64 (ks.getD i 0)) := by
    rw [nums, List.getElem?_map, List.getElem?_eq_getElem hi, List.getD_eq_getElem?_getD, List.getElem?_eq_getElem hi]
    rfl
  rw [← ht, List.getElem?_take, if_pos hi] at h1
  rw [← Array.getElem?_toList]
  exact h1
theorem StkR.slice {w : World} {v : Value} {ks : List Int} (h : StkR w v ks) : ∃ A c, v = .slice A ks.length c ∧ ks.length ≤ c := by
  obtain ⟨A, c, rfl, hl, hm_, hr⟩ := h
  exact ⟨A, c, rfl, hl⟩
theorem StkV.take {N n c : Nat} {w : World} {A : Option Addr} {ks : List Int} (h : StkV N w (.slice A n c) ks) (m : Nat) (hm : m ≤ ks.length) : StkV N w (.slice A m c) (ks.take m) := by
  rcases h with ⟨rfl, A', he⟩ | ⟨g, cap, cur, he, hN, hh, hl, hc, hs, ht⟩
  · injection he with h1 h2 h3
    subst h3
    have : m = 0 := by simpa using hm
    subst this
    exact .inl ⟨rfl, A, rfl⟩
  injection he with h1 h2 h3
  subst h1; subst h3
  refine .inr ⟨g, c, cur, by rw [List.length_take, Nat.min_eq_left hm], hN, hh, by rw [List.length_take]; omega, hc, hs, ?_⟩
  rw [List.length_take, Nat.min_eq_left hm, nums, List.map_take, ← nums, ← ht, List.take_take, Nat.min_eq_left hm]
theorem StkR.C {w : World} {A : Option Addr} {n c : Nat} {ks : List Int} (h : StkR w (.slice A n c) ks) : (Kd.int .i64).C w A ks.length ks := by
  obtain ⟨A', c', he, hl, hm_, hr⟩ := h
  injection he with h1 h2 h3
  subst h1
  refine Kd.C_of_reads (d := (0 : Int)) (h1 := fun _ => rfl) ⟨rfl, ?_, fun h0 => ?_⟩
  · simp only [maxLen] at hm_
    omega
  obtain ⟨q, cur, rfl, hh, ht⟩ := hr h0
  refine ⟨_, rfl, fun j hj => ?_⟩
  have := StkR.cell (w := w) (v := .slice (some ⟨q, 0, none⟩) n c) ⟨_, c, by rw [h2], by omega, by omega, fun _ => ⟨q, cur, rfl, hh, ht⟩⟩ j (by omega)
  obtain ⟨q', c'', he2, _, hc⟩ := this
  injection he2 with h4 _ _
  injection h4 with h4
  injection h4 with h4 _ _
  subst h4
  rw [add_plain]
  exact hc
/-- What a row of kinds that grows leaves. -/
theorem keep_row {N : Nat} {W w1 : World} {o : Obj} {row : Option Nat} (hN : N ≤ W.heap.size) (hg : (W.alloc o).grownBy w1 row) (hr : ∀ k, row = some k → N ≤ k ∧ ∃ cur, W.heap[k]? = some (.cells cur 22 (0, 0))) : ∀ b g, Holds N b g W w1 := by
  intro b g
  refine ⟨hg.os, hg.tape, hg.output, by have := hg.size; rw [World.size_alloc] at this; omega, fun k hk _ _ => ?_⟩
  have hlt := hk.lt hN
  have h1 : w1.heap[k]? = (W.alloc o).heap[k]? := hg.block k (by rw [World.size_alloc]; omega) (fun e => by
    obtain ⟨h2, cur, h3⟩ := hr k e.symm
    rcases hk with hk | ⟨cs, t, h4, h5⟩
    · omega
    rw [h3] at h4
    injection h4 with h4
    injection h4 with _ h4 _
    exact h5 h4.symm)
  exact h1.trans (Below.heap_alloc W o k hlt)
/-- A kind appended. -/
theorem stk_push (ty : TypeId) (N : Nat) {W : World} {v : Value} {ks : List Int} (k : Int) (h : StkV N W v ks) (hN : N ≤ W.heap.size) (hl : ks.length ≤ 1000) :
    ∃ v1 w1, (Builtin.append_ #[63, 63] ty #[v, .slice (some ⟨W.heap.size, 0, none⟩) 1 1]).run Try.prog (W.alloc (.cells #[.int .i64 k] 22)) = .ok v1 w1 ∧ StkV N w1 v1 (ks ++ [k]) ∧ ∀ b g, Holds N b g W w1 := by
  have hinfo : (Try.prog.info? 22).map (fun i => (i.zero, i.size, i.bytes)) = some (some (.int .i64 0), 1, 8) := by kernel_rfl
  obtain ⟨i0, hi, hzz⟩ := Option.map_eq_some_iff.1 hinfo
  simp only [Prod.mk.injEq] at hzz
  obtain ⟨hz0, hz1, hz2⟩ := hzz
  have hnews := World.news_of_block (cs := #[.int .i64 k]) (t := 22) (fr := (0, 0)) (heap_alloc_new W (.cells #[.int .i64 k] 22))
  have hlen : (nums .i64 (ks ++ [k])) = nums .i64 ks ++ [.int .i64 k] := nums_append _ _ _
  rcases h with ⟨rfl, A, rfl⟩ | ⟨g, cap, cur, rfl, hNg, hh, hlc, hcm, hcs, ht⟩
  · cases A with
    | none =>
      have ho : (W.alloc (.cells #[.int .i64 k] 22)).ownsRow N 22 1 (.slice none 0 0) 0 [] := own_nil _ _ _ _
      obtain ⟨v', w', hr, ho', hg, _, hat⟩ := run_append_own_at (P := Try.prog) (W.alloc (.cells #[.int .i64 k] 22)) N 63 ty 22 i0 (.int .i64 0) 1 8 Try.underlying63 hi hz0 hz1 hz2 rfl (by decide) (.slice none 0 0) 0 [] ho ⟨W.heap.size, 0, none⟩ 1 1 [.int .i64 k] rfl (by simpa using hnews) (by simp [Value.oneCell']) (by simp only [maxLen]; omega) (by omega) (by simp; omega)
      refine ⟨v', w', hr, ?_, keep_row hN hg (fun k hk => by simp [Value.ownBlock] at hk)⟩
      obtain ⟨h1, h2⟩ := ho'
      rcases h2 with ⟨_, h0⟩ | ⟨g, cap, cur, he, hb, hh, hnc, hcm, hcs, ht⟩
      · omega
      refine .inr ⟨g, cap, cur, by rw [he]; rfl, hb, hh, by simpa using hnc, hcm, by omega, ?_⟩
      rw [hlen]
      simpa [nums] using ht
    | some b =>
      obtain ⟨v', w', hr, ho', hg⟩ := run_append_arg_grows (P := Try.prog) (w := W.alloc (.cells #[.int .i64 k] 22)) 63 ty 22 i0 (.int .i64 0) 1 8 Try.underlying63 hi hz0 hz1 hz2 rfl (by decide) b 0 0 [] rfl (fun j u hu => by simp at hu) ⟨W.heap.size, 0, none⟩ 1 1 [.int .i64 k] rfl (by simpa using hnews) (by omega) (by simp only [maxLen]; omega) (by omega)
      refine ⟨v', w', hr, ?_, keep_row hN hg (fun k hk => by simp at hk)⟩
      obtain ⟨h1, h2⟩ := ho'
      rcases h2 with ⟨_, h0⟩ | ⟨g, cap, cur, he, hb, hh, hnc, hcm, hcs, ht⟩
      · omega
      refine .inr ⟨g, cap, cur, by rw [he]; rfl, by simp at hb; omega, hh, by simpa using hnc, hcm, by omega, ?_⟩
      rw [hlen]
      simpa [nums] using ht
  have ho : (W.alloc (.cells #[.int .i64 k] 22)).ownsRow N 22 1 (.slice (some ⟨g, 0, none⟩) ks.length cap) ks.length (nums .i64 ks) := ⟨by rw [nums_length, Nat.mul_one], .inr ⟨g, cap, cur, rfl, hNg, (Below.heap_alloc W _ g (blk_lt hh)).trans hh, hlc, hcm, by omega, by rw [Nat.mul_one]; exact ht⟩⟩
  obtain ⟨v', w', hr, ho', hg, _, hat⟩ := run_append_own_at (P := Try.prog) (W.alloc (.cells #[.int .i64 k] 22)) N 63 ty 22 i0 (.int .i64 0) 1 8 Try.underlying63 hi hz0 hz1 hz2 rfl (by decide) (.slice (some ⟨g, 0, none⟩) ks.length cap) ks.length (nums .i64 ks) ho ⟨W.heap.size, 0, none⟩ 1 1 [.int .i64 k] rfl (by simpa using hnews) (by simp [Value.oneCell']) (by simp only [maxLen]; omega) (by omega) (by simp; omega)
  refine ⟨v', w', hr, ?_, keep_row hN hg (fun k hk => by obtain rfl : g = k := by simpa [Value.ownBlock] using hk
                                                         exact ⟨hNg, cur, hh⟩)⟩
  obtain ⟨h1, h2⟩ := ho'
  rcases h2 with ⟨_, h0⟩ | ⟨g', cap', cur', he, hb, hh', hnc, hcm', hcs', ht'⟩
  · omega
  refine .inr ⟨g', cap', cur', by rw [he, List.length_append]; rfl, hb, hh', by rw [List.length_append]; exact hnc, hcm', by omega, ?_⟩
  rw [hlen, List.length_append]
  simpa using ht'
section
variable {ops : Array Oper} {rest : List Oper} {o : Oper} {a : Act} {Q : Exit → Act → World → Prop}
theorem stk_append (N : Nat) {W : World} (hgd : o.guard = none) (s x : Operand) (ho : o.op = .call { callee := .builtin .append, args := #[s, x], argTypes := #[63, 63] })
    (v : Value) (ks : List Int) (k : Int) (hs : a.eval s = v) (hx : a.eval x = .slice (some ⟨W.heap.size, 0, none⟩) 1 1) (hv : StkV N W v ks) (hN : N ≤ W.heap.size) (hl : ks.length ≤ 1000)
    (h : ∀ v1 w1, StkV N w1 v1 (ks ++ [k]) → (∀ b g, Holds N b g W w1) → wpList Try.prog ops Q rest (a.put o.dst v1) w1) :
    wpList Try.prog ops Q (o :: rest) a (W.alloc (.cells #[.int .i64 k] 22)) := by
  obtain ⟨v1, w1, hr, h1, h2⟩ := stk_push o.type N k hv hN hl
  refine wpList_plain hgd fun K hK => ?_
  unfold Oper.wp execOp
  simp only [ho, resolve, invoke, builtin, Sem.run_bind, Sem.run_pure, Result.andThen_ok, List.map_toArray, List.map_cons, List.map_nil, hs, hx, hr]
  exact hK _ _ (h v1 w1 h1 h2)
end
end Stk
section Sights
/-- A sight's eleven cells. -/
structure SgC (w : World) (A : Array Value) (i : Nat) (s : Sg) : Prop where
  r : A[i * 11]? = some (.bool s.reached)
  d : A[i * 11 + 1]? = some (.bool s.due)
  k : ∃ v, A[i * 11 + 2]? = some v ∧ StkR w v s.stack
  n : s.locals.length = 8
  l : ∀ j, j < 8 → A[i * 11 + 3 + j]? = some (.int .i64 (s.locals.getD j 0))
/-- The sights' block (of type t). -/
def SgAt (t g : Nat) (w : World) (ss : List Sg) : Prop := ∃ A : Array Value, w.heap[g]? = some (.cells A t (0, 0)) ∧ A.size = ss.length * 11 ∧ ∀ i, i < ss.length → SgC w A i (ss.getD i Sg.zero)
theorem SgC.move {w w1 : World} {A : Array Value} {i : Nat} {s : Sg} (h : SgC w A i s) (hm : ∀ (k : Nat) (cur : Array Value), w.heap[k]? = some (.cells cur 22 (0, 0)) → w1.heap[k]? = w.heap[k]?) : SgC w1 A i s := by
  obtain ⟨v, hv, hs⟩ := h.k
  exact ⟨h.r, h.d, ⟨v, hv, hs.move hm⟩, h.n, h.l⟩
theorem SgAt.move {t g : Nat} {w w1 : World} {ss : List Sg} (h : SgAt t g w ss) (hg : w1.heap[g]? = w.heap[g]?) (hm : ∀ (k : Nat) (cur : Array Value), w.heap[k]? = some (.cells cur 22 (0, 0)) → w1.heap[k]? = w.heap[k]?) : SgAt t g w1 ss := by
  obtain ⟨A, h1, h2, h3⟩ := h
  exact ⟨A, hg.trans h1, h2, fun i hi => (h3 i hi).move hm⟩
theorem SgAt.lt {t g : Nat} {w : World} {ss : List Sg} (h : SgAt t g w ss) : g < w.heap.size := by
  obtain ⟨A, h1, h2, h3⟩ := h
  exact blk_lt h1
theorem SgAt.below {t g : Nat} {w w1 : World} {ss : List Sg} (h : SgAt t g w ss) (hb : Below w.heap.size w w1) : SgAt t g w1 ss := h.move (hb.block g h.lt) (fun k cur hk => hb.block k (blk_lt hk))
/-- A store into a block of a type of its own. -/
theorem SgAt.far {t g : Nat} {w : World} {ss : List Sg} (h : SgAt t g w ss) {b u : Nat} {cells : Array Value} (hb : w.heap[b]? = some (.cells cells u (0, 0))) (hu : u ≠ 22) (hut : u ≠ t) (j : Nat) (v : Value) : SgAt t g (w.setCell ⟨b, j, none⟩ v) ss := by
  obtain ⟨A, h1, h2, h3⟩ := h
  have hne : g ≠ b := blk_ne h1 hb (Ne.symm hut)
  exact ⟨A, (Below.heap_setCell w ⟨b, j, none⟩ v g hne).trans h1, h2, fun i hi => (h3 i hi).move (fun k cur hk => far22 hb hu j v k cur hk)⟩
theorem SgAt.cells {t g : Nat} {w : World} {ss : List Sg} (h : SgAt t g w ss) (i : Nat) (hi : i < ss.length) :
    w.cell? ⟨g, i * 11, none⟩ = some (.bool (ss.getD i Sg.zero).reached) ∧ w.cell? ⟨g, i * 11 + 1, none⟩ = some (.bool (ss.getD i Sg.zero).due) ∧ (∃ v, w.cell? ⟨g, i * 11 + 2, none⟩ = some v ∧ StkR w v (ss.getD i Sg.zero).stack) ∧ (ss.getD i Sg.zero).locals.length = 8 ∧ ∀ j, j < 8 → w.cell? ⟨g, i * 11 + 3 + j, none⟩ = some (.int .i64 ((ss.getD i Sg.zero).locals.getD j 0)) := by
  obtain ⟨A, h1, h2, h3⟩ := h
  have h4 := h3 i hi
  obtain ⟨v, hv, hs⟩ := h4.k
  exact ⟨(blk_cell h1 _).trans h4.r, (blk_cell h1 _).trans h4.d, ⟨v, (blk_cell h1 _).trans hv, hs⟩, h4.n, fun j hj => (blk_cell h1 _).trans (h4.l j hj)⟩
theorem SgAt.frozen {t g : Nat} {w : World} {ss : List Sg} (h : SgAt t g w ss) (i : Nat) : w.frozen? ⟨g, i, none⟩ = false := by
  obtain ⟨A, h1, h2, h3⟩ := h
  exact blk_frozen h1 i
theorem getD_set_ne {ss : List Sg} {i j : Nat} (s : Sg) (h : i ≠ j) : (ss.set i s).getD j Sg.zero = ss.getD j Sg.zero := by
  rw [List.getD_eq_getElem?_getD, List.getElem?_set_ne h, ← List.getD_eq_getElem?_getD]
theorem getD_set_eq {ss : List Sg} {i : Nat} (s : Sg) (h : i < ss.length) : (ss.set i s).getD i Sg.zero = s := by
  rw [List.getD_eq_getElem?_getD, List.getElem?_set_self h]
  rfl
theorem set_ne_getD (l : List Int) {i j : Nat} (h : i ≠ j) (x : Int) : (l.set i x).getD j 0 = l.getD j 0 := by
  rw [List.getD_eq_getElem?_getD, List.getElem?_set_ne h, ← List.getD_eq_getElem?_getD]
/-- One cell of one sight is written. -/
theorem SgAt.put {t g : Nat} {w : World} {ss : List Sg} (h : SgAt t g w ss) (ht : t ≠ 22) {i j : Nat} (hi : i < ss.length) (hj : j < 11) (v : Value) (s : Sg)
    (hs : ∀ (w' : World) (A A' : Array Value), SgC w A i (ss.getD i Sg.zero) → (∀ k, k < 11 → k ≠ j → A'[i * 11 + k]? = A[i * 11 + k]?) → A'[i * 11 + j]? = some v → (∀ (k : Nat) (cur : Array Value), w.heap[k]? = some (.cells cur 22 (0, 0)) → w'.heap[k]? = w.heap[k]?) → SgC w' A' i s) :
    SgAt t g (w.setCell ⟨g, i * 11 + j, none⟩ v) (ss.set i s) := by
  obtain ⟨A, h1, h2, h3⟩ := h
  have hmv : ∀ (k : Nat) (cur : Array Value), w.heap[k]? = some (.cells cur 22 (0, 0)) → (w.setCell ⟨g, i * 11 + j, none⟩ v).heap[k]? = w.heap[k]? := fun k cur hk => far22 h1 ht _ v k cur hk
  refine ⟨A.setIfInBounds (i * 11 + j) v, blk_set h1 _ _, by rw [Array.size_setIfInBounds, h2, List.length_set], fun k hk => ?_⟩
  rw [List.length_set] at hk
  by_cases e : i = k
  · subst e
    rw [getD_set_eq s hi]
    refine hs _ A _ (h3 i hi) (fun k hk1 hk2 => ?_) ?_ hmv
    · rw [Array.getElem?_setIfInBounds_ne (by omega)]
    rw [Array.getElem?_setIfInBounds_self_of_lt (by omega)]
  rw [getD_set_ne s e]
  have h4 := (h3 k hk).move hmv
  have key : ∀ q, q < 11 → (A.setIfInBounds (i * 11 + j) v)[k * 11 + q]? = A[k * 11 + q]? := fun q hq => by rw [Array.getElem?_setIfInBounds_ne (by omega)]
  obtain ⟨v', hv', hs'⟩ := h4.k
  refine ⟨(key 0 (by omega)).trans h4.r, (key 1 (by omega)).trans h4.d, ⟨v', (key 2 (by omega)).trans hv', hs'⟩, h4.n, fun q hq => ?_⟩
  have := key (3 + q) (by omega)
  rw [← Nat.add_assoc] at this
  exact this.trans (h4.l q hq)
theorem SgAt.putR {t g : Nat} {w : World} {ss : List Sg} (h : SgAt t g w ss) (ht : t ≠ 22) {i : Nat} (hi : i < ss.length) (b : Bool) : SgAt t g (w.setCell ⟨g, i * 11, none⟩ (.bool b)) (ss.set i { ss.getD i Sg.zero with reached := b }) :=
  h.put ht (j := 0) hi (by omega) _ _ (fun w' A A' hc hk hj hm => by
    have hc := hc.move hm
    obtain ⟨v, hv, hs⟩ := hc.k
    exact ⟨hj, (hk 1 (by omega) (by omega)).trans hc.d, ⟨v, (hk 2 (by omega) (by omega)).trans hv, hs⟩, hc.n, fun q hq => (by have := hk (3 + q) (by omega) (by omega); rw [← Nat.add_assoc] at this; exact this.trans (hc.l q hq))⟩)
theorem SgAt.putD {t g : Nat} {w : World} {ss : List Sg} (h : SgAt t g w ss) (ht : t ≠ 22) {i : Nat} (hi : i < ss.length) (b : Bool) : SgAt t g (w.setCell ⟨g, i * 11 + 1, none⟩ (.bool b)) (ss.set i { ss.getD i Sg.zero with due := b }) :=
  h.put ht (j := 1) hi (by omega) _ _ (fun w' A A' hc hk hj hm => by
    have hc := hc.move hm
    obtain ⟨v, hv, hs⟩ := hc.k
    exact ⟨(hk 0 (by omega) (by omega)).trans hc.r, hj, ⟨v, (hk 2 (by omega) (by omega)).trans hv, hs⟩, hc.n, fun q hq => (by have := hk (3 + q) (by omega) (by omega); rw [← Nat.add_assoc] at this; exact this.trans (hc.l q hq))⟩)
theorem SgAt.putS {t g : Nat} {w : World} {ss : List Sg} (h : SgAt t g w ss) (ht : t ≠ 22) {i : Nat} (hi : i < ss.length) (v : Value) (ks : List Int) (hv : StkR w v ks) : SgAt t g (w.setCell ⟨g, i * 11 + 2, none⟩ v) (ss.set i { ss.getD i Sg.zero with stack := ks }) :=
  h.put ht (j := 2) hi (by omega) _ _ (fun w' A A' hc hk hj hm => by
    have hc := hc.move hm
    exact ⟨(hk 0 (by omega) (by omega)).trans hc.r, (hk 1 (by omega) (by omega)).trans hc.d, ⟨v, hj, hv.move hm⟩, hc.n, fun q hq => (by have := hk (3 + q) (by omega) (by omega); rw [← Nat.add_assoc] at this; exact this.trans (hc.l q hq))⟩)
theorem SgAt.putL {t g : Nat} {w : World} {ss : List Sg} (h : SgAt t g w ss) (ht : t ≠ 22) {i : Nat} (hi : i < ss.length) (j : Nat) (hj8 : j < 8) (x : Int) : SgAt t g (w.setCell ⟨g, i * 11 + 3 + j, none⟩ (.int .i64 x)) (ss.set i { ss.getD i Sg.zero with locals := (ss.getD i Sg.zero).locals.set j x }) := by
  have e : i * 11 + 3 + j = i * 11 + (3 + j) := by omega
  rw [e]
  refine h.put ht (j := 3 + j) hi (by omega) _ _ (fun w' A A' hc hk hj hm => ?_)
  have hc := hc.move hm
  obtain ⟨v, hv, hs⟩ := hc.k
  refine ⟨(hk 0 (by omega) (by omega)).trans hc.r, (hk 1 (by omega) (by omega)).trans hc.d, ⟨v, (hk 2 (by omega) (by omega)).trans hv, hs⟩, by rw [List.length_set]; exact hc.n, fun q hq => ?_⟩
  by_cases e : j = q
  · subst e
    rw [Nat.add_assoc, hj, List.getD_eq_getElem?_getD, List.getElem?_set_self (by have := hc.n; omega)]
    rfl
  have := hk (3 + q) (by omega) (by omega)
  rw [← Nat.add_assoc] at this
  rw [this, hc.l q hq]
  exact congrArg (fun y => some (Value.int .i64 y)) (set_ne_getD _ e x).symm
/-- A whole sight is written, cell by cell. -/
theorem SgAt.putAll {t g : Nat} {w : World} {ss : List Sg} (h : SgAt t g w ss) (ht : t ≠ 22) {i : Nat} (hi : i < ss.length) (r d : Bool) (v : Value) (ks : List Int) (hv : StkR w v ks) (l0 l1 l2 l3 l4 l5 l6 l7 : Int) :
    SgAt t g (((((((((((w.setCell ⟨g, i * 11, none⟩ (.bool r)).setCell ⟨g, i * 11 + 1, none⟩ (.bool d)).setCell ⟨g, i * 11 + 2, none⟩ v).setCell ⟨g, i * 11 + 3 + 0, none⟩ (.int .i64 l0)).setCell ⟨g, i * 11 + 3 + 1, none⟩ (.int .i64 l1)).setCell ⟨g, i * 11 + 3 + 2, none⟩ (.int .i64 l2)).setCell ⟨g, i * 11 + 3 + 3, none⟩ (.int .i64 l3)).setCell ⟨g, i * 11 + 3 + 4, none⟩ (.int .i64 l4)).setCell ⟨g, i * 11 + 3 + 5, none⟩ (.int .i64 l5)).setCell ⟨g, i * 11 + 3 + 6, none⟩ (.int .i64 l6)).setCell ⟨g, i * 11 + 3 + 7, none⟩ (.int .i64 l7)) (ss.set i ⟨r, d, ks, [l0, l1, l2, l3, l4, l5, l6, l7]⟩) := by
  have h0 := h
  obtain ⟨A0, hA, _⟩ := h0
  have hv1 := hv.set hA ht (i * 11) (.bool r)
  have h1 := h.putR ht hi r
  have h01 := h1
  obtain ⟨A1, hA1, _⟩ := h01
  have hv2 := hv1.set hA1 ht (i * 11 + 1) (.bool d)
  have key : ∀ (ss : List Sg) (s s' : Sg), (ss.set i s).set i s' = ss.set i s' := fun ss s s' => List.set_set ..
  have h2 := h1.putD ht (by rw [List.length_set]; exact hi) d
  rw [getD_set_eq _ hi, key] at h2
  have h3 := h2.putS ht (by rw [List.length_set]; exact hi) v ks hv2
  rw [getD_set_eq _ hi, key] at h3
  have m0 := h3.putL ht (by rw [List.length_set]; exact hi) 0 (by omega) l0
  rw [getD_set_eq _ hi, key] at m0
  have m1 := m0.putL ht (by rw [List.length_set]; exact hi) 1 (by omega) l1
  rw [getD_set_eq _ hi, key] at m1
  have m2 := m1.putL ht (by rw [List.length_set]; exact hi) 2 (by omega) l2
  rw [getD_set_eq _ hi, key] at m2
  have m3 := m2.putL ht (by rw [List.length_set]; exact hi) 3 (by omega) l3
  rw [getD_set_eq _ hi, key] at m3
  have m4 := m3.putL ht (by rw [List.length_set]; exact hi) 4 (by omega) l4
  rw [getD_set_eq _ hi, key] at m4
  have m5 := m4.putL ht (by rw [List.length_set]; exact hi) 5 (by omega) l5
  rw [getD_set_eq _ hi, key] at m5
  have m6 := m5.putL ht (by rw [List.length_set]; exact hi) 6 (by omega) l6
  rw [getD_set_eq _ hi, key] at m6
  have m7 := m6.putL ht (by rw [List.length_set]; exact hi) 7 (by omega) l7
  rw [getD_set_eq _ hi, key] at m7
  have hn := (h.cells i hi).2.2.2.1
  generalize (ss.getD i Sg.zero).locals = lo at hn m7
  match lo, hn with
  | [a0, a1, a2, a3, a4, a5, a6, a7], _ => exact m7
end Sights
section WalkerA
/-- A walker's block: its stack and its locals; what stays since w0. -/
structure WkAt (N cb wb g : Nat) (hand at_ : Int) (iv sv : Value) (w0 : World) (w : World) (ks lo : List Int) : Prop where
  blk : ∃ (kv : Value) (l0 l1 l2 l3 l4 l5 l6 l7 : Int), lo = [l0, l1, l2, l3, l4, l5, l6, l7] ∧ w.heap[wb]? = some (.cells #[.pointer (some ⟨cb, 0, none⟩), .int .i64 hand, iv, sv, .int .i64 at_, kv, .int .i64 l0, .int .i64 l1, .int .i64 l2, .int .i64 l3, .int .i64 l4, .int .i64 l5, .int .i64 l6, .int .i64 l7] 65 (0, 0)) ∧ StkV N w kv ks
  hold : Holds N wb g w0 w
theorem WkAt.step {N cb wb g : Nat} {hand at_ : Int} {iv sv : Value} {w0 : World} {w w1 : World} {ks lo : List Int} (h : WkAt N cb wb g hand at_ iv sv w0 w ks lo) (hM : N ≤ w0.heap.size) (hb : Below w.heap.size w w1) : WkAt N cb wb g hand at_ iv sv w0 w1 ks lo := by
  obtain ⟨⟨kv, l0, l1, l2, l3, l4, l5, l6, l7, rfl, h1, h2⟩, h3⟩ := h
  exact ⟨⟨kv, l0, l1, l2, l3, l4, l5, l6, l7, rfl, (hb.block wb (blk_lt h1)).trans h1, h2.below hb⟩, h3.step (Nat.le_trans hM h3.size) hb⟩
/-- What a walker gives up with. -/
def Gives (N wb g : Nat) (hand at_ : Int) (w0 : World) (e : Ending) (w : World) : Prop := e = .panicked [{ v := .iface 44 (.agg #[.int .i64 hand, .int .i64 at_]), recovered := false }] ∧ Holds N wb g w0 w
set_option maxHeartbeats 8000000 in
set_option maxRecDepth 100000 in
theorem failR (cb wb : Nat) (hand at_ l0 l1 l2 l3 l4 l5 l6 l7 : Int) (iv sv kv : Value) (w : World) (hw : w.heap[wb]? = some (.cells #[.pointer (some ⟨cb, 0, none⟩), .int .i64 hand, iv, sv, .int .i64 at_, kv, .int .i64 l0, .int .i64 l1, .int .i64 l2, .int .i64 l3, .int .i64 l4, .int .i64 l5, .int .i64 l6, .int .i64 l7] 65 (0, 0))) :
    Calls Try.prog 39 #[.pointer (some ⟨wb, 0, none⟩)] w fun e w' => e = .panicked [{ v := .iface 44 (.agg #[.int .i64 hand, .int .i64 at_]), recovered := false }] ∧ ∃ n, w' = w.drewN n := by
  have he1 : w.cell? ⟨wb, 1, none⟩ = some (Value.int .i64 hand) := blk_cell hw 1
  have he4 : w.cell? ⟨wb, 4, none⟩ = some (Value.int .i64 at_) := blk_cell hw 4
  go_enter Try.func39, Try.ntmps39
  go_region_dies
  all_goals exact ⟨rfl, rfl, ⟨1, rfl⟩⟩
theorem pop_last {ks : List Int} {n : Nat} (hl : ks.length = n + 1) : ks.getLast? = some (ks.getD n 0) := by
  rw [List.getLast?_eq_getElem?, hl, List.getD_eq_getElem?_getD]
  simp only [Nat.add_sub_cancel]
  rw [List.getElem?_eq_getElem (by omega)]
  rfl
theorem pop_some {ks : List Int} {n : Nat} (k : Int) (hl : ks.length = n + 1) : popP k ks = if k ≠ 0 ∧ ks.getD n 0 ≠ k then none else some (ks.take n) := by
  unfold popP
  rw [pop_last hl, List.dropLast_eq_take, hl]
  rfl
set_option maxHeartbeats 8000000 in
set_option maxRecDepth 100000 in
theorem popR (N cb wb g : Nat) (hand at_ : Int) (iv sv : Value) (w0 : World) (w : World) (ks lo : List Int) (k : Int) (hN : wb < N) (hM : N ≤ w0.heap.size) (hl : ks.length ≤ 1000) (h : WkAt N cb wb g hand at_ iv sv w0 w ks lo) :
    Calls Try.prog 41 #[.pointer (some ⟨wb, 0, none⟩), .int .i64 k] w fun e w' => (popP k ks = none ∧ Gives N wb g hand at_ w0 e w') ∨ ∃ t ks', popP k ks = some ks' ∧ ks.getLast? = some t ∧ e = .returned (.int .i64 t) ∧ WkAt N cb wb g hand at_ iv sv w0 w' ks' lo := by
  obtain ⟨⟨kv, l0, l1, l2, l3, l4, l5, l6, l7, rfl, hb, hk⟩, hh⟩ := h
  have HK := Aside0.mk hk
  have HH := Aside0.mk hh
  have HE := Aside0.mk hb
  clear hk hh hb
  have he5 : w.cell? ⟨wb, 5, none⟩ = some kv := blk_cell HE.out 5
  obtain ⟨A, c, hkv, hlc⟩ := HK.out.read.slice
  subst hkv
  have HF := fun W (h : W = w) => by subst h; exact failR cb wb hand at_ l0 l1 l2 l3 l4 l5 l6 l7 iv sv (.slice A ks.length c) W HE.out
  have HF := Aside0.mk HF
  rcases hks : ks with _ | ⟨k0, kr⟩
  · subst hks
    simp only [List.length_nil] at *
    go_enter Try.func41, Try.ntmps41
    go_wp2_with (go_at_call 39; refine (HF.out _ rfl).mono ?_; rintro e w1 ⟨rfl, ⟨nd, rfl⟩⟩)
    exact ⟨rfl, .inl ⟨rfl, rfl, HH.out.drewN nd⟩⟩
  obtain ⟨n, hn⟩ : ∃ n, ks.length = n + 1 := ⟨kr.length, by rw [hks]; rfl⟩
  rw [← hks]
  clear hks k0 kr
  have HP := Aside0.mk (pop_some k hn)
  have HL := Aside0.mk (pop_last hn)
  obtain ⟨q, c', hq, _, hc⟩ := HK.out.read.cell n (by omega)
  injection hq with hq1 hq2 hq3
  subst hq1
  obtain ⟨t, ht⟩ : ∃ t, t = ks.getD n 0 := ⟨_, rfl⟩
  rw [← ht] at HP HL hc
  have HN := Aside0.mk hn
  have hn1 : n = ks.length - 1 := by omega
  subst hn1
  have d1 : decide ((ks.length : Int) - 1 < 0) = false := decide_eq_false (by omega)
  have q1 : 0 ≤ (ks.length : Int) - 1 ∧ (ks.length : Int) - 1 < (ks.length : Int) := by omega
  have q2 : ¬ (ks.length : Int) - 1 < 0 := by omega
  have q3 : ¬ (c : Int) < (ks.length : Int) - 1 := by omega
  have HT := Aside0.mk (HK.out.take (ks.length - 1) (by omega))
  have hfr := blk_frozen HE.out 5
  clear hn hq2 ht
  subst hq3
  go_enter Try.func41, Try.ntmps41
  by_cases hk0 : k = 0
  · have d2 : (k != 0) = false := bne_eq_false_iff_eq.mpr hk0
    have HP2 := Aside0.mk (HP.out.trans (if_neg (fun h => h.1 hk0)))
    clear hk0
    go_wp2
    go_ret
    refine .inr ⟨t, _, HP2.out, HL.out, rfl, ⟨⟨_, l0, l1, l2, l3, l4, l5, l6, l7, rfl, ?_, HT.out.set HE.out (by decide) 5 _⟩, HH.out.set _ _ (.inl rfl)⟩⟩
    rw [blk_set HE.out]
    rfl
  have d2 : (k != 0) = true := bne_iff_ne.mpr hk0
  by_cases htk : t = k
  · have d3 : (t != k) = false := bne_eq_false_iff_eq.mpr htk
    have HP2 := Aside0.mk (HP.out.trans (if_neg (fun h => h.2 htk)))
    clear hk0 htk
    go_wp2
    go_ret
    refine .inr ⟨t, _, HP2.out, HL.out, rfl, ⟨⟨_, l0, l1, l2, l3, l4, l5, l6, l7, rfl, ?_, HT.out.set HE.out (by decide) 5 _⟩, HH.out.set _ _ (.inl rfl)⟩⟩
    rw [blk_set HE.out]
    rfl
  have d3 : (t != k) = true := bne_iff_ne.mpr htk
  have HP2 := Aside0.mk (HP.out.trans (if_pos ⟨hk0, htk⟩))
  clear hk0 htk
  go_wp2_with (go_at_call 39; refine (HF.out _ rfl).mono ?_; rintro e w1 ⟨rfl, ⟨nd, rfl⟩⟩)
  exact ⟨rfl, .inl ⟨HP2.out, rfl, HH.out.drewN nd⟩⟩
theorem push_some {ks : List Int} (k : Int) : pushP k ks = if 32 ≤ ks.length then none else some (ks ++ [k]) := rfl
set_option maxHeartbeats 8000000 in
set_option maxRecDepth 100000 in
theorem pushR (N cb wb g : Nat) (hand at_ : Int) (iv sv : Value) (w0 : World) (w : World) (ks lo : List Int) (k : Int) (hN : wb < N) (hM : N ≤ w0.heap.size) (hl : ks.length ≤ 1000) (h : WkAt N cb wb g hand at_ iv sv w0 w ks lo) :
    Calls Try.prog 44 #[.pointer (some ⟨wb, 0, none⟩), .int .i64 k] w fun e w' => (pushP k ks = none ∧ Gives N wb g hand at_ w0 e w') ∨ ∃ ks', pushP k ks = some ks' ∧ e = .returned (.tuple #[]) ∧ WkAt N cb wb g hand at_ iv sv w0 w' ks' lo := by
  obtain ⟨⟨kv, l0, l1, l2, l3, l4, l5, l6, l7, rfl, hb, hk⟩, hh⟩ := h
  have HK := Aside0.mk hk
  have HH := Aside0.mk hh
  have HE := Aside0.mk hb
  clear hk hh hb
  have he5 : w.cell? ⟨wb, 5, none⟩ = some kv := blk_cell HE.out 5
  obtain ⟨A, c, hkv, hlc⟩ := HK.out.read.slice
  subst hkv
  have HF := Aside0.mk (failR cb wb hand at_ l0 l1 l2 l3 l4 l5 l6 l7 iv sv (.slice A ks.length c) w HE.out)
  have HP := Aside0.mk (push_some (ks := ks) k)
  have HNS := Aside0.mk (Nat.le_trans hM HH.out.size)
  have HNB := Aside0.mk hN
  have HL := Aside0.mk hl
  go_enter Try.func44, Try.ntmps44
  by_cases h32 : 32 ≤ ks.length
  · have d1 : decide ((ks.length : Int) ≥ 32) = true := decide_eq_true (by omega)
    have HP2 := Aside0.mk (HP.out.trans (if_pos h32))
    go_wp2_with (go_at_call 39; refine HF.out.mono ?_; rintro e w1 ⟨rfl, ⟨nd, rfl⟩⟩)
    exact ⟨rfl, .inl ⟨HP2.out, rfl, HH.out.drewN nd⟩⟩
  have d1 : decide ((ks.length : Int) ≥ 32) = false := decide_eq_false (by omega)
  have HP2 := Aside0.mk (HP.out.trans (if_neg h32))
  clear h32
  go_wp2_with ((with_reducible refine gate_builtin (b := .append) (xs := #[.tmp 16, .tmp 18]) rfl ?_); at_builtin; refine stk_append N rfl (.tmp 16) (.tmp 18) rfl _ ks k rfl rfl HK.out HNS.out HL.out ?_; intro v1 w1 hv1 hb1; obtain ⟨A1, c1, hv2, _⟩ := hv1.read.slice; subst hv2; have HE1 := Aside0.mk ((hb1 (wb + 1) (wb + 1)).blk HE.out (.inl HNB.out) (by omega) (by omega)); have he51 : _ = some (Value.slice A ks.length c) := blk_cell HE1.out 5; have hfr1 := blk_frozen HE1.out 5; have HV1 := Aside0.mk hv1; have HB1 := Aside0.mk (hb1 wb g); clear hv1 hb1)
  go_end0
  refine .inr ⟨_, HP2.out, rfl, ⟨⟨_, l0, l1, l2, l3, l4, l5, l6, l7, rfl, ?_, HV1.out.set HE1.out (by decide) 5 _⟩, (HH.out.trans HB1.out).set _ _ (.inl rfl)⟩⟩
  rw [blk_set HE1.out, List.length_append]
  rfl
end WalkerA
section WalkerB
theorem eq_ext {a b : List Int} (hl : a.length = b.length) (h : ∀ j, j < a.length → a.getD j 0 = b.getD j 0) : a = b := by
  refine List.ext_getElem hl (fun j h1 h2 => ?_)
  have := h j h1
  rw [List.getD_eq_getElem?_getD, List.getD_eq_getElem?_getD, List.getElem?_eq_getElem h1, List.getElem?_eq_getElem h2] at this
  exact this
theorem eq54_l (a b : List Int) (hl : a.length = b.length) (hm : a.length ≤ 1000) : ∀ (d k i : Nat), i + d = a.length → d < k → (∀ j, j < i → a.getD j 0 = b.getD j 0) → api_WordKind_54.l0 k a b (a.length : Int) (i : Int) = some (decide (a = b))
  | d, 0, i, _, hk, _ => by omega
  | 0, k + 1, i, hi, _, hq => by
    unfold api_WordKind_54.l0
    rw [if_neg (by omega), decide_eq_true (eq_ext hl (fun j hj => hq j (by omega)))]
  | d + 1, k + 1, i, hi, hk, hq => by
    unfold api_WordKind_54.l0
    rw [if_pos (by omega), if_pos (by omega), if_pos (by omega), if_pos (by omega)]
    by_cases e : a.getD i 0 = b.getD i 0
    · have hw : wrap64 ((i : Int) + 1) = ((i + 1 : Nat) : Int) := by
        unfold wrap64
        omega
      rw [if_pos (show rd a (i : Int) = rd b (i : Int) from e), hw]
      refine eq54_l a b hl hm d k (i + 1) (by omega) (by omega) (fun j hj => ?_)
      by_cases e2 : j = i
      · rw [e2]; exact e
      exact hq j (by omega)
    rw [if_neg (show ¬ rd a (i : Int) = rd b (i : Int) from e), decide_eq_false (fun h => e (by rw [h]))]
theorem eq54 (a b : List Int) (hm : a.length ≤ 1000) : api_WordKind_54.f 1001 a b = some (decide (a = b)) := by
  unfold api_WordKind_54.f
  by_cases hl : a.length = b.length
  · rw [if_pos (by omega)]
    exact eq54_l a b hl hm a.length 1001 0 (by omega) (by omega) (fun j hj => by omega)
  rw [if_neg (by omega), decide_eq_false (fun h => hl (by rw [h]))]
theorem same_l (a b : List Int) (hl : a.length = b.length) (hm : a.length ≤ 1000) : ∀ (d k i : Nat), i + d = a.length → d < k → (∀ j, j < i → a.getD j 0 = b.getD j 0) → sluiceref11_sameKinds.l0 k a b (i : Int) = some (decide (a = b))
  | d, 0, i, _, hk, _ => by omega
  | 0, k + 1, i, hi, _, hq => by
    unfold sluiceref11_sameKinds.l0
    rw [if_neg (by omega), decide_eq_true (eq_ext hl (fun j hj => hq j (by omega)))]
  | d + 1, k + 1, i, hi, hk, hq => by
    unfold sluiceref11_sameKinds.l0
    rw [if_pos (by omega), if_pos (by omega), if_pos (by omega)]
    by_cases e : a.getD i 0 = b.getD i 0
    · have hw : wrap64 ((i : Int) + 1) = ((i + 1 : Nat) : Int) := by
        unfold wrap64
        omega
      rw [if_pos (show rd a (i : Int) = rd b (i : Int) from e), hw]
      refine same_l a b hl hm d k (i + 1) (by omega) (by omega) (fun j hj => ?_)
      by_cases e2 : j = i
      · rw [e2]; exact e
      exact hq j (by omega)
    rw [if_neg (show ¬ rd a (i : Int) = rd b (i : Int) from e), decide_eq_false (fun h => e (by rw [h]))]
theorem sameK (a b : List Int) (hm : a.length ≤ 1000) : sluiceref11_sameKinds.f 1001 a b = some (decide (a = b)) := by
  unfold sluiceref11_sameKinds.f
  by_cases hl : a.length = b.length
  · rw [if_pos (by omega)]
    exact same_l a b hl hm a.length 1001 0 (by omega) (by omega) (fun j hj => by omega)
  rw [if_neg (by omega), decide_eq_false (fun h => hl (by rw [h]))]
theorem equalR (w : World) (v u : Value) (a b : List Int) (hv : StkR w v a) (hu : StkR w u b) (hm : a.length ≤ 1000) : Calls Try.prog 54 #[v, u] w fun e w' => e = .returned (.bool (decide (a = b))) ∧ Drawn0 w w' := by
  obtain ⟨A, c, rfl, h1⟩ := hv.slice
  obtain ⟨B, d, rfl, h2⟩ := hu.slice
  exact api_WordKind_54.calls 1001 A c a B d b _ w hv.C h1 hu.C h2 (eq54 a b hm)
theorem sameKR (w : World) (v u : Value) (a b : List Int) (hv : StkR w v a) (hu : StkR w u b) (hm : a.length ≤ 1000) : Calls Try.prog 32 #[v, u] w fun e w' => e = .returned (.bool (decide (a = b))) ∧ Drawn0 w w' := by
  obtain ⟨A, c, rfl, h1⟩ := hv.slice
  obtain ⟨B, d, rfl, h2⟩ := hu.slice
  exact sluiceref11_sameKinds.calls 1001 A c a B d b _ w hv.C h1 hu.C h2 (sameK a b hm)
theorem StkV.of_own {N : Nat} {w : World} {v : Value} {ks : List Int} (h : w.ownsRow N 22 1 v ks.length (nums .i64 ks)) : StkV N w v ks := by
  obtain ⟨h1, h2⟩ := h
  rcases h2 with ⟨rfl, h0⟩ | ⟨g, cap, cur, rfl, hb, hh, hnc, hcm, hcs, ht⟩
  · exact .inl ⟨List.eq_nil_of_length_eq_zero h0, none, rfl⟩
  exact .inr ⟨g, cap, cur, rfl, hb, hh, hnc, hcm, by omega, by rw [Nat.mul_one] at ht; exact ht⟩
theorem StkR.ints {w : World} {A : Option Addr} {n c : Nat} {ks : List Int} (h : StkR w (.slice A n c) ks) : ReadsInt w .i64 A ks.length ks := by
  obtain ⟨A', c', he, hl, hm_, hr⟩ := h
  injection he with h1 h2 h3
  subst h1
  refine ⟨rfl, by simp only [maxLen] at hm_; omega, fun h0 => ?_⟩
  obtain ⟨q, cur, rfl, hh, ht⟩ := hr h0
  refine ⟨_, rfl, fun j hj => ?_⟩
  obtain ⟨q', c'', he2, _, hc⟩ := StkR.cell (w := w) (v := .slice (some ⟨q, 0, none⟩) n c) ⟨_, c, by rw [h2], by omega, by omega, fun _ => ⟨q, cur, rfl, hh, ht⟩⟩ j (by omega)
  injection he2 with h4 _ _
  injection h4 with h4
  injection h4 with h4 _ _
  subst h4
  rw [add_plain]
  exact hc
section
variable {ops : Array Oper} {rest : List Oper} {o : Oper} {a : Act} {Q : Exit → Act → World → Prop}
/-- A stack behind a row of its own. -/
theorem stk_concat (N : Nat) {W : World} (hgd : o.guard = none) (s x : Operand) (ho : o.op = .call { callee := .builtin .append, args := #[s, x], argTypes := #[63, 63] })
    (v u : Value) (ks us : List Int) (hs : a.eval s = v) (hx : a.eval x = u) (hv : W.ownsRow N 22 1 v ks.length (nums .i64 ks)) (hu : StkR W u us) (hN : N ≤ W.heap.size) (hl : ks.length + us.length ≤ 1000)
    (h : ∀ v1 w1, StkV N w1 v1 (ks ++ us) → Below N W w1 → wpList Try.prog ops Q rest (a.put o.dst v1) w1) :
    wpList Try.prog ops Q (o :: rest) a W := by
  have hinfo : (Try.prog.info? 22).map (fun i => (i.zero, i.size, i.bytes)) = some (some (.int .i64 0), 1, 8) := by kernel_rfl
  obtain ⟨A, c, rfl, h1⟩ := hu.slice
  exact print_append_row (w0 := W) N hgd s x 63 22 .i64 8 ho Try.underlying63 hinfo (by decide) v ks us A us.length c hs hx hv hu.ints (Below.refl N W) hN (by omega) (fun v1 w1 h2 h3 _ _ => h v1 w1 (.of_own h2) h3)
end
set_option maxHeartbeats 8000000 in
set_option maxRecDepth 100000 in
theorem cloneR (w : World) (v : Value) (ks : List Int) (hv : StkR w v ks) (hl : ks.length ≤ 1000) : Calls Try.prog 40 #[v] w fun e w' => ∃ v', e = .returned v' ∧ StkV w.heap.size w' v' ks ∧ Below w.heap.size w w' := by
  have qT : ∀ (w : World) (a : Option Addr) (n c n' c' : Nat), (binOp .eql 63 (.slice a n c) (.slice none n' c')).run Try.prog w = .ok (.bool a.isNone) w := fun w a n c n' c' => Lib.run_eql_slice_nil w _ _ a n c n' c' Try.underlying63
  have HV := Aside0.mk hv
  have HL := Aside0.mk hl
  obtain ⟨A, c, rfl, hc⟩ := hv.slice
  clear hv
  go_enter Try.func40, Try.ntmps40
  rcases A with _ | ad
  · have h0 : ks = [] := by
      rcases HV.out with ⟨A', c', he, _, _, hr⟩
      rcases Nat.eq_zero_or_pos ks.length with h | h
      · exact List.eq_nil_of_length_eq_zero h
      obtain ⟨q, cur, h2, _⟩ := hr h
      injection he with h3 _ _
      rw [← h3] at h2
      cases h2
    subst h0
    go_wp2
    go_ret
    exact ⟨_, rfl, .nil _ _ _, Below.refl _ _⟩
  have HR := Aside0.mk (HV.out.below (below_alloc (Below.refl w.heap.size w) (.cells #[] 22)))
  have HO : Aside0 ((w.alloc (.cells #[] 22)).ownsRow w.heap.size 22 1 (.slice (some ⟨w.heap.size, 0, none⟩) 0 0) ([] : List Int).length (nums .i64 [])) := ⟨rfl, .inr ⟨w.heap.size, 0, #[], rfl, Nat.le_refl _, heap_alloc_new w _, Nat.le_refl _, by decide, rfl, rfl⟩⟩
  have HS := Aside0.mk (show w.heap.size ≤ (w.alloc (.cells #[] 22)).heap.size by rw [World.size_alloc]; omega)
  have HBA := Aside0.mk (below_alloc (Below.refl w.heap.size w) (.cells #[] 22))
  go_wp2_with ((with_reducible refine gate_builtin (b := .append) (xs := #[.tmp 5, .tmp 6]) rfl ?_); at_builtin; refine stk_concat w.heap.size rfl (.tmp 5) (.tmp 6) rfl _ _ [] ks rfl rfl HO.out HR.out HS.out (by simpa using HL.out) ?_; intro v1 w1 hv1 hb1; rw [List.nil_append] at hv1; obtain ⟨A1, c1, hv2, _⟩ := hv1.read.slice; subst hv2; have HV1 := Aside0.mk hv1; have HB1 := Aside0.mk hb1; clear hv1 hb1)
  go_ret
  exact ⟨_, rfl, HV1.out, ⟨HB1.out.os.trans HBA.out.os, HB1.out.tape.trans HBA.out.tape, HB1.out.output.trans HBA.out.output, Nat.le_trans HBA.out.size HB1.out.size, fun k hk => (HB1.out.block k hk).trans (HBA.out.block k hk)⟩⟩
/-- What a handler leaves. -/
def resP (hand ma mb : Int) : List Int := if hand = 1 then (if mb = 0 then [ma, 3] else [ma, mb, 3]) else if hand = 2 ∨ hand = 4 then [3] else []
theorem stkR_lit {w : World} {q : Nat} (ks : List Int) (hl : ks.length ≤ 1000) (h : w.heap[q]? = some (.cells (nums .i64 ks).toArray 22 (0, 0))) : StkR w (.slice (some ⟨q, 0, none⟩) ks.length ks.length) ks :=
  ⟨_, _, rfl, Nat.le_refl _, by simp only [maxLen]; omega, fun _ => ⟨q, _, rfl, h, by rw [List.take_of_length_le (by simp [nums])]⟩⟩
set_option maxHeartbeats 8000000 in
set_option maxRecDepth 100000 in
theorem resultsR (words s0 s1 s2 s3 s4 s5 s6 s7 g0 g1 g2 g3 g4 g5 g6 g7 t0 t1 t2 t3 ma mb sa na sb nb : Int) (both : Bool) (h0 h1 h2 h3 h4 : Value) (b : Nat) (hand : Int) (w : World) (hb : w.heap[b]? = some (.cells #[.int .i64 words, .int .i64 s0, .int .i64 s1, .int .i64 s2, .int .i64 s3, .int .i64 s4, .int .i64 s5, .int .i64 s6, .int .i64 s7, .int .i64 g0, .int .i64 g1, .int .i64 g2, .int .i64 g3, .int .i64 g4, .int .i64 g5, .int .i64 g6, .int .i64 g7, .int .i64 t0, .int .i64 t1, .int .i64 t2, .int .i64 t3, .int .i64 ma, .int .i64 mb, .int .i64 sa, .int .i64 na, .int .i64 sb, .int .i64 nb, .bool both, h0, h1, h2, h3, h4] 31 (0, 0))) :
    Calls Try.prog 55 #[.pointer (some ⟨b, 0, none⟩), .int .i64 hand] w fun e w' => ∃ v, e = .returned v ∧ StkR w' v (resP hand ma mb) ∧ Below w.heap.size w w' := by
  have HE := Aside0.mk hb
  have he21 : _ = some (Value.int .i64 ma) := blk_cell hb 21
  have he22 : _ = some (Value.int .i64 mb) := blk_cell hb 22
  clear hb
  go_enter Try.func55, Try.ntmps55
  by_cases h1 : hand = 1
  · have d1 : (hand == 1) = true := beq_iff_eq.mpr h1
    have HR0 := Aside0.mk (show resP hand ma mb = (if mb = 0 then [ma, 3] else [ma, mb, 3]) from if_pos h1)
    by_cases h2 : mb = 0
    · have d2 : (mb != 0) = false := bne_eq_false_iff_eq.mpr h2
      have HR := Aside0.mk (HR0.out.trans (if_pos h2))
      clear h1 h2
      go_wp2
      go_ret
      exact ⟨_, rfl, by rw [HR.out]; exact stkR_lit [ma, 3] (by simp) (heap_alloc_new w _), below_alloc (Below.refl _ _) _⟩
    have d2 : (mb != 0) = true := bne_iff_ne.mpr h2
    have HR := Aside0.mk (HR0.out.trans (if_neg h2))
    clear h1 h2
    go_wp2
    repeat (go_region; try go_wp2)
    all_goals go_ret
    all_goals exact ⟨_, rfl, by rw [HR.out]; exact stkR_lit [ma, mb, 3] (by simp) (heap_alloc_new _ _), below_alloc (pw_below_drewN (Below.refl _ _) 1) _⟩
  have d1 : (hand == 1) = false := beq_eq_false_iff_ne.mpr h1
  have HR0 := Aside0.mk (show resP hand ma mb = (if hand = 2 ∨ hand = 4 then [3] else []) from if_neg h1)
  by_cases h2 : hand = 2
  · have d2 : (hand == 2) = true := beq_iff_eq.mpr h2
    have HR := Aside0.mk (HR0.out.trans (if_pos (.inl h2)))
    clear h1 h2
    go_wp2
    go_ret
    exact ⟨_, rfl, by rw [HR.out]; exact stkR_lit [3] (by decide) (heap_alloc_new w _), below_alloc (Below.refl _ _) _⟩
  have d2 : (hand == 2) = false := beq_eq_false_iff_ne.mpr h2
  by_cases h3 : hand = 4
  · have d3 : (hand == 4) = true := beq_iff_eq.mpr h3
    have HR := Aside0.mk (HR0.out.trans (if_pos (.inr h3)))
    clear h1 h2 h3
    go_wp2
    go_ret
    exact ⟨_, rfl, by rw [HR.out]; exact stkR_lit [3] (by decide) (heap_alloc_new w _), below_alloc (Below.refl _ _) _⟩
  have d3 : (hand == 4) = false := beq_eq_false_iff_ne.mpr h3
  have HR := Aside0.mk (HR0.out.trans (if_neg (fun h => h.elim h2 h3)))
  clear h1 h2 h3
  go_wp2
  go_ret
  exact ⟨_, rfl, by rw [HR.out]; exact (StkV.nil 0 w none).read, Below.refl _ _⟩
end WalkerB
end Go.Proofs.Ytcpcpmojallcdaa.QLoomChecks
