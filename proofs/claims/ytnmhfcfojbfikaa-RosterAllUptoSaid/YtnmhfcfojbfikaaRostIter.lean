/- roster.All's iterator: its contract for every loop body that keeps its word. Conditions: as each theorem says. -/
import Derived.Test.YtnmhfcfojbfikaaRostKinds
import Derived.RangeFuncNested
import Derived.RangeFuncBound
import Derived.RangeFuncCalls
import Derived.RangeFuncLeaves
import Derived.Shelf.Abstract
import Derived.Shelf.RegionOpen
import Derived.WalkKit
import Derived.OwnWalkIn
import Derived.TacticsInMore
import Derived.LoopNIn
import Derived.LoopIn
namespace Go.Proofs.Ytnmhfcfojbfikaa.QRosterLays
open Go.RowKit Go.Shelf Go.Proofs.YtnmhfcfojbfikaaW.PrintWords Go.Proofs.YtnmhfcfojbfikaaW.PrintLast Go.Proofs.YtnmhfcfojbfikaaW.PrintMore
attribute [local go_sem] Oper.semAt_some
set_option linter.unusedVariables false
set_option linter.unusedSectionVars false
set_option linter.unusedSimpArgs false
/-- What a round that goes on keeps: what lay below n₀; and of the cells all but block B. -/
structure Kc (n₀ B : Nat) (W W' : World) : Prop where
  below : Below n₀ W W'
  cells : ∀ k o, W.heap[k]? = some o → o.isCells = true → k ≠ B → W'.heap[k]? = some o
theorem Kc.refl (n₀ B : Nat) (W : World) : Kc n₀ B W W := ⟨Below.refl _ _, fun _ _ h _ _ => h⟩
theorem Kc.trans {n₀ B : Nat} {W W' W'' : World} (h : Kc n₀ B W W') (k : Kc n₀ B W' W'') : Kc n₀ B W W'' := ⟨h.below.trans k.below, fun j o hj hc hB => k.cells j o (h.cells j o hj hc hB) hc hB⟩
theorem Kc.put {n₀ B : Nat} {w : World} (hn : n₀ ≤ w.heap.size) (W : World) (l : Nat) (o o' : Obj) (hl : w.heap.size ≤ l) (h : W.heap[l]? = some o) (hc : o.isCells = false) (hw : o.isWalk = false) : Kc n₀ B W (W.putObj l o') :=
  ⟨belowK_b hn W l o o' hl h hc hw, fun k q hk hq hB => by
    by_cases e : k = l
    · subst e
      rw [h] at hk
      cases hk
      rw [hc] at hq
      cases hq
    · rw [World.putObj_heap_other e]; exact hk⟩
def dot : ByteArray := ⟨#[46]⟩
def prs (nm : ByteArray) (es : List S34) : List (ByteArray × ByteArray) := es.map fun e => (nm ++ dot ++ e.f0, e.f1)
def allP (l : List S101) : List (ByteArray × ByteArray) := l.flatMap fun s => prs s.f0 s.f1
def Sized (l : List S101) : Prop := ∀ x ∈ l, x.f0.size ≤ 1000000000000 ∧ ∀ e ∈ x.f1, e.f0.size ≤ 1000000000000
theorem cell_w {w0 W : World} (hB : Below w0.heap.size w0 W) {a : Addr} {v : Value} (h : w0.cell? a = some v) : W.cell? a = some v := (hB.cell (World.block_lt_of_cell? w0 _ h)).trans h
theorem rd101_mem (l : List S101) (j : Nat) (h : j < l.length) : rd_T101 l (j : Int) ∈ l := by
  unfold rd_T101
  rw [Int.toNat_natCast, List.getD_eq_getElem?_getD, List.getElem?_eq_getElem h]
  exact List.getElem_mem h
theorem rd34_mem (l : List S34) (j : Nat) (h : j < l.length) : rd_T34 l (j : Int) ∈ l := by
  unfold rd_T34
  rw [Int.toNat_natCast, List.getD_eq_getElem?_getD, List.getElem?_eq_getElem h]
  exact List.getElem_mem h
theorem prs_take (nm : ByteArray) (es : List S34) (j : Nat) (h : j < es.length) : prs nm (es.take (j + 1)) = prs nm (es.take j) ++ [(nm ++ dot ++ (rd_T34 es (j : Int)).f0, (rd_T34 es (j : Int)).f1)] := by
  unfold rd_T34 prs
  rw [Int.toNat_natCast, List.getD_eq_getElem?_getD, List.getElem?_eq_getElem h, List.take_succ_eq_append_getElem h, List.map_append]
  rfl
theorem allP_take (l : List S101) (k : Nat) (h : k < l.length) : allP (l.take (k + 1)) = allP (l.take k) ++ prs (rd_T101 l (k : Int)).f0 (rd_T101 l (k : Int)).f1 := by
  unfold rd_T101 allP
  rw [Int.toNat_natCast, List.getD_eq_getElem?_getD, List.getElem?_eq_getElem h, List.take_succ_eq_append_getElem h, List.flatMap_append]
  simp
theorem allP_pre (l : List S101) (k : Nat) (h : k < l.length) : allP (l.take (k + 1)) <+: allP l := by
  refine ⟨allP (l.drop (k + 1)), ?_⟩
  unfold allP
  rw [← List.flatMap_append, List.take_append_drop]
set_option maxRecDepth 100000 in
set_option maxHeartbeats 4000000 in
theorem iter_in (F : Fence) (n : Nat) (h50 : F.fn 50) (hro : F.round = none) (hn : 1 ≤ n) (lp Bs B : Nat) (w0 : World) (A : Option Addr) (c : Nat) (l : List S101) (hC : Kd.C k101 w0 A l.length l) (hc : l.length ≤ c) (hl : l.length ≤ 1000000) (hle : ∀ x ∈ l, x.f1.length ≤ 1000000) (hz : Sized l) (J Jx : List (ByteArray × ByteArray) → World → Prop) (W : World) (hJ : AbidesFrom W.heap.size J) (hJx : AbidesFrom W.heap.size Jx)
    (hY : ∀ pre x W1, J pre W1 → pre.length < (allP l).length → YieldAt F (n - 1) Try.prog lp #[.string x.1, .string x.2] W1 fun e W' =>
      (e = .returned (.bool true) ∧ J (pre ++ [x]) W' ∧ Kc w0.heap.size B W1 W') ∨ (e = .returned (.bool false) ∧ Jx (pre ++ [x]) W'))
    (hW : Below w0.heap.size w0 W) (hBW : B < W.heap.size) (hBs : W.cell? ⟨Bs, 0, none⟩ = some (.slice A l.length c)) (h0 : J [] W) :
    CallsIn F n Try.prog 50 #[.func (.yield lp) #[] #[], .pointer (some ⟨Bs, 0, none⟩)] W fun e W' => (∃ v, e = .returned v) ∧
      ((∃ ys, ys = allP l ∧ J ys W') ∨ (∃ pre, pre <+: allP l ∧ Jx pre W')) := by
  refine callsIn_of_wp Try.func50 rfl h50 ?_ hro
  simp only [Try.ntmps50, List.size_toArray, List.length_cons, List.length_nil, Nat.reduceAdd, Nat.reduceSub, Array.replicate_succ, Array.replicate_zero, List.push_toArray, List.append_toArray, List.nil_append, List.cons_append]
  gi_wp2
  gi_loopw [9] (fun i wr => ∃ k : Nat, k ≤ l.length ∧ i = .int .i64 k ∧ J (allP (l.take k)) wr ∧ Below w0.heap.size w0 wr ∧ W.heap.size ≤ wr.heap.size)
    (fun i _ => l.length - (intOf i).toNat)
  case atStart => exact ⟨0, Nat.zero_le _, rfl, h0, hW, Nat.le_refl _⟩
  case round =>
    obtain ⟨k, hk, rfl, hJs, hnx, hsz⟩ := hrel
    by_cases hlt : k < l.length
    · obtain ⟨ad, A1, c1, rfl, hx0, hx1, hl1, hC1⟩ := at_T101 hC (k : Int) (by omega) (by omega)
      rw [Int.toNat_natCast] at hx0 hx1
      have hx0' := cell_w hnx hx0
      have hx1' := cell_w hnx hx1
      have hxs := hz _ (rd101_mem l k hlt)
      have hes := hle _ (rd101_mem l k hlt)
      have hall := allP_take l k hlt
      generalize (rd_T101 l (k : Int)).f0 = nm at hx0 hx1 hx0' hx1' hxs hall
      generalize (rd_T101 l (k : Int)).f1 = es at hx0 hx1 hx0' hx1' hxs hl1 hC1 hes hall
      have b1 : (9223372036854775807 < nm.size + 1) = False := eq_false (by have := hxs.1; omega)
      gi_wp2
      have hJ1 := hJ _ wr _ none hJs (World.grownBy_alloc wr (.cells #[.string nm, .slice A1 es.length c1] 101) none) (fun r e => by cases e)
      have hbx := World.alloc_heap_new wr (.cells #[.string nm, .slice A1 es.length c1] 101)
      have hnx1 := hnx.alloc hnx.size (.cells #[.string nm, .slice A1 es.length c1] 101)
      have hs1 : W.heap.size ≤ (wr.alloc (.cells #[.string nm, .slice A1 es.length c1] 101)).heap.size := by rw [World.size_alloc]; omega
      obtain ⟨W1, hW1⟩ : ∃ W1, wr.alloc (.cells #[.string nm, .slice A1 es.length c1] 101) = W1 := ⟨_, rfl⟩
      rw [hW1] at hJ1 hbx hnx1 hs1 ⊢
      obtain ⟨gB, hgB⟩ : ∃ gB, wr.heap.size = gB := ⟨_, rfl⟩
      rw [hgB] at hbx hsz ⊢
      clear hW1 hgB hJs hnx hx0' hx1' hx0 hx1
      gi_loopw [16] (fun i wr => ∃ j : Nat, j ≤ es.length ∧ i = .int .i64 j ∧ J (allP (l.take k) ++ prs nm (es.take j)) wr ∧ Below w0.heap.size w0 wr ∧ W.heap.size ≤ wr.heap.size ∧ wr.heap[gB]? = some (.cells #[.string nm, .slice A1 es.length c1] 101 (0, 0)))
        (fun i _ => es.length - (intOf i).toNat)
      case atStart => exact ⟨0, Nat.zero_le _, rfl, by rw [List.take_zero]; exact (List.append_nil (allP (l.take k))).symm ▸ hJ1, hnx1, hs1, hbx⟩
      case round =>
        clear hJ1 hbx hnx1 hs1
        obtain ⟨j, hj, rfl, hJs, hnx, hs2, hbx⟩ := hrel
        by_cases hlj : j < es.length
        · obtain ⟨a2, rfl, hy0, hy1⟩ := at_T34 hC1 (j : Int) (by omega) (by omega)
          rw [Int.toNat_natCast] at hy0 hy1
          have hy0' := cell_w hnx hy0
          have hy1' := cell_w hnx hy1
          have hxe := hxs.2 _ (rd34_mem es j hlj)
          have hpt := prs_take nm es j hlj
          generalize rd_T34 es (j : Int) = e at hy0 hy1 hy0' hy1' hxe hpt
          obtain ⟨e0, e1⟩ := e
          dsimp only at hy0 hy1 hy0' hy1' hxe hpt
          have b2 : (9223372036854775807 < nm.size + 1 + e0.size) = False := eq_false (by have := hxs.1; omega)
          have hJ3 := hJ _ wr _ none hJs (World.grownBy_alloc wr (.cells #[.string e0, .string e1] 34) none) (fun r e => by cases e)
          have hbx3 : (wr.alloc (.cells #[.string e0, .string e1] 34)).heap[gB]? = some (.cells #[.string nm, .slice (some a2) es.length c1] 101 (0, 0)) := (Below.heap_alloc wr _ gB (Array.getElem?_eq_some_iff.1 hbx).1).trans hbx
          have hcB : (wr.alloc (.cells #[.string e0, .string e1] 34)).cell? ⟨gB, 0, none⟩ = some (.string nm) := (blk_cell hbx3 0).trans rfl
          have hnx3 := hnx.alloc hnx.size (.cells #[.string e0, .string e1] 34)
          have hs3 : W.heap.size ≤ (wr.alloc (.cells #[.string e0, .string e1] 34)).heap.size := by rw [World.size_alloc]; omega
          obtain ⟨fn, tmps, assign, body, hy, hR⟩ := hY _ (nm ++ dot ++ e0, e1) (wr.alloc (.cells #[.string e0, .string e1] 34)) hJ3 (by
            have := allP_pre l k hlt
            rw [hall] at this
            have h3 := this.length_le
            rw [List.length_append] at h3 ⊢
            have h4 : (prs nm es).length = es.length := by unfold prs; rw [List.length_map]
            have h5 : (prs nm (es.take j)).length = j := by unfold prs; rw [List.length_map, List.length_take]; omega
            omega)
          dsimp only at hy
          have hdot : (nm ++ dot ++ e0 : ByteArray) = nm ++ ⟨#[46]⟩ ++ e0 := rfl
          rw [hdot] at hy
          gi_wp2
          refine hR.mono ?_
          rintro e W3 (⟨rfl, hJ4, hk3⟩ | ⟨rfl, hJx3⟩)
          · gi_wp2
            go_roundw
            case rel => exact ⟨j + 1, by omega, by first | rfl | (simp; done), by rw [hpt, ← List.append_assoc]; exact hJ4, hnx3.trans hk3.below, Nat.le_trans hs3 hk3.below.size, hk3.cells gB _ hbx3 rfl (by omega)⟩
            case measure => simp [intOf]; omega
          · gi_wp2
            refine bodyPost_ret (results_none rfl _ _ _) rfl ?_
            refine ⟨⟨_, rfl⟩, .inr ⟨_, ?_, hJx3⟩⟩
            have h1 := allP_pre l k hlt
            rw [hall] at h1
            have h2 : prs nm (es.take (j + 1)) <+: prs nm es := by
              unfold prs
              exact List.IsPrefix.map _ (List.take_prefix _ _)
            rw [hpt] at h2
            obtain ⟨q, hq⟩ := h2
            exact List.IsPrefix.trans ⟨q, by rw [← hq]; simp only [List.append_assoc]⟩ h1
        · obtain rfl : j = es.length := by omega
          rw [List.take_length, ← hall] at hJs
          gi_wp2
          go_roundw
          case rel => exact ⟨k + 1, by omega, by first | rfl | (simp; done), hJs, hnx, hs2⟩
          case measure => simp [intOf]; omega
    · obtain rfl : k = l.length := by omega
      gi_wp2
      go_end0
      exact ⟨⟨_, rfl⟩, .inl ⟨_, by rw [List.take_length], hJs⟩⟩
/-- roster.All hands back a value that tells all, or the first of them. -/
theorem iter_stops (F : Fence) (n : Nat) (h50 : F.fn 50) (hro : F.round = none) (hn : 1 ≤ n) (Bs B : Nat) (w0 : World) (A : Option Addr) (c : Nat) (l : List S101) (hC : Kd.C k101 w0 A l.length l) (hc : l.length ≤ c) (hl : l.length ≤ 1000000) (hle : ∀ x ∈ l, x.f1.length ≤ 1000000) (hz : Sized l) (w : World) (hBs0 : Bs < w.heap.size) (hBw : B < w.heap.size) (hW0 : Below w0.heap.size w0 w) (hcell : w.cell? ⟨Bs, 0, none⟩ = some (.slice A l.length c)) :
    SeqStopsK F n Try.prog 50 #[.pointer (some ⟨Bs, 0, none⟩)] (fun x : ByteArray × ByteArray => #[Value.string x.1, Value.string x.2]) (Kc w0.heap.size B) (fun ys => ys = allP l) (fun pre => pre <+: allP l) (allP l).length w := fun lp J Jx W hW hJ hJx hY h0 =>
  iter_in F n h50 hro hn lp Bs B w0 A c l hC hc hl hle hz J Jx W hJ hJx hY (hW0.trans (hW.mono hW0.size)) (Nat.lt_of_lt_of_le hBw hW.size) ((hW.cell (p := ⟨Bs, 0, none⟩) hBs0).trans hcell) h0
set_option maxRecDepth 100000 in
set_option maxHeartbeats 1000000 in
theorem all_in (F : Fence) (n : Nat) (h18 : F.fn 18) (hro : F.round = none) (A : Option Addr) (m c : Nat) (w : World) :
    CallsIn F n Try.prog 18 #[.slice A m c] w fun e w' => e = .returned (.func (.func 50) #[] #[.pointer (some ⟨w.heap.size, 0, none⟩)]) ∧ w' = w.alloc (.cells #[.slice A m c] 25) := by
  refine callsIn_of_wp Try.func18 rfl h18 ?_ hro
  simp only [Try.ntmps18, List.size_toArray, List.length_cons, List.length_nil, Nat.reduceAdd, Nat.reduceSub, Array.replicate_succ, Array.replicate_zero, List.push_toArray, List.append_toArray, List.nil_append, List.cons_append]
  gi_wp2
  go_ret
  exact ⟨rfl, rfl⟩
end Go.Proofs.Ytnmhfcfojbfikaa.QRosterLays
