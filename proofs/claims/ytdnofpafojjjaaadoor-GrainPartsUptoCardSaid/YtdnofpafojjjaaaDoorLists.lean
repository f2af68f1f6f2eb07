/- Literals of rows ([][]byte{x, y}) in a block of their own, read; a constant's bytes. Conditions: as each lemma says. -/
import Derived.Test.YtdnofpafojjjaaaDoorWMore
import Derived.Test.YtdnofpafojjjaaaDoorLit
namespace Go.Proofs.YtdnofpafojjjaaaDoor.Lists
open Go.RowKit Go.Proofs.YtdnofpafojjjaaaDoorW.PrintWords Go.Proofs.YtdnofpafojjjaaaDoorW.PrintLast Go.Proofs.YtdnofpafojjjaaaDoorW.PrintMore
set_option linter.unusedVariables false
/-- A row as a cell: where it lies, its room, its numbers. -/
def sl (r : Option Addr × Nat × List Int) : Value := .slice r.1 r.2.2.length r.2.1
theorem C_list {e t : TypeId} {g : Nat} {w : World} {rs : List (Option Addr × Nat × List Int)} (h : w.heap[g]? = some (.cells (rs.map sl).toArray t (0, 0))) (hm : rs.length ≤ 9223372036854775807)
    (hr : ∀ r ∈ rs, r.2.2.length ≤ r.2.1 ∧ (Kd.int .u8).C w r.1 r.2.2.length r.2.2) : (Kd.slice e (Kd.int .u8)).C w (some ⟨g, 0, none⟩) rs.length (rs.map (·.2.2)) := by
  refine ⟨by simp, hm, fun _ => ⟨_, rfl, fun j p hp => ?_⟩⟩
  rw [List.getElem?_map] at hp
  rcases hj : rs[j]? with _ | r
  · simp [hj] at hp
  · have hp' : r.2.2 = p := by simpa [hj] using hp
    subst hp'
    obtain ⟨h1, h2⟩ := hr r (List.mem_of_getElem? hj)
    refine ⟨[sl r], rfl, ⟨r.1, r.2.1, rfl, h1, h2⟩, fun i u hu => ?_⟩
    rcases i with _ | i
    · have hu' : sl r = u := by simpa using hu
      subst hu'
      have ha : Addr.add ⟨g, 0, none⟩ (j * (Kd.slice e (Kd.int .u8)).sz + 0) = ⟨g, j, none⟩ := by
        show Addr.add ⟨g, 0, none⟩ (j * 1 + 0) = _
        simp [Addr.add]; try omega
      rw [ha, blk_cell h j]
      simp [hj]
    · simp at hu
section
variable {P : Program} {ops : Array Oper} {rest : List Oper} {o : Oper} {a : Act} {Q : Exit → Act → World → Prop} {W : World}
theorem build_event (hgd : o.guard = none) {N : Tmp} (_hd : o.dst = some N) {cs : Array Value} {t : TypeId} {n : Nat}
    (hrun : (execOp a.eval o).run P W = .ok (.value (.slice (some ⟨W.heap.size, 0, none⟩) n n)) (W.alloc (.cells cs t (0, 0))))
    (h : ∀ g w1, g = W.heap.size → w1.heap[g]? = some (.cells cs t (0, 0)) → Below W.heap.size W w1 → wpList P ops Q rest (a.put o.dst (.slice (some ⟨g, 0, none⟩) n n)) w1) : wpList P ops Q (o :: rest) a W :=
  Kd.event_run hgd hrun (h _ _ rfl (blk_new W _) (below_alloc (Below.refl _ _) _))
theorem conv_event (hgd : o.guard = none) {N : Tmp} (_hd : o.dst = some N) {cs : Array Value} {t : TypeId} {fz : Nat × Nat} {n : Nat}
    (hrun : (execOp a.eval o).run P (W.alloc (.cells cs t (0, 0))) = .ok (.value (.slice (some ⟨W.heap.size, 0, none⟩) n n)) (W.alloc (.cells cs t fz)))
    (h : ∀ g w1, g = W.heap.size → w1.heap[g]? = some (.cells cs t fz) → Below W.heap.size W w1 → wpList P ops Q rest (a.put o.dst (.slice (some ⟨g, 0, none⟩) n n)) w1) : wpList P ops Q (o :: rest) a (W.alloc (.cells cs t (0, 0))) :=
  Kd.event_run hgd hrun (h _ _ rfl (blk_new W _) (below_alloc (Below.refl _ _) _))
end
end Go.Proofs.YtdnofpafojjjaaaDoor.Lists
