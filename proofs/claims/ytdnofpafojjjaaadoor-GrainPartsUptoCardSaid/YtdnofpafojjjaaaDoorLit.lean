/- A literal of numbers with the run-time's mark behind it ('[]byte("..")' of a constant): what is read of it. -/
import Derived.Test.YtdnofpafojjjaaaDoorWMore
import Derived.Lib.SlBytesConst
namespace Go.Proofs.YtdnofpafojjjaaaDoor.Lit
open Go.RowKit Go.Proofs.YtdnofpafojjjaaaDoorW.PrintWords
theorem C_lit (k : IntKind) (e : Nat) (fz : Nat × Nat) (W' : World) (b : Nat) (xs : List Int) (hm : xs.length ≤ 9223372036854775807) (h : W'.heap[b]? = some (.cells (xs.map (fun x => Value.int k x)).toArray e fz)) :
    (Kd.int k).C W' (some ⟨b, 0, none⟩) xs.length xs := by
  refine ⟨rfl, hm, fun _ => ⟨_, rfl, fun j p hj => ⟨[.int k p], rfl, rfl, fun i u hi => ?_⟩⟩⟩
  have hi0 : i = 0 := by
    cases i with
    | zero => rfl
    | succ i => simp at hi
  subst hi0
  have hu : u = .int k p := by simpa using hi.symm
  subst hu
  have ha : Addr.add ⟨b, 0, none⟩ (j * (Kd.int k).sz + 0) = ⟨b, j, none⟩ := by
    show Addr.add ⟨b, 0, none⟩ (j * 1 + 0) = _
    simp [Addr.add]; try omega
  rw [ha]
  simp [World.cell?, h, hj]
theorem F_lit (k : IntKind) (e : Nat) (fz : Nat × Nat) (W : World) (xs : List Int) (hm : xs.length ≤ 9223372036854775807) (ok : Nat → Prop) (hok : ok W.heap.size) :
    Kd.F (Kd.int k) (W.alloc (.cells (xs.map (fun x => Value.int k x)).toArray e fz)) ok (some ⟨W.heap.size, 0, none⟩) xs.length xs := by
  intro W' hW
  refine C_lit k e fz W' _ xs hm ?_
  rw [hW W.heap.size hok (by show W.heap.size < (W.heap.push _).size; simp)]
  show (W.heap.push _)[W.heap.size]? = _
  simp
theorem FK_lit (k : IntKind) (e : Nat) (fz : Nat × Nat) (W : World) (xs : List Int) (hm : xs.length ≤ 9223372036854775807) (ok : Nat → Prop) (hok : ok W.heap.size) :
    Kd.FK (Kd.slice e (Kd.int k)) (W.alloc (.cells (xs.map (fun x => Value.int k x)).toArray e fz)) ok xs [.slice (some ⟨W.heap.size, 0, none⟩) xs.length xs.length] :=
  Kd.FK_slice_mk (Nat.le_refl _) (F_lit k e fz W xs hm ok hok)
end Go.Proofs.YtdnofpafojjjaaaDoor.Lit
