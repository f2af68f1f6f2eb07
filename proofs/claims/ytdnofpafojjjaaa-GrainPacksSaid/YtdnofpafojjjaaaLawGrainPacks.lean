/- GrainPacks: the law's row, out of the walk and the pure part. Conditions: none. -/
import Derived.Test.YtdnofpafojjjaaaRows
import Derived.Test.YtdnofpafojjjaaaPureGrainPacks
import Derived.WalkKit
import Derived.ProofKit
import Derived.OpenShut
import Derived.ShutString
import Derived.ChangeOld
import Derived.Below
import Derived.SizedLaws
import Derived.Test.YtdnofpafojjjaaaWSized
import Derived.Deep.Strs
import Derived.KernelRfl
namespace Go.Proofs.Ytdnofpafojjjaaa.grainPacks
open Go.ChangeShapes Go.WideShapes Go.ChangeAt Go.RowKit
open Go.ChangeMaps (open_string shut_string)
set_option linter.unusedVariables false
theorem own : ownKnob Try.prog.godebug = none := by kernel_rfl
theorem laidOut : laidOutB Try.prog = true := by kernel_rfl
def IsRow (k : IntKind) (w : World) (a : Option Addr) (len cap : Nat) (zs : List Int) : Prop :=
  (a = none ∧ len = 0 ∧ cap = 0 ∧ zs = []) ∨
  ∃ x, a = some x ∧ len ≤ cap ∧ cap ≤ maxLen ∧ zs.length = cap ∧ (∀ i, i < zs.length → w.cell? (x.add i) = some (.int k (zs.getD i 0))) ∧ ∀ n ∈ zs, (Lit.int k n).wf = true
theorem list4 {α : Type} (l : List α) (h : l.length = 4) : ∃ a b c d, l = [a, b, c, d] := by
  match l, h with
  | [a, b, c, d], _ => exact ⟨a, b, c, d, rfl⟩
theorem opened {H : Type} (enc : TypeId × Value → H) (W : World) (c0 c1 c2 c3 : Value) (d0 : DataW H) (p0 : List MemPlace) (hsz : (DataW.weights Try.prog 48 d0).all (· ≤ reachBytes) = true) (h0 : DataW.Trod enc Try.prog W 0 (fun _ => true) true 48 (.agg #[c0, c1, c2, c3]) d0 p0) :
    ∃ (a0 : Option Addr) (len0 cap0 : Nat) (z0 : List Int) (at_ width V : Int), (#[c0, c1, c2, c3] : Array Value) = #[.slice a0 len0 cap0, .int .i64 at_, .int .i64 width, .int .u64 V] ∧ IsRow .u8 W a0 len0 cap0 z0 ∧ (Lit.int .i64 at_).wf = true ∧ (Lit.int .i64 width).wf = true ∧ (Lit.int .u64 V).wf = true ∧ len0 * 1 ≤ 140737488351232 := by
  obtain ⟨fuel, hf⟩ := h0
  obtain ⟨xs, n, _, hx, _, hlen, hfs⟩ := DataW.trod_struct Try.underlying48 hf
  obtain ⟨x0, x1, x2, x3, rfl⟩ := list4 xs hlen
  have g0 : DataW.trod enc Try.prog W 0 (fun _ => true) true n 46 [c0] = some x0 := by
    have h : DataW.trod enc Try.prog W 0 (fun _ => true) true n 46 (List.take (Try.prog.cellsOf 46) (List.drop 0 [c0, c1, c2, c3])) = some x0 := hfs 0 _ rfl
    rw [show Try.prog.cellsOf 46 = 1 by kernel_rfl] at h
    exact h
  have g1 : DataW.trod enc Try.prog W 0 (fun _ => true) true n 3 [c1] = some x1 := by
    have h : DataW.trod enc Try.prog W 0 (fun _ => true) true n 3 (List.take (Try.prog.cellsOf 3) (List.drop 1 [c0, c1, c2, c3])) = some x1 := hfs 1 _ rfl
    rw [show Try.prog.cellsOf 3 = 1 by kernel_rfl] at h
    exact h
  have g2 : DataW.trod enc Try.prog W 0 (fun _ => true) true n 3 [c2] = some x2 := by
    have h : DataW.trod enc Try.prog W 0 (fun _ => true) true n 3 (List.take (Try.prog.cellsOf 3) (List.drop 2 [c0, c1, c2, c3])) = some x2 := hfs 2 _ rfl
    rw [show Try.prog.cellsOf 3 = 1 by kernel_rfl] at h
    exact h
  have g3 : DataW.trod enc Try.prog W 0 (fun _ => true) true n 38 [c3] = some x3 := by
    have h : DataW.trod enc Try.prog W 0 (fun _ => true) true n 38 (List.take (Try.prog.cellsOf 38) (List.drop 3 [c0, c1, c2, c3])) = some x3 := hfs 3 _ rfl
    rw [show Try.prog.cellsOf 38 = 1 by kernel_rfl] at h
    exact h
  obtain ⟨n1, q1, _, w1⟩ := DataW.trod_int Try.underlying3 g1
  obtain ⟨n2, q2, _, w2⟩ := DataW.trod_int Try.underlying3 g2
  obtain ⟨n3, q3, _, w3⟩ := DataW.trod_int Try.underlying38 g3
  simp only [List.cons.injEq, and_true] at q1 q2 q3
  subst q1 q2 q3
  rcases open_ints Try.underlying46 Try.underlying5 (by kernel_rfl) g0 with ⟨hcs, _⟩ | ⟨x, l, c, zs, hcs, _, hl, hm, hz, hxx, hcell, hwz⟩
  · simp only [List.cons.injEq, and_true] at hcs
    subst hcs
    exact ⟨none, 0, 0, [], n1, n2, n3, rfl, .inl ⟨rfl, rfl, rfl, rfl⟩, w1, w2, w3, by simp⟩
  · simp only [List.cons.injEq, and_true] at hcs
    subst hcs
    obtain ⟨hd0, _⟩ := Prod.mk.inj hx
    have hs1 : (DataW.weightsEach Try.prog [46, 3, 3, 38] [x0.1, x1.1, x2.1, x3.1]).all (· ≤ reachBytes) = true := by
      refine List.all_eq_true.2 fun m hm => List.all_eq_true.1 hsz m ?_
      rw [hd0]
      unfold DataW.weights
      rw [Try.underlying48]
      exact hm
    have hxx1 : x0.1 = _ := congrArg Prod.fst hxx
    have z := sized_slice (j := 0) (t := 46) (e := 5) (elems := lits .u8 (zs.take l)) (spare := lits .u8 (zs.drop l)) hs1 rfl (by rw [hxx1]; rfl) Try.underlying46
    rw [show Try.prog.bytesOf 5 = 1 by kernel_rfl] at z
    have hl2 : l ≤ (lits (H := H) .u8 (zs.take l)).length + (lits (H := H) .u8 (zs.drop l)).length := by
      simp [lits]
      have : zs.length = c := by simpa using hz
      omega
    have z' : l * 1 ≤ 140737488351232 := Nat.le_trans (Nat.mul_le_mul_right _ hl2) z
    exact ⟨some x, l, c, zs, n1, n2, n3, rfl, .inr ⟨_, rfl, hl, hm, by simpa using hz, hcell, hwz⟩, w1, w2, w3, z'⟩
set_option maxRecDepth 100000 in
theorem lifted (os : Os) (started : os.Started) (H : Type) (enc : TypeId × Value → H) :
    ReturnsInHanded {} Try.checked os 8 .any (Rows.grainPacksSpec.pre6 enc Try.prog Try.f8 Rows.grainPacksRow.domain false) (Rows.grainPacksSpec.post enc Try.prog Try.f8 false true false false) := by
  refine returnsInHanded_of_change_sized (C := Try.checked) own started (by kernel_rfl) Try.func8
    (ChangeSpec.witness6 (enc := enc) (C := Try.checked) false ⟨#[], #[.agg #[.slice none 0 0, .int .i64 0, .int .i64 0, .int .u64 0]], []⟩ 8 (by kernel_rfl) (by kernel_rfl) (by kernel_rfl) (by kernel_rfl)) ?_
  intro W base args ds gs before hval0 hW hcnd hsz0 _
  have hsz : (DataW.weightsEach Try.prog (Try.f8.params.toList ++ Rows.grainPacksSpec.plain.varTypes Try.prog) (ds ++ gs)).all (· ≤ reachBytes) = true := hsz0
  have hval : ∀ (j : Nat) t v, Try.f8.params[j]? = some t → args[j]? = some v → Value.okWide Try.prog W .any base t v := hval0
  have hW' := hW
  obtain ⟨p, q, hA0, hV, rfl, hfz, hnd⟩ := hW
  have hA : DataW.TrodAll enc Try.prog W 0 (fun _ => true) true Try.f8.params.toList args.toList ds p := hA0
  rw [Try.params8] at hA hval hsz
  obtain ⟨v0, vs0, d0, ds0, p0, q0, hargs, rfl, rfl, h0, r0⟩ := trodAll_cons hA
  obtain ⟨rfl, rfl, rfl⟩ := trodAll_nil r0
  obtain rfl : args = #[v0] := by cases args; simp_all
  obtain ⟨rfl, rfl⟩ := trodVars_none hV
  obtain ⟨cs, rfl, hcs⟩ := okWide_struct Try.underlying48 (hval 0 48 v0 rfl rfl)
  have k0 := h0
  have lt0 : ∀ x ∈ p0, x.block < W.heap.size := by obtain ⟨m, hm⟩ := k0; exact DataW.trod_lt m _ _ _ hm
  have e4 : Try.prog.cellsOf 48 = 4 := by kernel_rfl
  rw [e4] at hcs
  obtain ⟨c0, c1, c2, c3, hc4⟩ := list4 cs.toList (by simpa using hcs)
  obtain rfl : cs = #[c0, c1, c2, c3] := by rw [← Array.toArray_toList (xs := cs), hc4]
  have hsz1 : (DataW.weights Try.prog 48 d0).all (· ≤ reachBytes) = true := List.all_eq_true.2 fun m hm => List.all_eq_true.1 hsz m (DataW.weights_mem_each (j := 0) (t := 48) (d := d0) rfl rfl m hm)
  obtain ⟨a0, len0, cap0, z0, at_, width, V, he, w0, w1, w2, w3, y0⟩ := opened enc W c0 c1 c2 c3 d0 p0 hsz1 h0
  rw [he] at k0 hW' ⊢
  clear he hA0 hval0 hsz0 hsz hsz1 hcs hc4
  obtain ⟨l0, rfl, hr0, hm0, hw0, hc0⟩ := Go.Proofs.YtdnofpafojjjaaaW.PrintWords.ReadsInt.ofRowC w0
  have hat := Num.wf_i64 w1
  have hV := Num.wf_u64 w3
  refine (Pure.packs_all a0 cap0 l0 at_ width V W (Go.Proofs.YtdnofpafojjjaaaW.PrintWords.Kd.C_of_reads (d := (0 : Int)) (h1 := fun _ => rfl) hr0) hc0 (fun c hc => Num.wf_u8 (hw0 c hc)) (by omega) hat.1 hat.2 hV.1 hV.2).mono fun e W' ⟨he, bel⟩ => ?_
  subst he
  exact ⟨_, rfl, _, _, _, [], _, [], hW', trodAll_mk1 (shut_bool Try.underlying4 _), (trodAll_cons_mk (Below.trod laidOut (by kernel_rfl) (of_decide_eq_true (by kernel_rfl)) k0 bel lt0) trodAll_mk0), rfl, bel.frame _, fun h => by cases h⟩
theorem over : Rows.grainPacksRow.holds Try.pinned (OpenSpec.ofChange Rows.grainPacksSpec) :=
  OpenClaim.holds_of_wide 8 Try.f8 rfl rfl rfl rfl rfl rfl rfl ⟨rfl, rfl, rfl, rfl, rfl⟩ rfl rfl rfl rfl rfl (by kernel_rfl) Try.func8 (by kernel_rfl)
    (of_decide_eq_true (by kernel_rfl)) (by unfold Func.isWrapper; first | (rw [if_pos (by decide +kernel)]; kernel_rfl) | (rw [if_neg (by decide +kernel)]; exact ⟨rfl, rfl⟩))
    (fun os started H enc _ => lifted os started H enc)
theorem proved : Rows.GrainPacksSaid := over
end Go.Proofs.Ytdnofpafojjjaaa.grainPacks
namespace Go.Proofs.Ytdnofpafojjjaaa
/-- The row, under a short name, for the claim. -/
theorem grainPacks_holds : Rows.GrainPacksSaid := grainPacks.proved
end Go.Proofs.Ytdnofpafojjjaaa
