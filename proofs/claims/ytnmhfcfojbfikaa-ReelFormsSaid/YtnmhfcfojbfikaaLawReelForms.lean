/- ReelForms: the law's row, for every kind, edge, update, number of words and state. Conditions: none. -/
import Derived.Test.YtnmhfcfojbfikaaRows
import Derived.Test.YtnmhfcfojbfikaaReelLaw
import Derived.WalkKit
import Derived.ProofKit
import Derived.OpenShut
import Derived.ShutString
import Derived.ChangeOld
import Derived.Below
import Derived.SizedLaws
import Derived.Test.YtnmhfcfojbfikaaNum
import Derived.KernelRfl
namespace Go.Proofs.Ytnmhfcfojbfikaa.reelForms
open Go.ChangeShapes Go.WideShapes Go.ChangeAt Go.RowKit
set_option linter.unusedVariables false
theorem own : ownKnob Try.prog.godebug = none := by kernel_rfl
theorem laidOut : laidOutB Try.prog = true := by kernel_rfl
theorem list3 {α : Type} (l : List α) (h : l.length = 3) : ∃ a b c, l = [a, b, c] := by
  match l, h with
  | [a, b, c], _ => exact ⟨a, b, c, rfl⟩
theorem list8 {α : Type} (l : List α) (h : l.length = 8) : ∃ x0 x1 x2 x3 x4 x5 x6 x7, l = [x0, x1, x2, x3, x4, x5, x6, x7] := by
  match l, h with
  | [x0, x1, x2, x3, x4, x5, x6, x7], _ => exact ⟨x0, x1, x2, x3, x4, x5, x6, x7, rfl⟩
theorem okWide_array {P : Program} {w : World} {r : Reach} {base : Nat} {t e : TypeId} {n : Nat} {v : Value} (ht : P.underlying t = some (.array n e)) (h : Value.okWide P w r base t v) : ∃ cs, v = .agg cs ∧ cs.size = P.cellsOf t := by
  simp only [Value.okWide, ht] at h
  obtain ⟨cs, h1, h2, _⟩ := h
  exact ⟨cs, h1, h2⟩
theorem opened64 {H : Type} (enc : TypeId × Value → H) (W : World) (c0 c1 c2 : Value) (d0 : DataW H) (p0 : List MemPlace) (h0 : DataW.Trod enc Try.prog W 0 (fun _ => true) true 64 (.agg #[c0, c1, c2]) d0 p0) :
    ∃ n0 n1 n2 : Int, (#[c0, c1, c2] : Array Value) = #[.int .u32 n0, .int .u32 n1, .int .u32 n2] ∧ (Lit.int .u32 n0).wf = true ∧ (Lit.int .u32 n1).wf = true ∧ (Lit.int .u32 n2).wf = true := by
  obtain ⟨fuel, hf⟩ := h0
  obtain ⟨xs, n, _, hx, _, hlen, hfs⟩ := DataW.trod_struct Try.underlying64 hf
  obtain ⟨x0, x1, x2, rfl⟩ := list3 xs hlen
  have g0 : DataW.trod enc Try.prog W 0 (fun _ => true) true n 53 [c0] = some x0 := by
    have h : DataW.trod enc Try.prog W 0 (fun _ => true) true n 53 (List.take (Try.prog.cellsOf 53) (List.drop 0 [c0, c1, c2])) = some x0 := hfs 0 _ rfl
    rw [show Try.prog.cellsOf 53 = 1 by kernel_rfl] at h
    exact h
  have g1 : DataW.trod enc Try.prog W 0 (fun _ => true) true n 53 [c1] = some x1 := by
    have h : DataW.trod enc Try.prog W 0 (fun _ => true) true n 53 (List.take (Try.prog.cellsOf 53) (List.drop 1 [c0, c1, c2])) = some x1 := hfs 1 _ rfl
    rw [show Try.prog.cellsOf 53 = 1 by kernel_rfl] at h
    exact h
  have g2 : DataW.trod enc Try.prog W 0 (fun _ => true) true n 53 [c2] = some x2 := by
    have h : DataW.trod enc Try.prog W 0 (fun _ => true) true n 53 (List.take (Try.prog.cellsOf 53) (List.drop 2 [c0, c1, c2])) = some x2 := hfs 2 _ rfl
    rw [show Try.prog.cellsOf 53 = 1 by kernel_rfl] at h
    exact h
  obtain ⟨n0, q0, _, w0⟩ := DataW.trod_int Try.underlying53 g0
  obtain ⟨n1, q1, _, w1⟩ := DataW.trod_int Try.underlying53 g1
  obtain ⟨n2, q2, _, w2⟩ := DataW.trod_int Try.underlying53 g2
  simp only [List.cons.injEq, and_true] at q0 q1 q2
  subst q0 q1 q2
  exact ⟨n0, n1, n2, rfl, w0, w1, w2⟩
theorem opened67 {H : Type} (enc : TypeId × Value → H) (W : World) (c0 c1 c2 : Value) (d0 : DataW H) (p0 : List MemPlace) (h0 : DataW.Trod enc Try.prog W 0 (fun _ => true) true 67 (.agg #[c0, c1, c2]) d0 p0) :
    ∃ n0 n1 n2 : Int, (#[c0, c1, c2] : Array Value) = #[.int .u32 n0, .int .u64 n1, .int .u64 n2] ∧ (Lit.int .u32 n0).wf = true ∧ (Lit.int .u64 n1).wf = true ∧ (Lit.int .u64 n2).wf = true := by
  obtain ⟨fuel, hf⟩ := h0
  obtain ⟨xs, n, _, hx, _, hlen, hfs⟩ := DataW.trod_struct Try.underlying67 hf
  obtain ⟨x0, x1, x2, rfl⟩ := list3 xs hlen
  have g0 : DataW.trod enc Try.prog W 0 (fun _ => true) true n 53 [c0] = some x0 := by
    have h : DataW.trod enc Try.prog W 0 (fun _ => true) true n 53 (List.take (Try.prog.cellsOf 53) (List.drop 0 [c0, c1, c2])) = some x0 := hfs 0 _ rfl
    rw [show Try.prog.cellsOf 53 = 1 by kernel_rfl] at h
    exact h
  have g1 : DataW.trod enc Try.prog W 0 (fun _ => true) true n 65 [c1] = some x1 := by
    have h : DataW.trod enc Try.prog W 0 (fun _ => true) true n 65 (List.take (Try.prog.cellsOf 65) (List.drop 1 [c0, c1, c2])) = some x1 := hfs 1 _ rfl
    rw [show Try.prog.cellsOf 65 = 1 by kernel_rfl] at h
    exact h
  have g2 : DataW.trod enc Try.prog W 0 (fun _ => true) true n 65 [c2] = some x2 := by
    have h : DataW.trod enc Try.prog W 0 (fun _ => true) true n 65 (List.take (Try.prog.cellsOf 65) (List.drop 2 [c0, c1, c2])) = some x2 := hfs 2 _ rfl
    rw [show Try.prog.cellsOf 65 = 1 by kernel_rfl] at h
    exact h
  obtain ⟨n0, q0, _, w0⟩ := DataW.trod_int Try.underlying53 g0
  obtain ⟨n1, q1, _, w1⟩ := DataW.trod_int Try.underlying65 g1
  obtain ⟨n2, q2, _, w2⟩ := DataW.trod_int Try.underlying65 g2
  simp only [List.cons.injEq, and_true] at q0 q1 q2
  subst q0 q1 q2
  exact ⟨n0, n1, n2, rfl, w0, w1, w2⟩
set_option maxRecDepth 100000 in
theorem opened69 {H : Type} (enc : TypeId × Value → H) (W : World) (c0 c1 c2 c3 c4 c5 c6 c7 : Value) (d0 : DataW H) (p0 : List MemPlace) (h0 : DataW.Trod enc Try.prog W 0 (fun _ => true) true 69 (.agg #[c0, c1, c2, c3, c4, c5, c6, c7]) d0 p0) :
    ∃ s0 s1 s2 s3 s4 s5 s6 s7 : Int, (#[c0, c1, c2, c3, c4, c5, c6, c7] : Array Value) = #[.int .u64 s0, .int .u64 s1, .int .u64 s2, .int .u64 s3, .int .u64 s4, .int .u64 s5, .int .u64 s6, .int .u64 s7] ∧ ∀ i, i < 8 → (Lit.int .u64 ([s0, s1, s2, s3, s4, s5, s6, s7].getD i 0)).wf = true := by
  obtain ⟨fuel, hf⟩ := h0
  obtain ⟨xs, n, _, hx, _, hlen, hfs⟩ := DataW.trod_array Try.underlying69 hf
  obtain ⟨x0, x1, x2, x3, x4, x5, x6, x7, rfl⟩ := list8 xs hlen
  have g0 : DataW.trod enc Try.prog W 0 (fun _ => true) true n 65 [c0] = some x0 := by
    have h := hfs 0 (by decide)
    rw [show Try.prog.cellsOf 65 = 1 by kernel_rfl] at h
    exact h
  have g1 : DataW.trod enc Try.prog W 0 (fun _ => true) true n 65 [c1] = some x1 := by
    have h := hfs 1 (by decide)
    rw [show Try.prog.cellsOf 65 = 1 by kernel_rfl] at h
    exact h
  have g2 : DataW.trod enc Try.prog W 0 (fun _ => true) true n 65 [c2] = some x2 := by
    have h := hfs 2 (by decide)
    rw [show Try.prog.cellsOf 65 = 1 by kernel_rfl] at h
    exact h
  have g3 : DataW.trod enc Try.prog W 0 (fun _ => true) true n 65 [c3] = some x3 := by
    have h := hfs 3 (by decide)
    rw [show Try.prog.cellsOf 65 = 1 by kernel_rfl] at h
    exact h
  have g4 : DataW.trod enc Try.prog W 0 (fun _ => true) true n 65 [c4] = some x4 := by
    have h := hfs 4 (by decide)
    rw [show Try.prog.cellsOf 65 = 1 by kernel_rfl] at h
    exact h
  have g5 : DataW.trod enc Try.prog W 0 (fun _ => true) true n 65 [c5] = some x5 := by
    have h := hfs 5 (by decide)
    rw [show Try.prog.cellsOf 65 = 1 by kernel_rfl] at h
    exact h
  have g6 : DataW.trod enc Try.prog W 0 (fun _ => true) true n 65 [c6] = some x6 := by
    have h := hfs 6 (by decide)
    rw [show Try.prog.cellsOf 65 = 1 by kernel_rfl] at h
    exact h
  have g7 : DataW.trod enc Try.prog W 0 (fun _ => true) true n 65 [c7] = some x7 := by
    have h := hfs 7 (by decide)
    rw [show Try.prog.cellsOf 65 = 1 by kernel_rfl] at h
    exact h
  obtain ⟨s0, q0, _, w0⟩ := DataW.trod_int Try.underlying65 g0
  obtain ⟨s1, q1, _, w1⟩ := DataW.trod_int Try.underlying65 g1
  obtain ⟨s2, q2, _, w2⟩ := DataW.trod_int Try.underlying65 g2
  obtain ⟨s3, q3, _, w3⟩ := DataW.trod_int Try.underlying65 g3
  obtain ⟨s4, q4, _, w4⟩ := DataW.trod_int Try.underlying65 g4
  obtain ⟨s5, q5, _, w5⟩ := DataW.trod_int Try.underlying65 g5
  obtain ⟨s6, q6, _, w6⟩ := DataW.trod_int Try.underlying65 g6
  obtain ⟨s7, q7, _, w7⟩ := DataW.trod_int Try.underlying65 g7
  simp only [List.cons.injEq, and_true] at q0 q1 q2 q3 q4 q5 q6 q7
  subst q0 q1 q2 q3 q4 q5 q6 q7
  refine ⟨s0, s1, s2, s3, s4, s5, s6, s7, rfl, fun i hi => ?_⟩
  have : i = 0 ∨ i = 1 ∨ i = 2 ∨ i = 3 ∨ i = 4 ∨ i = 5 ∨ i = 6 ∨ i = 7 := by omega
  rcases this with rfl | rfl | rfl | rfl | rfl | rfl | rfl | rfl
  · exact w0
  · exact w1
  · exact w2
  · exact w3
  · exact w4
  · exact w5
  · exact w6
  · exact w7
set_option maxRecDepth 100000 in
theorem lifted (os : Os) (started : os.Started) (H : Type) (enc : TypeId × Value → H) :
    ReturnsInHanded {} Try.checked os 12 .any (Rows.reelFormsSpec.pre6 enc Try.prog Try.f12 Rows.reelFormsRow.domain false) (Rows.reelFormsSpec.post enc Try.prog Try.f12 false true false false) := by
  refine returnsInHanded_of_change_sized (C := Try.checked) own started (by kernel_rfl) Try.func12
    (ChangeSpec.witness6 (enc := enc) (C := Try.checked) false ⟨#[], #[.int .i64 0, .agg #[.int .u32 0, .int .u32 0, .int .u32 0], .agg #[.int .u32 0, .int .u64 0, .int .u64 0], .int .i64 0, .agg #[.int .u64 0, .int .u64 0, .int .u64 0, .int .u64 0, .int .u64 0, .int .u64 0, .int .u64 0, .int .u64 0]], []⟩ 8 (by kernel_rfl) (by kernel_rfl) (by kernel_rfl) (by kernel_rfl)) ?_
  intro W base args ds gs before hval0 hW hcnd hsz0 _
  have hval : ∀ (j : Nat) t v, Try.f12.params[j]? = some t → args[j]? = some v → Value.okWide Try.prog W .any base t v := hval0
  have hW' := hW
  obtain ⟨p, q, hA0, hV, rfl, hfz, hnd⟩ := hW
  have hA : DataW.TrodAll enc Try.prog W 0 (fun _ => true) true Try.f12.params.toList args.toList ds p := hA0
  rw [Try.params12] at hA hval
  obtain ⟨v0, vs0, d0, ds0, p0, q0, hargs, rfl, rfl, h0, r0⟩ := trodAll_cons hA
  obtain ⟨v1, vs1, d1, ds1, p1, q1, rfl, rfl, rfl, h1, r1⟩ := trodAll_cons r0
  obtain ⟨v2, vs2, d2, ds2, p2, q2, rfl, rfl, rfl, h2, r2⟩ := trodAll_cons r1
  obtain ⟨v3, vs3, d3, ds3, p3, q3, rfl, rfl, rfl, h3, r3⟩ := trodAll_cons r2
  obtain ⟨v4, vs4, d4, ds4, p4, q4, rfl, rfl, rfl, h4, r4⟩ := trodAll_cons r3
  obtain ⟨rfl, rfl, rfl⟩ := trodAll_nil r4
  obtain rfl : args = #[v0, v1, v2, v3, v4] := by cases args; simp_all
  obtain ⟨rfl, rfl⟩ := trodVars_none hV
  have lt0 : ∀ x ∈ p0, x.block < W.heap.size := by obtain ⟨m, hm⟩ := h0; exact DataW.trod_lt m _ _ _ hm
  have lt1 : ∀ x ∈ p1, x.block < W.heap.size := by obtain ⟨m, hm⟩ := h1; exact DataW.trod_lt m _ _ _ hm
  have lt2 : ∀ x ∈ p2, x.block < W.heap.size := by obtain ⟨m, hm⟩ := h2; exact DataW.trod_lt m _ _ _ hm
  have lt3 : ∀ x ∈ p3, x.block < W.heap.size := by obtain ⟨m, hm⟩ := h3; exact DataW.trod_lt m _ _ _ hm
  have lt4 : ∀ x ∈ p4, x.block < W.heap.size := by obtain ⟨m, hm⟩ := h4; exact DataW.trod_lt m _ _ _ hm
  have k0 := h0
  have k3 := h3
  obtain ⟨kind, rfl, _, _, w0⟩ := open_int Try.underlying3 (hval 0 3 v0 rfl rfl) h0
  obtain ⟨words, rfl, _, _, w3⟩ := open_int Try.underlying3 (hval 3 3 v3 rfl rfl) h3
  obtain ⟨cs1, rfl, hcs1⟩ := okWide_struct Try.underlying64 (hval 1 64 v1 rfl rfl)
  rw [show Try.prog.cellsOf 64 = 3 by kernel_rfl] at hcs1
  obtain ⟨c10, c11, c12, hc1⟩ := list3 cs1.toList (by simpa using hcs1)
  obtain rfl : cs1 = #[c10, c11, c12] := by rw [← Array.toArray_toList (xs := cs1), hc1]
  obtain ⟨n10, n11, n12, he1, w10, w11, w12⟩ := opened64 enc W c10 c11 c12 d1 p1 h1
  obtain ⟨cs2, rfl, hcs2⟩ := okWide_struct Try.underlying67 (hval 2 67 v2 rfl rfl)
  rw [show Try.prog.cellsOf 67 = 3 by kernel_rfl] at hcs2
  obtain ⟨c20, c21, c22, hc2⟩ := list3 cs2.toList (by simpa using hcs2)
  obtain rfl : cs2 = #[c20, c21, c22] := by rw [← Array.toArray_toList (xs := cs2), hc2]
  obtain ⟨n20, n21, n22, he2, w20, w21, w22⟩ := opened67 enc W c20 c21 c22 d2 p2 h2
  obtain ⟨cs4, rfl, hcs4⟩ := okWide_array Try.underlying69 (hval 4 69 v4 rfl rfl)
  rw [show Try.prog.cellsOf 69 = 8 by kernel_rfl] at hcs4
  obtain ⟨e0, e1, e2, e3, e4, e5, e6, e7, hc4⟩ := list8 cs4.toList (by simpa using hcs4)
  obtain rfl : cs4 = #[e0, e1, e2, e3, e4, e5, e6, e7] := by rw [← Array.toArray_toList (xs := cs4), hc4]
  obtain ⟨s0, s1, s2, s3, s4, s5, s6, s7, he4, w4⟩ := opened69 enc W e0 e1 e2 e3 e4 e5 e6 e7 d4 p4 h4
  rw [he1] at h1 hW' ⊢
  rw [he2] at h2 hW' ⊢
  rw [he4] at h4 hW' ⊢
  clear hA0 hval0 hsz0 hA hval
  have b10 := Num.wf_u32 w10
  have b11 := Num.wf_u32 w11
  have b12 := Num.wf_u32 w12
  have b20 := Num.wf_u32 w20
  have b21 := Num.wf_u64 w21
  have b22 := Num.wf_u64 w22
  refine (QReelForms.lawAll kind n10 n11 n12 n20 n21 n22 words s0 s1 s2 s3 s4 s5 s6 s7 b10.1 b10.2 b11.1 b11.2 b12.1 b12.2 b20.1 b20.2 b21.1 b21.2 b22.1 b22.2 (fun i hi => Num.wf_u64 (w4 i hi)) W).mono fun e W' ⟨he, bel⟩ => ?_
  subst he
  exact ⟨_, rfl, _, _, _, [], _, [], hW', trodAll_mk1 (shut_bool Try.underlying4 _), (trodAll_cons_mk (Below.trod laidOut (by kernel_rfl) (of_decide_eq_true (by kernel_rfl)) k0 bel lt0) (trodAll_cons_mk (Below.trod laidOut (by kernel_rfl) (of_decide_eq_true (by kernel_rfl)) h1 bel lt1) (trodAll_cons_mk (Below.trod laidOut (by kernel_rfl) (of_decide_eq_true (by kernel_rfl)) h2 bel lt2) (trodAll_cons_mk (Below.trod laidOut (by kernel_rfl) (of_decide_eq_true (by kernel_rfl)) k3 bel lt3) (trodAll_cons_mk (Below.trod laidOut (by kernel_rfl) (of_decide_eq_true (by kernel_rfl)) h4 bel lt4) trodAll_mk0))))), rfl, bel.frame _, fun h => by cases h⟩
theorem over : Rows.reelFormsRow.holds Try.pinned (OpenSpec.ofChange Rows.reelFormsSpec) :=
  OpenClaim.holds_of_wide 12 Try.f12 rfl rfl rfl rfl rfl rfl rfl ⟨rfl, rfl, rfl, rfl, rfl⟩ rfl rfl rfl rfl rfl (by kernel_rfl) Try.func12 (by kernel_rfl)
    (of_decide_eq_true (by kernel_rfl)) (by unfold Func.isWrapper; first | (rw [if_pos (by decide +kernel)]; kernel_rfl) | (rw [if_neg (by decide +kernel)]; exact ⟨rfl, rfl⟩))
    (fun os started H enc _ => lifted os started H enc)
theorem proved : Rows.ReelFormsSaid := over
#print axioms proved
end Go.Proofs.Ytnmhfcfojbfikaa.reelForms
namespace Go.Proofs.Ytnmhfcfojbfikaa
/-- The row, under a short name, for the claim. -/
theorem reelForms_holds : Rows.ReelFormsSaid := reelForms.proved
end Go.Proofs.Ytnmhfcfojbfikaa
