/- The walk of sluicelaw07.RosterAll. Conditions: as each theorem says. -/
import Derived.Test.YtnmhfcfojbfikaaRostIter
import Derived.Test.YtnmhfcfojbfikaaRostRefAll
import Derived.Test.YtnmhfcfojbfikaaRostLays
import Derived.LaidEqlPtr
namespace Go.Proofs.Ytnmhfcfojbfikaa.QRosterLays
open Go.RowKit Go.Shelf Go.Proofs.YtnmhfcfojbfikaaW.PrintWords Go.Proofs.YtnmhfcfojbfikaaW.PrintLast Go.Proofs.YtnmhfcfojbfikaaW.PrintMore
attribute [local go_sem] Oper.semAt_some
set_option linter.unusedVariables false
set_option linter.unusedSectionVars false
set_option linter.unusedSimpArgs false
theorem box_low {W W' : World} {B : Nat} {t : TypeId} {v : Value} (h : Boxed W B t v) (hb : Below W.heap.size W W') : Boxed W' B t v := (hb.block B h.lt).trans h
theorem func_nil (g : Nat) (W : World) : (binOp .eql 31 (.func (.func 50) #[] #[.pointer (some ⟨g, 0, none⟩)]) .nilFunc).run Try.prog W = .ok (.bool false) W := by
  have h : ∀ d : Nat, (Op.equalIn (d + 1) 31 (.func (.func 50) #[] #[.pointer (some ⟨g, 0, none⟩)]) .nilFunc).run Try.prog W = .ok false W := fun d => by
    simp [Op.equalIn, run_underlying Try.underlying31]
  have h2 : (Op.equal 31 (.func (.func 50) #[] #[.pointer (some ⟨g, 0, none⟩)]) .nilFunc).run Try.prog W = .ok false W := h 9999
  unfold binOp
  simp only [Sem.run_bind, h2]
  rfl
theorem result_8 {W : World} {T : List Value} {g : Nat} {b : Bool} {x0 x1 x2 x3 : Value} (h : W.cell? ⟨g, 0, none⟩ = some (.bool b)) : (results Try.f8 (List.toArray (x0 :: x1 :: x2 :: x3 :: .pointer (some ⟨g, 0, none⟩) :: T))).run Try.prog W = .ok (.bool b) W := by
  simp [results, Try.f8, go_sem, h]
theorem box_own {W W' : World} {row : Option Nat} {B : Nat} {t : TypeId} {v : Value} (h : Boxed W B t v) (hg : W.grownBy W' row) (hr : ∀ r, row = some r → ∃ o : Obj, W.heap[r]? = some o ∧ o.isCells = false) : Boxed W' B t v :=
  h.kept hg (fun e => by
    obtain ⟨o, ho, hc⟩ := hr B e.symm
    rw [show W.heap[B]? = _ from h] at ho
    cases ho
    cases hc)
theorem bel_a {w W : World} (h : Below w.heap.size w W) (o : Obj) : Below w.heap.size w (W.alloc o) := h.alloc h.size o
theorem box_new2 (W : World) (a b : Obj) (t : TypeId) (v : Value) : Boxed (((W.alloc a).alloc b).alloc (.cells #[v] t)) (W.heap.size + 1 + 1) t v := by
  have := Boxed.new ((W.alloc a).alloc b) t v
  rw [World.size_alloc, World.size_alloc] at this
  exact this
theorem box_new3 (W : World) (a b c : Obj) (t : TypeId) (v : Value) : Boxed ((((W.alloc a).alloc b).alloc c).alloc (.cells #[v] t)) (W.heap.size + 1 + 1 + 1) t v := by
  have := Boxed.new (((W.alloc a).alloc b).alloc c) t v
  rw [World.size_alloc, World.size_alloc, World.size_alloc] at this
  exact this
/-- The law's own boxes, and what else stays. -/
structure Bxs (g3 g4 g5 g6 g7 : Nat) (stop q : Int) (vt vw : Value) (w w3 W : World) : Prop where
  b3 : Boxed W g3 3 (.int .i64 stop)
  b4 : Boxed W g4 4 (.bool false)
  b5 : Boxed W g5 25 vt
  b6 : Boxed W g6 28 vw
  b7 : Boxed W g7 3 (.int .i64 q)
  hz : Below w.heap.size w W
  hp : Below w3.heap.size w3 W
section
variable {g3 g4 g5 g6 g7 : Nat} {stop q : Int} {vt vw : Value} {w w3 W W' : World}
theorem Bxs.own (h : Bxs g3 g4 g5 g6 g7 stop q vt vw w w3 W) {row : Option Nat} {B : Nat} (h1 : w.heap.size ≤ B) (h2 : w3.heap.size ≤ B) (hg : W.grownBy W' row) (hr : ∀ r, row = some r → B ≤ r ∧ ∃ o : Obj, W.heap[r]? = some o ∧ o.isCells = false) : Bxs g3 g4 g5 g6 g7 stop q vt vw w w3 W' :=
  have hr' := fun r e => (hr r e).2
  ⟨box_own h.b3 hg hr', box_own h.b4 hg hr', box_own h.b5 hg hr', box_own h.b6 hg hr', box_own h.b7 hg hr', h.hz.grown hg h.hz.size (fun k e => Nat.le_trans h1 (hr k e).1), h.hp.grown hg h.hp.size (fun k e => Nat.le_trans h2 (hr k e).1)⟩
theorem Bxs.alloc (h : Bxs g3 g4 g5 g6 g7 stop q vt vw w w3 W) (o : Obj) : Bxs g3 g4 g5 g6 g7 stop q vt vw w w3 (W.alloc o) :=
  ⟨h.b3.alloc o, h.b4.alloc o, h.b5.alloc o, h.b6.alloc o, h.b7.alloc o, h.hz.alloc h.hz.size o, h.hp.alloc h.hp.size o⟩
theorem box_other {B g : Nat} {t : TypeId} {v u : Value} (h : Boxed W B t v) (hne : B ≠ g) : Boxed (W.setCell ⟨g, 0, none⟩ u) B t v := (Below.heap_setCell W ⟨g, 0, none⟩ u B hne).trans h
theorem Bxs.set7 (h : Bxs g3 g4 g5 g6 g7 stop q vt vw w w3 W) (p : Int) (n3 : g3 ≠ g7) (n4 : g4 ≠ g7) (n5 : g5 ≠ g7) (n6 : g6 ≠ g7) (h1 : w.heap.size ≤ g7) (h2 : w3.heap.size ≤ g7) : Bxs g3 g4 g5 g6 g7 stop p vt vw w w3 (W.setCell ⟨g7, 0, none⟩ (.int .i64 p)) :=
  ⟨box_other h.b3 n3, box_other h.b4 n4, box_other h.b5 n5, box_other h.b6 n6, h.b7.set _, h.hz.setCell (p := ⟨g7, 0, none⟩) h1 _, h.hp.setCell (p := ⟨g7, 0, none⟩) h2 _⟩
theorem text_eq {a b : ByteArray} (h : a.toList = b.toList) : a = b := by
  rw [ByteArray.toList_eq, ByteArray.toList_eq] at h
  exact ByteArray.ext (Array.toList_inj.1 h)
theorem Kc.alloc {n₀ g : Nat} (h : n₀ ≤ W.heap.size) (o : Obj) : Kc n₀ g W (W.alloc o) :=
  ⟨(Below.refl n₀ W).alloc h o, fun k q hk _ _ => (Below.heap_alloc W o k (Array.getElem?_eq_some_iff.1 hk).1).trans hk⟩
theorem Kc.own {n₀ g : Nat} {w0 : World} (h : Kc n₀ g w0 W) {row : Option Nat} {B : Nat} (hn : n₀ ≤ w0.heap.size) (hB : n₀ ≤ B) (hg : W.grownBy W' row) (hr : ∀ r, row = some r → B ≤ r ∧ ∃ o : Obj, W.heap[r]? = some o ∧ o.isCells = false) : Kc n₀ g w0 W' :=
  ⟨h.below.grown hg (Nat.le_trans hn h.below.size) (fun k e => Nat.le_trans hB (hr k e).1), fun k q hk hc hB_ => by
    have hW := h.cells k q hk hc hB_
    refine (hg.block k (Array.getElem?_eq_some_iff.1 hW).1 (fun e => ?_)).trans hW
    obtain ⟨o, ho, hf⟩ := (hr k e.symm).2
    rw [hW] at ho
    cases ho
    rw [hc] at hf
    cases hf⟩
theorem Kc.set {n₀ g : Nat} (h : n₀ ≤ g) (u : Value) : Kc n₀ g W (W.setCell ⟨g, 0, none⟩ u) :=
  ⟨(Below.refl n₀ W).setCell (p := ⟨g, 0, none⟩) h _, fun k o hk _ hB => (Below.heap_setCell W ⟨g, 0, none⟩ u k hB).trans hk⟩
end
theorem pre_next {r : List S34} {l0 : List S101} {pre : List (ByteArray × ByteArray)} (hr : r.map (fun e => (e.f0, e.f1)) = allP l0) (hp : pre <+: allP l0) (h : pre.length < r.length) (x : ByteArray × ByteArray) : (pre ++ [x] <+: allP l0) ↔ x = ((rd_T34 r (pre.length : Int)).f0, (rd_T34 r (pre.length : Int)).f1) := by
  obtain ⟨t, ht⟩ := hp
  have hl : (r.map (fun e => (e.f0, e.f1)))[pre.length]? = some ((rd_T34 r (pre.length : Int)).f0, (rd_T34 r (pre.length : Int)).f1) := by
    unfold rd_T34
    rw [Int.toNat_natCast, List.getElem?_map, List.getD_eq_getElem?_getD, List.getElem?_eq_getElem h]
    rfl
  rw [hr, ← ht, List.getElem?_append_right (Nat.le_refl _), Nat.sub_self] at hl
  rw [← ht, List.prefix_append_right_inj]
  cases t with
  | nil => simp at hl
  | cons y t =>
    have hy : y = ((rd_T34 r (pre.length : Int)).f0, (rd_T34 r (pre.length : Int)).f1) := by simpa using hl
    rw [← hy]
    constructor
    · intro hh
      exact (List.cons_prefix_cons.1 hh).1
    · rintro rfl
      exact ⟨t, rfl⟩
/-- What the law's lists answer. -/
structure FactsA (k : Nat) (l0 : List S101) (r : List S34) : Prop where
  t0 : twinM.f k l0 = some (l0.map some ++ [none])
  al : sluiceref07_All.f k l0 = some r
  rp : r.map (fun e => (e.f0, e.f1)) = allP l0
  s0 : sluicelaw07_same.f k l0 l0 = some true
  n0 : l0.length ≤ 1000000
  le : ∀ x ∈ l0, x.f1.length ≤ 1000000
  hz : Sized l0
set_option maxHeartbeats 8000000 in
set_option maxRecDepth 100000 in
theorem allLaw (k : Nat) (A0 : Option Addr) (c0 : Nat) (l0 : List S101) (stop : Int) (r : List S34) (b0 : Bool) (w : World) (hr0 : Kd.C k101 w A0 l0.length l0) (hc0 : l0.length ≤ c0) (hv : sluicelaw07_vast.f k l0 = some b0) (hf : b0 = false → FactsA k l0 r) :
    Calls Try.prog 8 #[.slice A0 l0.length c0, .int .i64 stop] w fun e w' => e = .returned (.bool true) ∧ Below w.heap.size w w' := by
  have HR0 := Aside0.mk (Kd.C_alloc (Kd.C_alloc hr0 (.cells #[.int .i64 stop] 3)) (.cells #[.bool false] 4))
  have HC0 := Aside0.mk hc0
  have HV := Aside0.mk hv
  have HF := Aside0.mk hf
  have b3 := (Boxed.new w 3 (.int .i64 stop)).alloc (.cells #[.bool false] 4)
  have b4 := Boxed.new (w.alloc (.cells #[.int .i64 stop] 3)) 4 (.bool false)
  have HZ : Below w.heap.size w ((w.alloc (.cells #[.int .i64 stop] 3)).alloc (.cells #[.bool false] 4)) := ((Below.refl _ w).alloc (Nat.le_refl _) _).alloc (by simp) _
  rw [World.size_alloc] at b4
  refine (callsIn_wide (n := 8)).1 ?_
  refine callsIn_of_wp_marks Try.func8 rfl trivial ?_ rfl
  simp only [Try.ntmps8, List.size_toArray, List.length_cons, List.length_nil, Nat.reduceAdd, Nat.reduceSub, Array.replicate_succ, Array.replicate_zero, List.push_toArray, List.append_toArray, List.nil_append, List.cons_append]
  clear hr0 hc0 hv hf
  cases b0
  case true =>
    gi_wp2
    refine ⟨trivial, ?_⟩
    gi_at_call 15
    refine (callsIn_wide.2 (sluicelaw07_vast.calls k _ _ l0 true _ HR0.out HC0.out HV.out)).mono ?_
    rintro e w1 ⟨rfl, hd⟩
    have hb := drawn_below hd
    have n3 := box_low b3 hb
    have n4 := box_low b4 hb
    have n9 := HZ.trans (hb.mono HZ.size)
    clear b3 b4 HZ HR0 hb hd
    have b3 := n3
    have b4 := n4
    have HZ := n9
    have c4 := b4.cell
    have f4 := b4.frozen
    clear n3 n4 n9
    gi_wp2
    have hc := (b4.set (.bool true)).cell
    exact ⟨.bool true, result_8 hc, rfl, HZ.setCell (p := ⟨w.heap.size + 1, 0, none⟩) (by simp) _⟩
  case false =>
    have F := HF.out rfl
    clear HF
    gi_wp2
    refine ⟨trivial, ?_⟩
    gi_at_call 15
    refine (callsIn_wide.2 (sluicelaw07_vast.calls k _ _ l0 false _ HR0.out HC0.out HV.out)).mono ?_
    rintro e w1 ⟨rfl, hd⟩
    have hb := drawn_below hd
    have n3 := box_low b3 hb
    have n4 := box_low b4 hb
    have n9 := HZ.trans (hb.mono HZ.size)
    have n0 := Aside0.mk (Kd.C_below HR0.out hb)
    clear b3 b4 HZ HR0 HV hb hd
    have b3 := n3
    have b4 := n4
    have HZ := n9
    have HR0 := n0
    clear n3 n4 n9 n0
    gi_wp2
    refine ⟨trivial, ?_⟩
    gi_at_call 16
    refine (callsIn_wide.2 (twinM.calls k _ _ l0 _ _ HR0.out HC0.out F.t0)).mono ?_
    rintro e w2 ⟨n, At, ct, rfl, hl, hN, hb⟩
    obtain ⟨rfl, h2, h3⟩ := twin_reads hl hN
    have HT := Aside0.mk h3
    have HTC := Aside0.mk h2
    have n3 := box_low b3 hb
    have n4 := box_low b4 hb
    have n9 := HZ.trans (hb.mono HZ.size)
    have n0 := Aside0.mk (Kd.C_below HR0.out hb)
    clear b3 b4 HZ HR0 hb hl hN h2 h3
    have b3 := n3
    have b4 := n4
    have HZ := n9
    have HR0 := n0
    clear n3 n4 n9 n0
    gi_wp2
    refine ⟨trivial, ?_⟩
    gi_at_call 17
    have b5 := Boxed.new w2 25 (.slice At l0.length ct)
    refine (callsIn_wide.2 (sluiceref07_All.calls k _ _ l0 r _ (Kd.C_alloc HR0.out _) HC0.out F.al)).mono ?_
    rintro e w3 ⟨v, rfl, hR, hb⟩
    obtain ⟨Aw, cw, rfl⟩ := Kd.R_slice hR
    have HW := Aside0.mk (Kd.R_reads' hR).2.2
    have HWC := Aside0.mk (Kd.R_reads' hR).2.1
    have n3 := box_low (b3.alloc _) hb
    have n4 := box_low (b4.alloc _) hb
    have n5 := box_low b5 hb
    have n9 := (HZ.alloc HZ.size (.cells #[.slice At l0.length ct] 25)).trans (hb.mono (by rw [World.size_alloc]; have := HZ.size; omega))
    have n0 := Aside0.mk (Kd.C_below (Kd.C_alloc HR0.out _) hb)
    have n1 := Aside0.mk (Kd.C_below (Kd.C_alloc HT.out _) hb)
    clear b3 b4 b5 HZ HR0 HT hb hR
    have b3 := n3
    have b4 := n4
    have b5 := n5
    have HZ := n9
    have HR0 := n0
    have HT := n1
    clear n3 n4 n5 n9 n0 n1
    have b6 := Boxed.new w3 28 (.slice Aw r.length cw)
    have c5 := (b5.alloc (.cells #[.slice Aw r.length cw] 28)).cell
    gi_wp2
    refine ⟨trivial, ?_⟩
    gi_at_call 18
    refine (all_in Fence.wide _ trivial rfl _ _ _ _).mono ?_
    rintro e w' ⟨rfl, rfl⟩
    have c5b := (((b5.alloc (.cells #[.slice Aw r.length cw] 28)).alloc (.cells #[.slice At l0.length ct] 25)).alloc (.cells #[.int .i64 0] 3)).cell
    have hbo : ∀ (g : Nat) (W : World), (binOp .eql 31 (.func (.func 50) #[] #[.pointer (some ⟨g, 0, none⟩)]) .nilFunc).run Try.prog W = .ok (.bool false) W := fun g W => func_nil g W
    gi_wp2
    refine ⟨trivial, ?_⟩
    gi_at_call 18
    refine (all_in Fence.wide _ trivial rfl _ _ _ _).mono ?_
    rintro e w' ⟨rfl, rfl⟩
    gi_wp2
    have hx0 : Bxs w.heap.size (w.heap.size + 1) w2.heap.size w3.heap.size (w3.heap.size + 1 + 1) stop 0 (.slice At l0.length ct) (.slice Aw r.length cw) w w3 ((((w3.alloc (.cells #[.slice Aw r.length cw] 28)).alloc (.cells #[.slice At l0.length ct] 25)).alloc (.cells #[.int .i64 0] 3)).alloc (.cells #[.slice At l0.length ct] 25)) :=
      ⟨(((b3.alloc _).alloc _).alloc _).alloc _, (((b4.alloc _).alloc _).alloc _).alloc _, (((b5.alloc _).alloc _).alloc _).alloc _, ((b6.alloc _).alloc _).alloc _, (box_new2 _ _ _ _ _).alloc _, bel_a (bel_a (bel_a (bel_a HZ _) _) _) _, bel_a (bel_a (bel_a (bel_a (Below.refl _ w3) _) _) _) _⟩
    have bA := box_new3 w3 (.cells #[.slice Aw r.length cw] 28) (.cells #[.slice At l0.length ct] 25) (.cells #[.int .i64 0] 3) 25 (.slice At l0.length ct)
    have hsz : ((((w3.alloc (.cells #[.slice Aw r.length cw] 28)).alloc (.cells #[.slice At l0.length ct] 25)).alloc (.cells #[.int .i64 0] 3)).alloc (.cells #[.slice At l0.length ct] 25)).heap.size = w3.heap.size + 1 + 1 + 1 + 1 := by simp [World.size_alloc]
    have hg3 := b3.lt
    have hg4 := b4.lt
    have hg5 := b5.lt
    have hzs := HZ.size
    have HRL : Aside0 (r.length = (allP l0).length) := ⟨by rw [← F.rp, List.length_map]⟩
    clear b3 b4 b5 b6 c5 c5b hbo HZ
    obtain ⟨W5, hW5⟩ : ∃ W5, (((w3.alloc (.cells #[.slice Aw r.length cw] 28)).alloc (.cells #[.slice At l0.length ct] 25)).alloc (.cells #[.int .i64 0] 3)).alloc (.cells #[.slice At l0.length ct] 25) = W5 := ⟨_, rfl⟩
    rw [hW5] at hx0 bA hsz ⊢
    clear hW5
    have hCt : Kd.C k101 w3 At l0.length l0 := C_marked HT.out rfl
    rename_i K1 hK1
    have tail : ∀ (D : Nat) (q : Int) (W : World), (q = (r.length : Int) ∨ q = stop) → Bxs w.heap.size (w.heap.size + 1) w2.heap.size w3.heap.size (w3.heap.size + 1 + 1) stop q (.slice At l0.length ct) (.slice Aw r.length cw) w w3 W → w3.heap.size ≤ D → W.heap[D]? = some (.deferred (some [])) → K1 { tmps := #[.slice A0 l0.length c0, .int .i64 stop, undef, .pointer (some ⟨w.heap.size, 0, none⟩), .pointer (some ⟨w.heap.size + 1, 0, none⟩), .pointer (some ⟨w2.heap.size, 0, none⟩), .pointer (some ⟨w3.heap.size, 0, none⟩), .pointer (some ⟨w3.heap.size + 1 + 1, 0, none⟩), undef, undef, undef, undef, undef, undef, undef, .slice A0 l0.length c0, .bool false, .slice A0 l0.length c0, .slice At l0.length ct, .slice A0 l0.length c0, .slice Aw r.length cw, .slice At l0.length ct, .func (.func 50) #[] #[.pointer (some ⟨w3.heap.size + 1, 0, none⟩)], .bool false, .slice At l0.length ct, .func (.func 50) #[] #[.pointer (some ⟨w3.heap.size + 1 + 1 + 1, 0, none⟩)], undef, undef, undef, undef, undef, undef, undef, undef, undef, undef, undef, undef, undef, undef, undef, undef, undef, undef, undef, undef, undef, undef, undef, undef, undef, undef, undef, undef, undef, undef, undef, undef, undef, undef, undef, undef, undef, undef, undef, undef, undef, undef, undef, undef, undef, undef, undef, undef, undef, undef, undef, undef, undef, undef, undef, undef, undef, undef, undef, undef, undef, undef, undef, undef, undef, undef, undef, undef, undef, undef, undef, undef, undef, undef, undef, undef, undef, undef, undef, undef, undef, undef, undef, undef, undef, undef, undef, undef, undef, undef, undef, undef, undef, undef, undef, undef, undef], defers := [{ target := .collected D, args := #[] }] } W := by
      intro D q W hq hB hD hK
      refine hK1 _ _ ?_
      have c3 := hB.b3.cell
      have c6 := hB.b6.cell
      have c7 := hB.b7.cell
      have c5 := (hB.b5.alloc (.cells #[.int .i64 0] 3)).cell
      by_cases hqr : q = (r.length : Int)
      · subst hqr
        gi_wp2
        refine ⟨trivial, ?_⟩
        gi_at_call 18
        refine (all_in Fence.wide _ trivial rfl _ _ _ _).mono ?_
        rintro e w' ⟨rfl, rfl⟩
        gi_wp2
        have hx2 : Bxs w.heap.size (w.heap.size + 1) w2.heap.size w3.heap.size W.heap.size stop 0 (.slice At l0.length ct) (.slice Aw r.length cw) w w3 ((W.alloc (.cells #[.int .i64 0] 3)).alloc (.cells #[.slice At l0.length ct] 25)) :=
          ⟨(hB.b3.alloc _).alloc _, (hB.b4.alloc _).alloc _, (hB.b5.alloc _).alloc _, (hB.b6.alloc _).alloc _, (Boxed.new W 3 (.int .i64 0)).alloc _, bel_a (bel_a hB.hz _) _, bel_a (bel_a hB.hp _) _⟩
        have bC := Boxed.new (W.alloc (.cells #[.int .i64 0] 3)) 25 (.slice At l0.length ct)
        rw [World.size_alloc] at bC
        have hD2 := (Below.heap_alloc (W.alloc (.cells #[.int .i64 0] 3)) (.cells #[.slice At l0.length ct] 25) D (by rw [World.size_alloc]; have := (Array.getElem?_eq_some_iff.1 hK).1; omega)).trans ((Below.heap_alloc W (.cells #[.int .i64 0] 3) D (Array.getElem?_eq_some_iff.1 hK).1).trans hK)
        have hDl := (Array.getElem?_eq_some_iff.1 hK).1
        have hsz6 : ((W.alloc (.cells #[.int .i64 0] 3)).alloc (.cells #[.slice At l0.length ct] 25)).heap.size = W.heap.size + 1 + 1 := by simp [World.size_alloc]
        have hWs := hB.hp.size
        have h3 := hB.b3.lt
        have h4 := hB.b4.lt
        have h5 := hB.b5.lt
        have h6 := hB.b6.lt
        obtain ⟨W6, hW6⟩ : ∃ W6, (W.alloc (.cells #[.int .i64 0] 3)).alloc (.cells #[.slice At l0.length ct] 25) = W6 := ⟨_, rfl⟩
        rw [hW6] at hx2 bC hD2 hsz6 ⊢
        obtain ⟨g10, hg10⟩ : ∃ g10, W.heap.size = g10 := ⟨_, rfl⟩
        rw [hg10] at hx2 bC hsz6 hDl hWs h3 h4 h5 h6 ⊢
        have HS := Aside0.mk hsz6
        clear hW6 hB hK c3 c5 c6 c7 hg10 W hsz hx0 bA hsz6
        have hs6 : g10 + 1 < W6.heap.size := by rw [HS.out]; omega
        have hs6' : W6.heap.size ≤ g10 + 1 + 1 := by rw [HS.out]; exact Nat.le_refl _
        refine wpIn_rangeFunc_ownH rfl (by omega) (gf := 50) (lb := #[.pointer (some ⟨g10 + 1, 0, none⟩)]) rfl trivial (enters_of Try.func50 (by kernel_rfl) rfl)
          (iter_stops Fence.wide 7 trivial rfl (by omega) (g10 + 1) g10 w3 At ct l0 hCt (Nat.le_of_succ_le HTC.out) F.n0 F.le F.hz W6 (by omega) (by omega) hx2.hp bC.cell)
          (fun h k => Kc.trans h k) (Kc.put (by omega)) (Below.refl _ _) (fun _ => rfl)
          (fun pre W => pre <+: allP l0 ∧ Bxs w.heap.size (w.heap.size + 1) w2.heap.size w3.heap.size g10 stop (pre.length : Int) (.slice At l0.length ct) (.slice Aw r.length cw) w w3 W ∧ W.heap[D]? = some (.deferred (some [])))
          (fun c pre W => c = .ret ∧ ¬ pre <+: allP l0)
          (fun pre A B row hs hg hr => ⟨hs.1, hs.2.1.own (by omega) (by omega) hg hr, (hg.block D (Array.getElem?_eq_some_iff.1 hs.2.2).1 (fun e => by have := (hr D e.symm).1; omega)).trans hs.2.2⟩)
          (fun c pre A B row hs hg hr => hs)
          ⟨List.nil_prefix, hx2, hD2⟩
          (fun x a' _ => a' = { tmps := #[.slice A0 l0.length c0, .int .i64 stop, undef, .pointer (some ⟨w.heap.size, 0, none⟩), .pointer (some ⟨w.heap.size + 1, 0, none⟩), .pointer (some ⟨w2.heap.size, 0, none⟩), .pointer (some ⟨w3.heap.size, 0, none⟩), .pointer (some ⟨w3.heap.size + 1 + 1, 0, none⟩), undef, undef, .pointer (some ⟨g10, 0, none⟩), .string x.1, .string x.2, undef, undef, .slice A0 l0.length c0, .bool false, .slice A0 l0.length c0, .slice At l0.length ct, .slice A0 l0.length c0, .slice Aw r.length cw, .slice At l0.length ct, .func (.func 50) #[] #[.pointer (some ⟨w3.heap.size + 1, 0, none⟩)], .bool false, .slice At l0.length ct, .func (.func 50) #[] #[.pointer (some ⟨w3.heap.size + 1 + 1 + 1, 0, none⟩)], undef, undef, undef, undef, undef, undef, undef, undef, undef, undef, undef, undef, undef, undef, undef, undef, undef, undef, undef, undef, undef, undef, undef, undef, undef, undef, undef, undef, undef, .int .i64 (r.length : Int), .slice Aw r.length cw, .int .i64 (r.length : Int), .bool false, .bool false, undef, undef, undef, .bool false, .slice At l0.length ct, .func (.func 50) #[] #[.pointer (some ⟨g10 + 1, 0, none⟩)], .string x.1, .string x.2, undef, undef, undef, undef, undef, undef, undef, undef, undef, undef, undef, undef, undef, undef, undef, undef, undef, undef, undef, undef, undef, undef, undef, undef, undef, undef, undef, undef, undef, undef, undef, undef, undef, undef, undef, undef, undef, undef, undef, undef, undef, undef, undef, undef, undef, undef, undef, undef, undef, undef, undef, undef, undef, undef, undef], defers := [] })
          (fun _ _ _ _ _ _ hs _ _ => hs) ?assign ?body ?done ?stop
        case assign =>
          intro l x0 x W K hi hK
          gi_wp2
          exact hK _ _ (KeepsFrom.refl _ _) (Kc.refl _ _ _) hi rfl
        case body =>
          rintro l pre x a' W hlW ⟨rl, hrl⟩ ⟨hpre, hB, hKD⟩ rfl hlt
          have hlr : pre.length < r.length := by rw [HRL.out]; exact hlt
          obtain ⟨aw, rfl, hy0, hy1⟩ := at_T34 HW.out (pre.length : Int) (by omega) (by omega)
          obtain ⟨aw', ew, hz0, hz1⟩ := at_T34 HW.out (0 : Int) (by omega) (by omega)
          obtain rfl : aw = aw' := by injection ew
          have ea : aw.add ((0 : Int).toNat * 2) = aw := by simp [Addr.add]
          rw [ea] at hz0 hz1
          clear ea
          rw [Int.toNat_natCast] at hy0 hy1
          have hy0w := hy0
          have hy1w := hy1
          replace hy0 := cell_w hB.hp hy0
          replace hy1 := cell_w hB.hp hy1
          have hnx := pre_next F.rp hpre hlr x
          have hnz : ∀ y, ([y] <+: allP l0) ↔ y = ((rd_T34 r 0).f0, (rd_T34 r 0).f1) := fun y => pre_next F.rp (List.nil_prefix (l := allP l0)) (by rw [List.length_nil]; omega) y
          have c4 := hB.b4.cell
          have f4 := hB.b4.frozen
          have c6 := hB.b6.cell
          have c7 := hB.b7.cell
          have f7 := hB.b7.frozen
          have c5 := hB.b5.cell
          have q1 : decide ((pre.length : Int) ≥ (r.length : Int)) = false := decide_eq_false (by omega)
          have q2 : (r.length ≤ pre.length) = False := eq_false (by omega)
          have hrb := HW.out.2.1
          have p1 : (0 ≤ (pre.length : Int)) = True := eq_true (by omega)
          have p2 : ((pre.length : Int) < (r.length : Int)) = True := eq_true (by omega)
          generalize hEE : rd_T34 r (pre.length : Int) = e at hy0 hy1 hy0w hy1w hnx
          obtain ⟨e0, e1⟩ := e
          obtain ⟨x0, x1⟩ := x
          dsimp only at hy0 hy1 hy0w hy1w hnx ⊢
          have hw : wrap64 ((pre.length : Int) + 1) = ((pre.length + 1 : Nat) : Int) := by unfold wrap64; omega
          have HQ := Aside0.mk hnx
          have HZZ := Aside0.mk hnz
          have HLR := Aside0.mk hlr
          have HLT := Aside0.mk hlt
          have hWl := hB.b7.lt
          clear hlr hnx hrb hnz hEE hlt
          gi_wp2
          refine ⟨trivial, ?_⟩
          gi_at_call 18
          refine (CallsIn.inRound l (all_in Fence.wide _ trivial rfl _ _ _ _)).mono ?_
          rintro e w' ⟨rfl, rfl⟩
          gi_wp2
          have bN := Boxed.new W 25 (.slice At l0.length ct)
          have hB7 := hB.alloc (.cells #[.slice At l0.length ct] 25)
          have hKD7 := (Below.heap_alloc W (.cells #[.slice At l0.length ct] 25) D (Array.getElem?_eq_some_iff.1 hKD).1).trans hKD
          have hrl7 := (Below.heap_alloc W (.cells #[.slice At l0.length ct] 25) l (Array.getElem?_eq_some_iff.1 hrl).1).trans hrl
          have hkf7 : KeepsFrom W6.heap.size W (W.alloc (.cells #[.slice At l0.length ct] 25)) := (KeepsOthers.alloc _ _).from _
          have hkc7 : Kc w3.heap.size g10 W (W.alloc (.cells #[.slice At l0.length ct] 25)) := Kc.alloc hB.hp.size _
          have HS7 : Aside0 ((W.alloc (.cells #[.slice At l0.length ct] 25)).heap.size = W.heap.size + 1) := ⟨by rw [World.size_alloc]⟩
          have HS8 := Aside0.mk hB.hp.size
          obtain ⟨W7, hW7⟩ : ∃ W7, W.alloc (.cells #[.slice At l0.length ct] 25) = W7 := ⟨_, rfl⟩
          rw [hW7] at bN hB7 hKD7 hrl7 hkf7 hkc7 HS7 ⊢
          obtain ⟨gC, hgC⟩ : ∃ gC, W.heap.size = gC := ⟨_, rfl⟩
          have HgC := Aside0.mk hgC
          rw [hgC] at bN HS7 ⊢
          clear hW7 hgC c4 f4 c5 c6 c7 f7 hB hKD hrl
          refine wpIn_rangeFunc_ownN (l₀ := l) (r₀ := rl) rfl hrl7 (by omega) (gf := 50) (lb := #[.pointer (some ⟨gC, 0, none⟩)]) rfl trivial (enters_of Try.func50 (by kernel_rfl) rfl)
            ((iter_stops Fence.wide 5 trivial rfl (by omega) gC g10 w3 At ct l0 hCt (Nat.le_of_succ_le HTC.out) F.n0 F.le F.hz W7 (by rw [HS7.out]; omega) (by rw [HS7.out, ← HgC.out]; omega) hB7.hp bN.cell).inRound l)
            (fun h k => Kc.trans h k) (Kc.put (by rw [HS7.out, ← HgC.out]; have := HS8.out; omega)) (Below.refl _ _) (fun _ => rfl)
            (fun pre' W' => pre' = [] ∧ (Bxs w.heap.size (w.heap.size + 1) w2.heap.size w3.heap.size g10 stop (pre.length : Int) (.slice At l0.length ct) (.slice (some aw) r.length cw) w w3 W' ∧ W'.heap[D]? = some (.deferred (some []))) ∧ Kc w3.heap.size g10 W W' ∧ KeepsFrom W6.heap.size W W')
            (fun c pre' W' => (c = .exit 4 ∧ (Bxs w.heap.size (w.heap.size + 1) w2.heap.size w3.heap.size g10 stop (pre.length : Int) (.slice At l0.length ct) (.slice (some aw) r.length cw) w w3 W' ∧ W'.heap[D]? = some (.deferred (some []))) ∧ Kc w3.heap.size g10 W W' ∧ KeepsFrom W6.heap.size W W') ∨ (c = .ret ∧ ¬ pre' <+: allP l0))
            (fun pre' X Y row hs hg hr => ⟨hs.1, ⟨hs.2.1.1.own (by rw [HS7.out, ← HgC.out]; omega) (by rw [HS7.out, ← HgC.out]; have := HS8.out; omega) hg hr, (hg.block D (Array.getElem?_eq_some_iff.1 hs.2.1.2).1 (fun e => by have := (hr D e.symm).1; rw [HS7.out, ← HgC.out] at this; omega)).trans hs.2.1.2⟩, hs.2.2.1.own (by have := HS8.out; exact this) (by rw [HS7.out, ← HgC.out]; have := HS8.out; omega) hg hr, ownFrom_keepsFrom (β := Unit) (by rw [HS7.out, ← HgC.out]; omega) () X Y row hs.2.2.2 hg hr⟩)
            (fun c pre' X Y row hs hg hr => hs.imp (fun hs => ⟨hs.1, ⟨hs.2.1.1.own (by rw [HS7.out, ← HgC.out]; omega) (by rw [HS7.out, ← HgC.out]; have := HS8.out; omega) hg hr, (hg.block D (Array.getElem?_eq_some_iff.1 hs.2.1.2).1 (fun e => by have := (hr D e.symm).1; rw [HS7.out, ← HgC.out] at this; omega)).trans hs.2.1.2⟩, hs.2.2.1.own (by have := HS8.out; exact this) (by rw [HS7.out, ← HgC.out]; have := HS8.out; omega) hg hr, ownFrom_keepsFrom (β := Unit) (by rw [HS7.out, ← HgC.out]; omega) () X Y row hs.2.2.2 hg hr⟩) id)
            ⟨rfl, ⟨hB7, hKD7⟩, hkc7, hkf7⟩
            (fun y a'' _ => a'' = { tmps := #[.slice A0 l0.length c0, .int .i64 stop, undef, .pointer (some ⟨w.heap.size, 0, none⟩), .pointer (some ⟨w.heap.size + 1, 0, none⟩), .pointer (some ⟨w2.heap.size, 0, none⟩), .pointer (some ⟨w3.heap.size, 0, none⟩), .pointer (some ⟨w3.heap.size + 1 + 1, 0, none⟩), undef, undef, .pointer (some ⟨g10, 0, none⟩), .string x0, .string x1, .string y.1, .string y.2, .slice A0 l0.length c0, .bool false, .slice A0 l0.length c0, .slice At l0.length ct, .slice A0 l0.length c0, .slice (some aw) r.length cw, .slice At l0.length ct, .func (.func 50) #[] #[.pointer (some ⟨w3.heap.size + 1, 0, none⟩)], .bool false, .slice At l0.length ct, .func (.func 50) #[] #[.pointer (some ⟨w3.heap.size + 1 + 1 + 1, 0, none⟩)], undef, undef, undef, undef, undef, undef, undef, undef, undef, undef, undef, undef, undef, undef, undef, undef, undef, undef, undef, undef, undef, undef, undef, undef, undef, undef, undef, undef, undef, .int .i64 (r.length : Int), .slice (some aw) r.length cw, .int .i64 (r.length : Int), .bool false, .bool false, undef, undef, undef, .bool false, .slice At l0.length ct, .func (.func 50) #[] #[.pointer (some ⟨g10 + 1, 0, none⟩)], .string x0, .string x1, .int .i64 (pre.length : Int), .slice (some aw) r.length cw, .int .i64 (r.length : Int), .bool false, .slice At l0.length ct, .func (.func 50) #[] #[.pointer (some ⟨gC, 0, none⟩)], .string y.1, .string y.2, undef, undef, undef, undef, undef, undef, undef, undef, undef, undef, undef, undef, undef, undef, undef, undef, undef, undef, undef, undef, undef, undef, undef, undef, undef, undef, undef, undef, undef, undef, undef, undef, undef, undef, undef, undef, undef, undef, undef, undef, undef, undef, undef, undef, undef, undef, undef], defers := [] })
            (fun _ _ _ _ _ _ hs _ _ => hs) ?assign2 ?body2 ?done2 ?stop2
          case assign2 =>
            intro l2 pre' y W' K hi hK
            gi_wp2
            exact hK _ _ (KeepsFrom.refl _ _) (Kc.refl _ _ _) hi rfl
          case body2 =>
            rintro l2 pre' y a'' W' _ _ ⟨rfl, ⟨hB', hKD'⟩, hkc, hkf⟩ rfl hlt'
            have hz0' := cell_w hB'.hp hz0
            have hz1' := cell_w hB'.hp hz1
            have c4 := hB'.b4.cell
            have f4 := hB'.b4.frozen
            have c6 := hB'.b6.cell
            have p3 : (0 < r.length) = True := eq_true (by have := HLR.out; omega)
            have p4 : ((0 : Int) < (r.length : Int)) = True := eq_true (by have := HLR.out; omega)
            have hq := HZZ.out y
            generalize rd_T34 r 0 = z at hz0' hz1' hq
            obtain ⟨z0, z1⟩ := z
            obtain ⟨y0, y1⟩ := y
            dsimp only at hz0' hz1' hq ⊢
            have HQ2 := Aside0.mk hq
            clear hq
            by_cases hy0_ : y0.toList = z0.toList
            · obtain rfl := text_eq hy0_
              by_cases hy1_ : y1.toList = z1.toList
              · obtain rfl := text_eq hy1_
                gi_wp2
                exact ⟨KeepsFrom.refl _ _, .inl ⟨rfl, ⟨hB', hKD'⟩, hkc, hkf⟩⟩
              · have hne : (!y1.toList == z1.toList) = true := by rw [beq_eq_false_iff_ne.2 hy1_]; rfl
                gi_wp2
                exact ⟨(KeepsOthers.setCell _ _ _).from _, .inr ⟨rfl, fun hh => hy1_ (congrArg ByteArray.toList (Prod.mk.inj (HQ2.out.1 hh)).2)⟩⟩
            · have hne : (!y0.toList == z0.toList) = true := by rw [beq_eq_false_iff_ne.2 hy0_]; rfl
              gi_wp2
              exact ⟨(KeepsOthers.setCell _ _ _).from _, .inr ⟨rfl, fun hh => hy0_ (congrArg ByteArray.toList (Prod.mk.inj (HQ2.out.1 hh)).1)⟩⟩
          case done2 =>
            rintro ys W' rfl ⟨h0, _⟩
            exact absurd HLT.out (by rw [h0]; simp)
          case stop2 =>
            rintro c pre' W' hp' (⟨rfl, ⟨hB', hKD'⟩, hkc, hkf⟩ | ⟨rfl, hn⟩)
            · have hy0' := cell_w hB'.hp hy0w
              have hy1' := cell_w hB'.hp hy1w
              have c4 := hB'.b4.cell
              have f4 := hB'.b4.frozen
              have c6 := hB'.b6.cell
              have c7 := hB'.b7.cell
              have f7 := hB'.b7.frozen
              clear hz0 hz1 hy0 hy1 hy0w hy1w
              by_cases hx0_ : x0.toList = e0.toList
              · obtain rfl := text_eq hx0_
                by_cases hx1_ : x1.toList = e1.toList
                · obtain rfl := text_eq hx1_
                  have HQ' := Aside0.mk (HQ.out.2 rfl)
                  gi_wp2
                  refine ⟨hkf.trans ((KeepsOthers.setCell _ _ _).from _), hkc.trans (Kc.set (by have := HS8.out; omega) _), HQ'.out, ?_, (Below.heap_setCell W' ⟨g10, 0, none⟩ _ D (by show D ≠ g10; omega)).trans hKD'⟩
                  rw [List.length_append]
                  exact hB'.set7 _ (by omega) (by omega) (by omega) (by omega) (by omega) (by omega)
                · have hne : (!x1.toList == e1.toList) = true := by rw [beq_eq_false_iff_ne.2 hx1_]; rfl
                  gi_wp2
                  exact ⟨hkf.trans ((KeepsOthers.setCell _ _ _).from _), rfl, fun hh => hx1_ (congrArg ByteArray.toList (Prod.mk.inj (HQ.out.1 hh)).2)⟩
              · have hne : (!x0.toList == e0.toList) = true := by rw [beq_eq_false_iff_ne.2 hx0_]; rfl
                gi_wp2
                exact ⟨hkf.trans ((KeepsOthers.setCell _ _ _).from _), rfl, fun hh => hx0_ (congrArg ByteArray.toList (Prod.mk.inj (HQ.out.1 hh)).1)⟩
            · exact absurd hp' hn
        case done =>
          rintro D2 ys W hD2 rfl ⟨hpre, hB, hKD⟩ hK
          rw [← HRL.out] at hB
          have c5 := hB.b5.cell
          have c6 := hB.b6.cell
          have c7 := hB.b7.cell
          gi_wp2
          refine ⟨trivial, ?_⟩
          gi_at_call 19
          refine (callsIn_wide.2 (untouchedM k _ _ l0 _ _ l0 _ (Kd.C_below HT.out hB.hp) HTC.out (Kd.C_below HR0.out hB.hp) HC0.out F.s0 rfl (by have := F.n0; omega))).mono ?_
          rintro e w8 ⟨rfl, hd⟩
          have hb := drawn_below hd
          have b4 := box_low hB.b4 hb
          have hz8 := below_lo hB.hz (Nat.le_refl _) hb
          have hK8 := (hb.block D2 (Array.getElem?_eq_some_iff.1 hK).1).trans hK
          have hKD8 := (hb.block D (Array.getElem?_eq_some_iff.1 hKD).1).trans hKD
          have c4 := b4.cell
          have f4 := b4.frozen
          clear hd hb
          gi_wp2
          have hK9 := (Below.heap_setCell w8 ⟨w.heap.size + 1, 0, none⟩ (.bool true) D2 (by show D2 ≠ w.heap.size + 1; have := HS.out; omega)).trans hK8
          have hKD9 := (World.putObj_heap_other (w := w8.setCell ⟨w.heap.size + 1, 0, none⟩ (.bool true)) (r := D2) (o := .deferred none) (k := D) (by have := HS.out; omega)).trans ((Below.heap_setCell w8 ⟨w.heap.size + 1, 0, none⟩ (.bool true) D (by show D ≠ w.heap.size + 1; omega)).trans hKD8)
          refine ⟨by simp, .inl ⟨_, _, rfl, run_takeDeferred hK9, ?_⟩⟩
          refine ⟨by simp, .inl ⟨_, _, rfl, run_takeDeferred hKD9, ?_⟩⟩
          have hc := cell_kept (cell_kept (b4.set (.bool true)).cell (grownBy_putObj' _ D2 (.deferred none)) (fun r e => by cases e; exact ⟨_, hK9, rfl⟩)) (grownBy_putObj' _ D (.deferred none)) (fun r e => by cases e; exact ⟨_, hKD9, rfl⟩)
          have hz9 := hz8.setCell (p := ⟨w.heap.size + 1, 0, none⟩) (by show w.heap.size ≤ w.heap.size + 1; omega) (.bool true)
          have hz10 := hz9.grown (grownBy_putObj' _ D2 (.deferred none)) hz9.size (fun k e => by cases e; have := HS.out; omega)
          have hz11 := hz10.grown (grownBy_putObj' _ D (.deferred none)) hz10.size (fun k e => by cases e; omega)
          exact ⟨.bool true, result_8 hc, rfl, hz11⟩
        case stop =>
          rintro D2 c pre W hD2 hpre ⟨rfl, hn⟩ hK
          exact absurd hpre hn
      · obtain rfl : q = stop := by rcases hq with h | h; exact absurd h hqr; exact h
        gi_wp2
        refine ⟨trivial, ?_⟩
        gi_at_call 18
        refine (all_in Fence.wide _ trivial rfl _ _ _ _).mono ?_
        rintro e w' ⟨rfl, rfl⟩
        gi_wp2
        have hx2 : Bxs w.heap.size (w.heap.size + 1) w2.heap.size w3.heap.size W.heap.size q 0 (.slice At l0.length ct) (.slice Aw r.length cw) w w3 ((W.alloc (.cells #[.int .i64 0] 3)).alloc (.cells #[.slice At l0.length ct] 25)) :=
          ⟨(hB.b3.alloc _).alloc _, (hB.b4.alloc _).alloc _, (hB.b5.alloc _).alloc _, (hB.b6.alloc _).alloc _, (Boxed.new W 3 (.int .i64 0)).alloc _, bel_a (bel_a hB.hz _) _, bel_a (bel_a hB.hp _) _⟩
        have bC := Boxed.new (W.alloc (.cells #[.int .i64 0] 3)) 25 (.slice At l0.length ct)
        rw [World.size_alloc] at bC
        have hD2 := (Below.heap_alloc (W.alloc (.cells #[.int .i64 0] 3)) (.cells #[.slice At l0.length ct] 25) D (by rw [World.size_alloc]; have := (Array.getElem?_eq_some_iff.1 hK).1; omega)).trans ((Below.heap_alloc W (.cells #[.int .i64 0] 3) D (Array.getElem?_eq_some_iff.1 hK).1).trans hK)
        have hDl := (Array.getElem?_eq_some_iff.1 hK).1
        have hsz6 : ((W.alloc (.cells #[.int .i64 0] 3)).alloc (.cells #[.slice At l0.length ct] 25)).heap.size = W.heap.size + 1 + 1 := by simp [World.size_alloc]
        have hWs := hB.hp.size
        have h3 := hB.b3.lt
        have h4 := hB.b4.lt
        have h5 := hB.b5.lt
        have h6 := hB.b6.lt
        obtain ⟨W6, hW6⟩ : ∃ W6, (W.alloc (.cells #[.int .i64 0] 3)).alloc (.cells #[.slice At l0.length ct] 25) = W6 := ⟨_, rfl⟩
        rw [hW6] at hx2 bC hD2 hsz6 ⊢
        obtain ⟨g10, hg10⟩ : ∃ g10, W.heap.size = g10 := ⟨_, rfl⟩
        rw [hg10] at hx2 bC hsz6 hDl hWs h3 h4 h5 h6 ⊢
        have HS := Aside0.mk hsz6
        clear hW6 hB hK c3 c5 c6 c7 hg10 W hsz hx0 bA hsz6
        have hs6 : g10 + 1 < W6.heap.size := by rw [HS.out]; omega
        have hs6' : W6.heap.size ≤ g10 + 1 + 1 := by rw [HS.out]; exact Nat.le_refl _
        refine wpIn_rangeFunc_ownH rfl (by omega) (gf := 50) (lb := #[.pointer (some ⟨g10 + 1, 0, none⟩)]) rfl trivial (enters_of Try.func50 (by kernel_rfl) rfl)
          (iter_stops Fence.wide 7 trivial rfl (by omega) (g10 + 1) g10 w3 At ct l0 hCt (Nat.le_of_succ_le HTC.out) F.n0 F.le F.hz W6 (by omega) (by omega) hx2.hp bC.cell)
          (fun h k => Kc.trans h k) (Kc.put (by omega)) (Below.refl _ _) (fun _ => rfl)
          (fun pre W => pre <+: allP l0 ∧ Bxs w.heap.size (w.heap.size + 1) w2.heap.size w3.heap.size g10 q (pre.length : Int) (.slice At l0.length ct) (.slice Aw r.length cw) w w3 W ∧ W.heap[D]? = some (.deferred (some [])))
          (fun c pre W => c = .ret ∧ ¬ pre <+: allP l0)
          (fun pre A B row hs hg hr => ⟨hs.1, hs.2.1.own (by omega) (by omega) hg hr, (hg.block D (Array.getElem?_eq_some_iff.1 hs.2.2).1 (fun e => by have := (hr D e.symm).1; omega)).trans hs.2.2⟩)
          (fun c pre A B row hs hg hr => hs)
          ⟨List.nil_prefix, hx2, hD2⟩
          (fun x a' _ => a' = { tmps := #[.slice A0 l0.length c0, .int .i64 q, undef, .pointer (some ⟨w.heap.size, 0, none⟩), .pointer (some ⟨w.heap.size + 1, 0, none⟩), .pointer (some ⟨w2.heap.size, 0, none⟩), .pointer (some ⟨w3.heap.size, 0, none⟩), .pointer (some ⟨w3.heap.size + 1 + 1, 0, none⟩), undef, undef, .pointer (some ⟨g10, 0, none⟩), .string x.1, .string x.2, undef, undef, .slice A0 l0.length c0, .bool false, .slice A0 l0.length c0, .slice At l0.length ct, .slice A0 l0.length c0, .slice Aw r.length cw, .slice At l0.length ct, .func (.func 50) #[] #[.pointer (some ⟨w3.heap.size + 1, 0, none⟩)], .bool false, .slice At l0.length ct, .func (.func 50) #[] #[.pointer (some ⟨w3.heap.size + 1 + 1 + 1, 0, none⟩)], undef, undef, undef, undef, undef, undef, undef, undef, undef, undef, undef, undef, undef, undef, undef, undef, undef, undef, undef, undef, undef, undef, undef, undef, undef, undef, undef, undef, undef, .int .i64 q, .slice Aw r.length cw, .int .i64 (r.length : Int), .bool (q != (r.length : Int)), .bool (q != (r.length : Int)), .int .i64 q, .int .i64 q, .bool false, .bool false, .slice At l0.length ct, .func (.func 50) #[] #[.pointer (some ⟨g10 + 1, 0, none⟩)], .string x.1, .string x.2, undef, undef, undef, undef, undef, undef, undef, undef, undef, undef, undef, undef, undef, undef, undef, undef, undef, undef, undef, undef, undef, undef, undef, undef, undef, undef, undef, undef, undef, undef, undef, undef, undef, undef, undef, undef, undef, undef, undef, undef, undef, undef, undef, undef, undef, undef, undef, undef, undef, undef, undef, undef, undef, undef, undef], defers := [] })
          (fun _ _ _ _ _ _ hs _ _ => hs) ?assign ?body ?done ?stop
        case assign =>
          intro l x0 x W K hi hK
          gi_wp2
          exact hK _ _ (KeepsFrom.refl _ _) (Kc.refl _ _ _) hi rfl
        case body =>
          rintro l pre x a' W hlW ⟨rl, hrl⟩ ⟨hpre, hB, hKD⟩ rfl hlt
          have hlr : pre.length < r.length := by rw [HRL.out]; exact hlt
          obtain ⟨aw, rfl, hy0, hy1⟩ := at_T34 HW.out (pre.length : Int) (by omega) (by omega)
          obtain ⟨aw', ew, hz0, hz1⟩ := at_T34 HW.out (0 : Int) (by omega) (by omega)
          obtain rfl : aw = aw' := by injection ew
          have ea : aw.add ((0 : Int).toNat * 2) = aw := by simp [Addr.add]
          rw [ea] at hz0 hz1
          clear ea
          rw [Int.toNat_natCast] at hy0 hy1
          have hy0w := hy0
          have hy1w := hy1
          replace hy0 := cell_w hB.hp hy0
          replace hy1 := cell_w hB.hp hy1
          have hnx := pre_next F.rp hpre hlr x
          have hnz : ∀ y, ([y] <+: allP l0) ↔ y = ((rd_T34 r 0).f0, (rd_T34 r 0).f1) := fun y => pre_next F.rp (List.nil_prefix (l := allP l0)) (by rw [List.length_nil]; omega) y
          have c4 := hB.b4.cell
          have f4 := hB.b4.frozen
          have c6 := hB.b6.cell
          have c7 := hB.b7.cell
          have f7 := hB.b7.frozen
          have c5 := hB.b5.cell
          have q1 : decide ((pre.length : Int) ≥ (r.length : Int)) = false := decide_eq_false (by omega)
          have q2 : (r.length ≤ pre.length) = False := eq_false (by omega)
          have hrb := HW.out.2.1
          have p1 : (0 ≤ (pre.length : Int)) = True := eq_true (by omega)
          have p2 : ((pre.length : Int) < (r.length : Int)) = True := eq_true (by omega)
          generalize hEE : rd_T34 r (pre.length : Int) = e at hy0 hy1 hy0w hy1w hnx
          obtain ⟨e0, e1⟩ := e
          obtain ⟨x0, x1⟩ := x
          dsimp only at hy0 hy1 hy0w hy1w hnx ⊢
          have hw : wrap64 ((pre.length : Int) + 1) = ((pre.length + 1 : Nat) : Int) := by unfold wrap64; omega
          have HQ := Aside0.mk hnx
          have HZZ := Aside0.mk hnz
          have HLR := Aside0.mk hlr
          have HLT := Aside0.mk hlt
          have hWl := hB.b7.lt
          clear hlr hnx hrb hnz hEE hlt
          gi_wp2
          refine ⟨trivial, ?_⟩
          gi_at_call 18
          refine (CallsIn.inRound l (all_in Fence.wide _ trivial rfl _ _ _ _)).mono ?_
          rintro e w' ⟨rfl, rfl⟩
          gi_wp2
          have bN := Boxed.new W 25 (.slice At l0.length ct)
          have hB7 := hB.alloc (.cells #[.slice At l0.length ct] 25)
          have hKD7 := (Below.heap_alloc W (.cells #[.slice At l0.length ct] 25) D (Array.getElem?_eq_some_iff.1 hKD).1).trans hKD
          have hrl7 := (Below.heap_alloc W (.cells #[.slice At l0.length ct] 25) l (Array.getElem?_eq_some_iff.1 hrl).1).trans hrl
          have hkf7 : KeepsFrom W6.heap.size W (W.alloc (.cells #[.slice At l0.length ct] 25)) := (KeepsOthers.alloc _ _).from _
          have hkc7 : Kc w3.heap.size g10 W (W.alloc (.cells #[.slice At l0.length ct] 25)) := Kc.alloc hB.hp.size _
          have HS7 : Aside0 ((W.alloc (.cells #[.slice At l0.length ct] 25)).heap.size = W.heap.size + 1) := ⟨by rw [World.size_alloc]⟩
          have HS8 := Aside0.mk hB.hp.size
          obtain ⟨W7, hW7⟩ : ∃ W7, W.alloc (.cells #[.slice At l0.length ct] 25) = W7 := ⟨_, rfl⟩
          rw [hW7] at bN hB7 hKD7 hrl7 hkf7 hkc7 HS7 ⊢
          obtain ⟨gC, hgC⟩ : ∃ gC, W.heap.size = gC := ⟨_, rfl⟩
          have HgC := Aside0.mk hgC
          rw [hgC] at bN HS7 ⊢
          clear hW7 hgC c4 f4 c5 c6 c7 f7 hB hKD hrl
          refine wpIn_rangeFunc_ownN (l₀ := l) (r₀ := rl) rfl hrl7 (by omega) (gf := 50) (lb := #[.pointer (some ⟨gC, 0, none⟩)]) rfl trivial (enters_of Try.func50 (by kernel_rfl) rfl)
            ((iter_stops Fence.wide 5 trivial rfl (by omega) gC g10 w3 At ct l0 hCt (Nat.le_of_succ_le HTC.out) F.n0 F.le F.hz W7 (by rw [HS7.out]; omega) (by rw [HS7.out, ← HgC.out]; omega) hB7.hp bN.cell).inRound l)
            (fun h k => Kc.trans h k) (Kc.put (by rw [HS7.out, ← HgC.out]; have := HS8.out; omega)) (Below.refl _ _) (fun _ => rfl)
            (fun pre' W' => pre' = [] ∧ (Bxs w.heap.size (w.heap.size + 1) w2.heap.size w3.heap.size g10 q (pre.length : Int) (.slice At l0.length ct) (.slice (some aw) r.length cw) w w3 W' ∧ W'.heap[D]? = some (.deferred (some []))) ∧ Kc w3.heap.size g10 W W' ∧ KeepsFrom W6.heap.size W W')
            (fun c pre' W' => (c = .exit 4 ∧ (Bxs w.heap.size (w.heap.size + 1) w2.heap.size w3.heap.size g10 q (pre.length : Int) (.slice At l0.length ct) (.slice (some aw) r.length cw) w w3 W' ∧ W'.heap[D]? = some (.deferred (some []))) ∧ Kc w3.heap.size g10 W W' ∧ KeepsFrom W6.heap.size W W') ∨ (c = .ret ∧ ¬ pre' <+: allP l0))
            (fun pre' X Y row hs hg hr => ⟨hs.1, ⟨hs.2.1.1.own (by rw [HS7.out, ← HgC.out]; omega) (by rw [HS7.out, ← HgC.out]; have := HS8.out; omega) hg hr, (hg.block D (Array.getElem?_eq_some_iff.1 hs.2.1.2).1 (fun e => by have := (hr D e.symm).1; rw [HS7.out, ← HgC.out] at this; omega)).trans hs.2.1.2⟩, hs.2.2.1.own (by have := HS8.out; exact this) (by rw [HS7.out, ← HgC.out]; have := HS8.out; omega) hg hr, ownFrom_keepsFrom (β := Unit) (by rw [HS7.out, ← HgC.out]; omega) () X Y row hs.2.2.2 hg hr⟩)
            (fun c pre' X Y row hs hg hr => hs.imp (fun hs => ⟨hs.1, ⟨hs.2.1.1.own (by rw [HS7.out, ← HgC.out]; omega) (by rw [HS7.out, ← HgC.out]; have := HS8.out; omega) hg hr, (hg.block D (Array.getElem?_eq_some_iff.1 hs.2.1.2).1 (fun e => by have := (hr D e.symm).1; rw [HS7.out, ← HgC.out] at this; omega)).trans hs.2.1.2⟩, hs.2.2.1.own (by have := HS8.out; exact this) (by rw [HS7.out, ← HgC.out]; have := HS8.out; omega) hg hr, ownFrom_keepsFrom (β := Unit) (by rw [HS7.out, ← HgC.out]; omega) () X Y row hs.2.2.2 hg hr⟩) id)
            ⟨rfl, ⟨hB7, hKD7⟩, hkc7, hkf7⟩
            (fun y a'' _ => a'' = { tmps := #[.slice A0 l0.length c0, .int .i64 q, undef, .pointer (some ⟨w.heap.size, 0, none⟩), .pointer (some ⟨w.heap.size + 1, 0, none⟩), .pointer (some ⟨w2.heap.size, 0, none⟩), .pointer (some ⟨w3.heap.size, 0, none⟩), .pointer (some ⟨w3.heap.size + 1 + 1, 0, none⟩), undef, undef, .pointer (some ⟨g10, 0, none⟩), .string x0, .string x1, .string y.1, .string y.2, .slice A0 l0.length c0, .bool false, .slice A0 l0.length c0, .slice At l0.length ct, .slice A0 l0.length c0, .slice (some aw) r.length cw, .slice At l0.length ct, .func (.func 50) #[] #[.pointer (some ⟨w3.heap.size + 1, 0, none⟩)], .bool false, .slice At l0.length ct, .func (.func 50) #[] #[.pointer (some ⟨w3.heap.size + 1 + 1 + 1, 0, none⟩)], undef, undef, undef, undef, undef, undef, undef, undef, undef, undef, undef, undef, undef, undef, undef, undef, undef, undef, undef, undef, undef, undef, undef, undef, undef, undef, undef, undef, undef, .int .i64 q, .slice (some aw) r.length cw, .int .i64 (r.length : Int), .bool (q != (r.length : Int)), .bool (q != (r.length : Int)), .int .i64 q, .int .i64 q, .bool false, .bool false, .slice At l0.length ct, .func (.func 50) #[] #[.pointer (some ⟨g10 + 1, 0, none⟩)], .string x0, .string x1, .int .i64 (pre.length : Int), .slice (some aw) r.length cw, .int .i64 (r.length : Int), .bool false, .slice At l0.length ct, .func (.func 50) #[] #[.pointer (some ⟨gC, 0, none⟩)], .string y.1, .string y.2, undef, undef, undef, undef, undef, undef, undef, undef, undef, undef, undef, undef, undef, undef, undef, undef, undef, undef, undef, undef, undef, undef, undef, undef, undef, undef, undef, undef, undef, undef, undef, undef, undef, undef, undef, undef, undef, undef, undef, undef, undef, undef, undef, undef, undef, undef, undef], defers := [] })
            (fun _ _ _ _ _ _ hs _ _ => hs) ?assign2 ?body2 ?done2 ?stop2
          case assign2 =>
            intro l2 pre' y W' K hi hK
            gi_wp2
            exact hK _ _ (KeepsFrom.refl _ _) (Kc.refl _ _ _) hi rfl
          case body2 =>
            rintro l2 pre' y a'' W' _ _ ⟨rfl, ⟨hB', hKD'⟩, hkc, hkf⟩ rfl hlt'
            have hz0' := cell_w hB'.hp hz0
            have hz1' := cell_w hB'.hp hz1
            have c4 := hB'.b4.cell
            have f4 := hB'.b4.frozen
            have c6 := hB'.b6.cell
            have p3 : (0 < r.length) = True := eq_true (by have := HLR.out; omega)
            have p4 : ((0 : Int) < (r.length : Int)) = True := eq_true (by have := HLR.out; omega)
            have hq := HZZ.out y
            generalize rd_T34 r 0 = z at hz0' hz1' hq
            obtain ⟨z0, z1⟩ := z
            obtain ⟨y0, y1⟩ := y
            dsimp only at hz0' hz1' hq ⊢
            have HQ2 := Aside0.mk hq
            clear hq
            by_cases hy0_ : y0.toList = z0.toList
            · obtain rfl := text_eq hy0_
              by_cases hy1_ : y1.toList = z1.toList
              · obtain rfl := text_eq hy1_
                gi_wp2
                exact ⟨KeepsFrom.refl _ _, .inl ⟨rfl, ⟨hB', hKD'⟩, hkc, hkf⟩⟩
              · have hne : (!y1.toList == z1.toList) = true := by rw [beq_eq_false_iff_ne.2 hy1_]; rfl
                gi_wp2
                exact ⟨(KeepsOthers.setCell _ _ _).from _, .inr ⟨rfl, fun hh => hy1_ (congrArg ByteArray.toList (Prod.mk.inj (HQ2.out.1 hh)).2)⟩⟩
            · have hne : (!y0.toList == z0.toList) = true := by rw [beq_eq_false_iff_ne.2 hy0_]; rfl
              gi_wp2
              exact ⟨(KeepsOthers.setCell _ _ _).from _, .inr ⟨rfl, fun hh => hy0_ (congrArg ByteArray.toList (Prod.mk.inj (HQ2.out.1 hh)).1)⟩⟩
          case done2 =>
            rintro ys W' rfl ⟨h0, _⟩
            exact absurd HLT.out (by rw [h0]; simp)
          case stop2 =>
            rintro c pre' W' hp' (⟨rfl, ⟨hB', hKD'⟩, hkc, hkf⟩ | ⟨rfl, hn⟩)
            · have hy0' := cell_w hB'.hp hy0w
              have hy1' := cell_w hB'.hp hy1w
              have c4 := hB'.b4.cell
              have f4 := hB'.b4.frozen
              have c6 := hB'.b6.cell
              have c7 := hB'.b7.cell
              have f7 := hB'.b7.frozen
              clear hz0 hz1 hy0 hy1 hy0w hy1w
              by_cases hx0_ : x0.toList = e0.toList
              · obtain rfl := text_eq hx0_
                by_cases hx1_ : x1.toList = e1.toList
                · obtain rfl := text_eq hx1_
                  have HQ' := Aside0.mk (HQ.out.2 rfl)
                  gi_wp2
                  refine ⟨hkf.trans ((KeepsOthers.setCell _ _ _).from _), hkc.trans (Kc.set (by have := HS8.out; omega) _), HQ'.out, ?_, (Below.heap_setCell W' ⟨g10, 0, none⟩ _ D (by show D ≠ g10; omega)).trans hKD'⟩
                  rw [List.length_append]
                  exact hB'.set7 _ (by omega) (by omega) (by omega) (by omega) (by omega) (by omega)
                · have hne : (!x1.toList == e1.toList) = true := by rw [beq_eq_false_iff_ne.2 hx1_]; rfl
                  gi_wp2
                  exact ⟨hkf.trans ((KeepsOthers.setCell _ _ _).from _), rfl, fun hh => hx1_ (congrArg ByteArray.toList (Prod.mk.inj (HQ.out.1 hh)).2)⟩
              · have hne : (!x0.toList == e0.toList) = true := by rw [beq_eq_false_iff_ne.2 hx0_]; rfl
                gi_wp2
                exact ⟨hkf.trans ((KeepsOthers.setCell _ _ _).from _), rfl, fun hh => hx0_ (congrArg ByteArray.toList (Prod.mk.inj (HQ.out.1 hh)).1)⟩
            · exact absurd hp' hn
        case done =>
          rintro D2 ys W hD2 rfl ⟨hpre, hB, hKD⟩ hK
          rw [← HRL.out] at hB
          have c5 := hB.b5.cell
          have c6 := hB.b6.cell
          have c7 := hB.b7.cell
          gi_wp2
          refine ⟨trivial, ?_⟩
          gi_at_call 19
          refine (callsIn_wide.2 (untouchedM k _ _ l0 _ _ l0 _ (Kd.C_below HT.out hB.hp) HTC.out (Kd.C_below HR0.out hB.hp) HC0.out F.s0 rfl (by have := F.n0; omega))).mono ?_
          rintro e w8 ⟨rfl, hd⟩
          have hb := drawn_below hd
          have b4 := box_low hB.b4 hb
          have hz8 := below_lo hB.hz (Nat.le_refl _) hb
          have hK8 := (hb.block D2 (Array.getElem?_eq_some_iff.1 hK).1).trans hK
          have hKD8 := (hb.block D (Array.getElem?_eq_some_iff.1 hKD).1).trans hKD
          have c4 := b4.cell
          have f4 := b4.frozen
          clear hd hb
          gi_wp2
          have hK9 := (Below.heap_setCell w8 ⟨w.heap.size + 1, 0, none⟩ (.bool true) D2 (by show D2 ≠ w.heap.size + 1; have := HS.out; omega)).trans hK8
          have hKD9 := (World.putObj_heap_other (w := w8.setCell ⟨w.heap.size + 1, 0, none⟩ (.bool true)) (r := D2) (o := .deferred none) (k := D) (by have := HS.out; omega)).trans ((Below.heap_setCell w8 ⟨w.heap.size + 1, 0, none⟩ (.bool true) D (by show D ≠ w.heap.size + 1; omega)).trans hKD8)
          refine ⟨by simp, .inl ⟨_, _, rfl, run_takeDeferred hK9, ?_⟩⟩
          refine ⟨by simp, .inl ⟨_, _, rfl, run_takeDeferred hKD9, ?_⟩⟩
          have hc := cell_kept (cell_kept (b4.set (.bool true)).cell (grownBy_putObj' _ D2 (.deferred none)) (fun r e => by cases e; exact ⟨_, hK9, rfl⟩)) (grownBy_putObj' _ D (.deferred none)) (fun r e => by cases e; exact ⟨_, hKD9, rfl⟩)
          have hz9 := hz8.setCell (p := ⟨w.heap.size + 1, 0, none⟩) (by show w.heap.size ≤ w.heap.size + 1; omega) (.bool true)
          have hz10 := hz9.grown (grownBy_putObj' _ D2 (.deferred none)) hz9.size (fun k e => by cases e; have := HS.out; omega)
          have hz11 := hz10.grown (grownBy_putObj' _ D (.deferred none)) hz10.size (fun k e => by cases e; omega)
          exact ⟨.bool true, result_8 hc, rfl, hz11⟩
        case stop =>
          rintro D2 c pre W hD2 hpre ⟨rfl, hn⟩ hK
          exact absurd hpre hn
    refine wpIn_rangeFunc_ownG rfl (by omega) (gf := 50) (lb := #[.pointer (some ⟨w3.heap.size + 1 + 1 + 1, 0, none⟩)]) rfl trivial (enters_of Try.func50 (by kernel_rfl) rfl)
      (iter_stops Fence.wide 7 trivial rfl (by omega) (w3.heap.size + 1 + 1 + 1) (w3.heap.size + 1 + 1) w3 At ct l0 hCt (Nat.le_of_succ_le HTC.out) F.n0 F.le F.hz W5 (by omega) (by omega) hx0.hp bA.cell)
      (fun h k => Kc.trans h k) (Kc.put (by omega)) (Below.refl _ _) (fun _ => rfl)
      (fun pre W => pre <+: allP l0 ∧ Bxs w.heap.size (w.heap.size + 1) w2.heap.size w3.heap.size (w3.heap.size + 1 + 1) stop (pre.length : Int) (.slice At l0.length ct) (.slice Aw r.length cw) w w3 W)
      (fun c pre W => (c = .exit 0 ∧ Bxs w.heap.size (w.heap.size + 1) w2.heap.size w3.heap.size (w3.heap.size + 1 + 1) stop stop (.slice At l0.length ct) (.slice Aw r.length cw) w w3 W) ∨ (c = .ret ∧ ¬ pre <+: allP l0))
      (fun pre A B row hs hg hr => ⟨hs.1, hs.2.own (by omega) (by omega) hg hr⟩)
      (fun c pre A B row hs hg hr => hs.imp (fun h => ⟨h.1, h.2.own (by omega) (by omega) hg hr⟩) id)
      ⟨List.nil_prefix, hx0⟩
      (fun x => { tmps := #[.slice A0 l0.length c0, .int .i64 stop, undef, .pointer (some ⟨w.heap.size, 0, none⟩), .pointer (some ⟨w.heap.size + 1, 0, none⟩), .pointer (some ⟨w2.heap.size, 0, none⟩), .pointer (some ⟨w3.heap.size, 0, none⟩), .pointer (some ⟨w3.heap.size + 1 + 1, 0, none⟩), .string x.1, .string x.2, undef, undef, undef, undef, undef, .slice A0 l0.length c0, .bool false, .slice A0 l0.length c0, .slice At l0.length ct, .slice A0 l0.length c0, .slice Aw r.length cw, .slice At l0.length ct, .func (.func 50) #[] #[.pointer (some ⟨w3.heap.size + 1, 0, none⟩)], .bool false, .slice At l0.length ct, .func (.func 50) #[] #[.pointer (some ⟨w3.heap.size + 1 + 1 + 1, 0, none⟩)], .string x.1, .string x.2, undef, undef, undef, undef, undef, undef, undef, undef, undef, undef, undef, undef, undef, undef, undef, undef, undef, undef, undef, undef, undef, undef, undef, undef, undef, undef, undef, undef, undef, undef, undef, undef, undef, undef, undef, undef, undef, undef, undef, undef, undef, undef, undef, undef, undef, undef, undef, undef, undef, undef, undef, undef, undef, undef, undef, undef, undef, undef, undef, undef, undef, undef, undef, undef, undef, undef, undef, undef, undef, undef, undef, undef, undef, undef, undef, undef, undef, undef, undef, undef, undef, undef, undef, undef, undef, undef, undef, undef, undef, undef, undef, undef, undef, undef, undef], defers := [] }) ?assign ?body ?done ?stop
    case assign =>
      intro l x W K hK
      gi_wp2
      exact hK
    case body =>
      rintro l pre x W ⟨hpre, hB⟩ hlt
      have hlr : pre.length < r.length := by rw [HRL.out]; exact hlt
      obtain ⟨aw, rfl, hy0, hy1⟩ := at_T34 HW.out (pre.length : Int) (by omega) (by omega)
      rw [Int.toNat_natCast] at hy0 hy1
      replace hy0 := cell_w hB.hp hy0
      replace hy1 := cell_w hB.hp hy1
      have hnx := pre_next F.rp hpre hlr x
      have c3 := hB.b3.cell
      have c4 := hB.b4.cell
      have f4 := hB.b4.frozen
      have c6 := hB.b6.cell
      have c7 := hB.b7.cell
      have f7 := hB.b7.frozen
      have q1 : decide ((pre.length : Int) ≥ (r.length : Int)) = false := decide_eq_false (by omega)
      have q2 : (r.length ≤ pre.length) = False := eq_false (by omega)
      have hrb := HW.out.2.1
      have p1 : (0 ≤ (pre.length : Int)) = True := eq_true (by omega)
      have p2 : ((pre.length : Int) < (r.length : Int)) = True := eq_true (by omega)
      generalize rd_T34 r (pre.length : Int) = e at hy0 hy1 hnx
      obtain ⟨e0, e1⟩ := e
      obtain ⟨x0, x1⟩ := x
      dsimp only at hy0 hy1 hnx ⊢
      have hw : wrap64 ((pre.length : Int) + 1) = ((pre.length + 1 : Nat) : Int) := by unfold wrap64; omega
      have HQ := Aside0.mk hnx
      clear hlr hnx hrb
      by_cases hx0_ : x0.toList = e0.toList
      · obtain rfl := text_eq hx0_
        by_cases hx1_ : x1.toList = e1.toList
        · obtain rfl := text_eq hx1_
          have HQ' := HQ.out.2 rfl
          gi_wp2
          · rename_i hst
            have hst' : ((pre.length : Int) + 1) = stop := eq_of_beq hst
            rw [hst']
            exact ⟨(KeepsOthers.setCell _ _ _).from _, .inl ⟨rfl, hB.set7 _ (by omega) (by omega) (by omega) (by omega) (by omega) (by omega)⟩⟩
          · refine ⟨(KeepsOthers.setCell _ _ _).from _, Kc.set (by omega) _, HQ', ?_⟩
            rw [List.length_append]
            exact hB.set7 _ (by omega) (by omega) (by omega) (by omega) (by omega) (by omega)
        · have hne : (!x1.toList == e1.toList) = true := by rw [beq_eq_false_iff_ne.2 hx1_]; rfl
          gi_wp2
          exact ⟨(KeepsOthers.setCell _ _ _).from _, .inr ⟨rfl, fun hh => hx1_ (congrArg ByteArray.toList (Prod.mk.inj (HQ.out.1 hh)).2)⟩⟩
      · have hne : (!x0.toList == e0.toList) = true := by rw [beq_eq_false_iff_ne.2 hx0_]; rfl
        gi_wp2
        exact ⟨(KeepsOthers.setCell _ _ _).from _, .inr ⟨rfl, fun hh => hx0_ (congrArg ByteArray.toList (Prod.mk.inj (HQ.out.1 hh)).1)⟩⟩
    case done =>
      rintro D ys W hD rfl ⟨hpre, hB⟩ hK
      refine tail D _ W (.inl ?_) hB (by omega) hK
      rw [HRL.out]
    case stop =>
      rintro D c pre W hD hpre (⟨rfl, hB⟩ | ⟨rfl, hn⟩) hK
      · clear hK1
        gi_wp2
        exact tail D _ W (.inr rfl) hB (by omega) hK
      · exact absurd hpre hn
end Go.Proofs.Ytnmhfcfojbfikaa.QRosterLays
