/- reel's forms of edges, updates and states: what their functions do, and what lies in their bytes. Conditions: as each theorem says. -/
import Derived.Test.YtnmhfcfojbfikaaQPutx1
import Derived.Test.YtnmhfcfojbfikaaQPutx2
import Derived.Test.YtnmhfcfojbfikaaQPutx3
import Derived.Test.YtnmhfcfojbfikaaQGetx2
import Derived.Test.YtnmhfcfojbfikaaQReelFormsx
import Derived.Test.YtnmhfcfojbfikaaQPutx4
import Derived.Test.YtnmhfcfojbfikaaNum
import Derived.ChangeKeysEq
namespace Go.Proofs.Ytnmhfcfojbfikaa.QReelForms
section ReelRaw
open Go.RowKit Go.Proofs.YtnmhfcfojbfikaaW.PrintWords Go.Proofs.YtnmhfcfojbfikaaW.PrintLast Go.Proofs.YtnmhfcfojbfikaaW.PrintMore
set_option linter.unusedVariables false
set_option linter.unusedSimpArgs false
open QPut (grain_lay.go grain_lay.step grain_lay.len)
/-! ### bytes in a block of their own -/
def B8 (xs : List Int) : Array Value := (xs.map (Value.int .u8)).toArray
def At8 (t : TypeId) (w : World) (g : Nat) (xs : List Int) : Prop := w.heap[g]? = some (.cells (B8 xs) t (0, 0))
section
variable {t : TypeId} {w w' w0 : World} {g g' base : Nat} {xs : List Int}
theorem At8.lt (h : At8 t w g xs) : g < w.heap.size := blk_lt h
theorem At8.cell (h : At8 t w g xs) (i : Nat) (hi : i < xs.length) : w.cell? ⟨g, i, none⟩ = some (.int .u8 (xs.getD i 0)) := by
  rw [blk_cell h i]
  simp [B8, hi]
theorem At8.frozen (h : At8 t w g xs) (i : Nat) : w.frozen? ⟨g, i, none⟩ = false := blk_frozen h i
theorem At8.set (h : At8 t w g xs) (i : Nat) (x : Int) : At8 t (w.setCell ⟨g, i, none⟩ (.int .u8 x)) g (xs.set i x) := by
  show (w.setCell ⟨g, i, none⟩ (.int .u8 x)).heap[g]? = _
  rw [setCell_eq_setRow w g i _ t (0, 0) _ h, setRow_heap w g _ _ t (0, 0) h]
  congr 2
  simp [B8, List.map_set]
theorem At8.below (h : At8 t w g xs) (hb : Below w.heap.size w w') : At8 t w' g xs := blk_below h hb
theorem At8.drewN (h : At8 t w g xs) (n : Nat) : At8 t (w.drewN n) g xs := h
theorem At8.drew (h : At8 t w g xs) : At8 t w.drew g xs := h
theorem At8.alloc (h : At8 t w g xs) (o : Obj) : At8 t (w.alloc o) g xs := h.below (below_alloc (Below.refl _ _) o)
theorem At8.tail (h : At8 t w g xs) (i : Nat) (hi : i ≤ xs.length) (hm : xs.length ≤ 9223372036854775807) : (Kd.int .u8).C w (some ⟨g, i, none⟩) (xs.length - i) (xs.drop i) := by
  have e : xs.length - i = (xs.drop i).length := by rw [List.length_drop]
  rw [e]
  refine Kd.C_of_reads (d := (0 : Int)) (h1 := fun _ => rfl) ⟨rfl, by rw [List.length_drop]; omega, fun _ => ⟨_, rfl, fun j hj => ?_⟩⟩
  rw [List.length_drop] at hj
  rw [show ({ block := g, off := i } : Addr).add j = ⟨g, i + j, none⟩ from by unfold Addr.add; split <;> simp_all, h.cell (i + j) (by omega), List.getD_eq_getElem?_getD, List.getD_eq_getElem?_getD, List.getElem?_drop]
end

/-- Block g alone has been written. -/
theorem only_refl (w : World) (g : Nat) : w.grownBy w (some g) := ⟨rfl, rfl, rfl, Nat.le_refl _, fun _ _ _ => rfl⟩
theorem only_trans {w w' w'' : World} {g : Nat} (h : w.grownBy w' (some g)) (k : w'.grownBy w'' (some g)) : w.grownBy w'' (some g) :=
  ⟨k.os.trans h.os, k.tape.trans h.tape, k.output.trans h.output, Nat.le_trans h.size k.size, fun j hj hn => (k.block j (Nat.lt_of_lt_of_le hj h.size) hn).trans (h.block j hj hn)⟩
theorem only_below {w w' w'' : World} {g : Nat} (h : w.grownBy w' (some g)) (k : Below w'.heap.size w' w'') : w.grownBy w'' (some g) :=
  ⟨k.os.trans h.os, k.tape.trans h.tape, k.output.trans h.output, Nat.le_trans h.size k.size, fun j hj hn => (k.block j (Nat.lt_of_lt_of_le hj h.size)).trans (h.block j hj hn)⟩
theorem only_set (w : World) (g i : Nat) (u : Value) : w.grownBy (w.setCell ⟨g, i, none⟩ u) (some g) :=
  ⟨rfl, rfl, rfl, by simp, fun j hj hn => Below.heap_setCell w ⟨g, i, none⟩ u j (fun e => hn (by rw [e]))⟩
set_option maxHeartbeats 2000000 in
set_option maxRecDepth 100000 in
theorem layR (g at_ m c' : Nat) (v : Int) (ys : List Int) (w : World) (ho0 : At8 5 w g ys) (hm : at_ + m ≤ ys.length) (hm1 : 1 ≤ m) (hm8 : m ≤ 8) (hv : 0 ≤ v) (hv1 : v < 18446744073709551616) :
    Calls Try.prog 108 #[.slice (some ⟨g, at_, none⟩) m c', .int .u64 v] w fun e w' => e = .returned (.tuple #[]) ∧ At8 5 w' g (grain_lay.go at_ v ys m) ∧ w.grownBy w' (some g) := by
  have HO0 := Aside0.mk ho0
  have HB := Aside0.mk (only_refl w g)
  clear ho0
  go_enter Try.func108, Try.ntmps108
  go_wp2
  go_loopg [1, 7] m (fun kq v1 v7 w' => ∃ (i : Nat), v1 = .int .u64 (v / 2 ^ (8 * i)) ∧ v7 = .int .i64 (i : Int) ∧ Aside0 (kq + i = m) ∧ Aside0 (At8 5 w' g (grain_lay.go at_ v ys i)) ∧ Aside0 (w.grownBy w' (some g)))
  case atStart => exact ⟨0, (by rw [Nat.mul_zero, Int.pow_zero, Int.ediv_one]), rfl, ⟨by omega⟩, HO0, HB⟩
  case round =>
    clear HB HO0
    obtain ⟨i, rfl, rfl, HK, HO_0, HB⟩ := hrel
    by_cases hi : i < m
    · have c4b0 : decide ((i : Int) < (m : Int)) = true := decide_eq_true (by omega)
      have p7 : (0 ≤ (i : Int)) = True := eq_true (by omega)
      have q7 : ((i : Int) < (m : Int)) = True := eq_true (by omega)
      have h8 : (i : Int) < 8 := by omega
      have hx7_0 := HO_0.out.cell (at_ + i) (by rw [grain_lay.len]; omega)
      have hf7_0 := HO_0.out.frozen (at_ + i)
      have HP8 := Aside0.mk (HO_0.out.set (at_ + i) (v / 2 ^ (8 * i) % 256))
      have HG8 := Aside0.mk (only_set wr g (at_ + i) (.int .u8 (v / 2 ^ (8 * i) % 256)))
      have hV0 : 0 ≤ v / 2 ^ (8 * i) := Int.ediv_nonneg hv (Int.le_of_lt (Int.pow_pos (by decide)))
      have hV1 : v / 2 ^ (8 * i) < 18446744073709551616 := Int.lt_of_le_of_lt (Int.ediv_le_self _ hv) hv1
      have HS : Aside0 (v / 2 ^ (8 * i) / 256 = v / 2 ^ (8 * (i + 1))) := ⟨grain_lay.step v i⟩
      have HG : Aside0 (grain_lay.go at_ v ys (i + 1) = (grain_lay.go at_ v ys i).set (at_ + i) (v / 2 ^ (8 * i) % 256)) := ⟨rfl⟩
      generalize hVV : v / 2 ^ (8 * i) = V at *
      clear hVV
      go_wp2_with (first | ((with_reducible refine gate_store (t := 5) (p := 14) rfl ?_); refine store_event (t := 5) (p := 14) (v := ?vo_w9) (w1 := (wr.setCell ⟨g, at_ + i, none⟩ (.int .u8 (V % 256)))) ?hg ?ho ?hn ?hr ?_; (case ho => rfl); (case hg => rfl); (case hn => rfl); (case hr => first | (go_simp; done) | (go_simp; rfl)); intro w9 hw; have n0_ := Aside0.mk (show At8 5 w9 g (grain_lay.go at_ v ys (i + 1)) by rw [hw, HG.out]; exact HP8.out); have n1_ := Aside0.mk (show w.grownBy w9 (some g) by rw [hw]; exact only_trans HB.out HG8.out); clear HO_0 HB HP8 HG8 hx7_0 hf7_0; have HO_0 := n0_; have HB := n1_; clear n0_ n1_ hw))
      have HK' := Aside0.mk (show gk - 1 + (i + 1) = m by have := HK.out; omega)
      have hgk : 0 < gk := by have := HK.out; omega
      clear HK
      go_roundg (gk - 1)
      case measure => omega
      case rel => exact ⟨i + 1, (by rw [HS.out]), (by first | rfl | (simp; done) | (simp [*]; done)), HK', HO_0, HB⟩
    · have hi' : i = m := by have := HK.out; omega
      subst hi'
      have c4b0 : decide ((i : Int) < (i : Int)) = false := decide_eq_false (by omega)
      go_wp2
      go_end0
      exact ⟨rfl, HO_0.out, HB.out⟩
theorem drawn_below {w w' : World} (h : Drawn0 w w') : Below w.heap.size w w' := by
  obtain ⟨n, rfl⟩ := h
  exact pw_below_drewN (Below.refl _ _) n
set_option maxHeartbeats 4000000 in
set_option maxRecDepth 100000 in
theorem putR (g a m n c : Nat) (v : Int) (ys : List Int) (kL : Nat) (L : Int) (w : World) (ho0 : At8 5 w g ys) (hn : n ≤ ys.length) (hc : n ≤ c) (hm0 : n ≤ 9223372036854775807) (hm : a + m ≤ n) (hm1 : 1 ≤ m) (hm8 : m ≤ 8) (hv : 0 ≤ v) (hv1 : v < 18446744073709551616) (hL : QPut.bits_Len64.f kL v = some L) (hLm : L ≤ 8 * (m : Int)) :
    Calls Try.prog 103 #[.slice (some ⟨g, 0, none⟩) n c, .int .i64 (a : Int), .int .i64 (m : Int), .int .u64 v] w fun e w' => e = .returned (.int .i64 0) ∧ At8 5 w' g (grain_lay.go a v ys m) ∧ w.grownBy w' (some g) := by
  have HO := Aside0.mk ho0
  have HB := Aside0.mk (only_refl w g)
  have HL := Aside0.mk hL
  have hsp := fun w => QPut.grain_span.ok (some ⟨g, 0, none⟩) n c (a : Int) (m : Int) w hc hm0 (by omega) (by omega) (by omega) (by omega) (by omega)
  simp only [Int.toNat_natCast] at hsp
  have hadr : ((some (⟨g, 0, none⟩ : Addr)).map (·.add a)) = some ⟨g, a, none⟩ := by simp [Addr.add] <;> omega
  simp only [hadr] at hsp
  clear hadr
  have hw8 : wrap64 (8 * (m : Int)) = 8 * (m : Int) := by unfold wrap64; omega
  have b1 : decide (L > 8 * (m : Int)) = false := decide_eq_false (by omega)
  have b2 : decide (L > wrap64 (8 * (m : Int))) = false := by rw [hw8]; exact b1
  clear ho0 hL
  go_enter Try.func103, Try.ntmps103
  go_wp2_with (first | (go_at_call 106; (with_reducible refine (hsp _).mono ?_); rintro e w' ⟨rfl, hd⟩; have hb := drawn_below hd; have n0_ := Aside0.mk (HO.out.below hb); have n1_ := Aside0.mk (only_below HB.out hb); clear HO HB hd hb; have HO := n0_; have HB := n1_; clear n0_ n1_) | (go_at_call 107; (with_reducible refine (QPut.bits_Len64.calls kL v L _ HL.out).mono ?_); rintro e w' ⟨rfl, hd⟩; have hb := drawn_below hd; have n0_ := Aside0.mk (At8.below HO.out hb); have n1_ := Aside0.mk (only_below HB.out hb); clear HO HB hd hb; have HO := n0_; have HB := n1_; clear n0_ n1_) | (go_at_call 108; (with_reducible refine (layR g a m (c - a) v ys _ HO.out (by omega) hm1 hm8 hv hv1).mono ?_); rintro e w' ⟨rfl, h1, h2⟩; have n0_ := Aside0.mk h1; have n1_ := Aside0.mk (only_trans HB.out h2); clear HO HB h1 h2; have HO := n0_; have HB := n1_; clear n0_ n1_))
  go_ret
  exact ⟨rfl, HO.out, HB.out⟩
/-- Only blocks of S have been written. -/
structure Onl (S : Nat → Prop) (w w' : World) : Prop where
  os : w'.os = w.os
  tape : w'.tape = w.tape
  output : w'.output = w.output
  size : w.heap.size ≤ w'.heap.size
  block : ∀ k, k < w.heap.size → ¬ S k → w'.heap[k]? = w.heap[k]?
section
variable {S : Nat → Prop} {w w' w'' : World} {g : Nat}
theorem Onl.refl (S : Nat → Prop) (w : World) : Onl S w w := ⟨rfl, rfl, rfl, Nat.le_refl _, fun _ _ _ => rfl⟩
theorem Onl.trans (h : Onl S w w') (k : Onl S w' w'') : Onl S w w'' :=
  ⟨k.os.trans h.os, k.tape.trans h.tape, k.output.trans h.output, Nat.le_trans h.size k.size, fun j hj hn => (k.block j (Nat.lt_of_lt_of_le hj h.size) hn).trans (h.block j hj hn)⟩
theorem Onl.below (h : Onl S w w') (k : Below w'.heap.size w' w'') : Onl S w w'' :=
  ⟨k.os.trans h.os, k.tape.trans h.tape, k.output.trans h.output, Nat.le_trans h.size k.size, fun j hj hn => (k.block j (Nat.lt_of_lt_of_le hj h.size)).trans (h.block j hj hn)⟩
theorem Onl.grown (h : Onl S w w') (k : w'.grownBy w'' (some g)) (hS : S g) : Onl S w w'' :=
  ⟨k.os.trans h.os, k.tape.trans h.tape, k.output.trans h.output, Nat.le_trans h.size k.size, fun j hj hn => (k.block j (Nat.lt_of_lt_of_le hj h.size) (fun e => by injection e with e; exact hn (e ▸ hS))).trans (h.block j hj hn)⟩
theorem Onl.set (h : Onl S w w') (hS : S g) (i : Nat) (u : Value) : Onl S w (w'.setCell ⟨g, i, none⟩ u) := h.grown (only_set w' g i u) hS
theorem Onl.mono {S' : Nat → Prop} (h : Onl S w w') (hS : ∀ k, S k → S' k) : Onl S' w w' := ⟨h.os, h.tape, h.output, h.size, fun j hj hn => h.block j hj (fun hs => hn (hS j hs))⟩
end
/-- The place in its box. -/
def At1 (w : World) (g : Nat) (a : Int) : Prop := w.heap[g]? = some (.cells #[.int .i64 a] 3 (0, 0))
theorem At1.set {w : World} {g : Nat} {a : Int} (h : At1 w g a) (b : Int) : At1 (w.setCell ⟨g, 0, none⟩ (.int .i64 b)) g b := by
  show (w.setCell ⟨g, 0, none⟩ (.int .i64 b)).heap[g]? = _
  rw [setCell_eq_setRow w g 0 _ 3 (0, 0) _ h, setRow_heap w g _ _ 3 (0, 0) h]
  rfl
theorem At8.far {w : World} {t : TypeId} {g g' : Nat} {xs : List Int} (h : At8 t w g xs) (hne : g ≠ g') (u : Value) : At8 t (w.setCell ⟨g', 0, none⟩ u) g xs := (Below.heap_setCell w ⟨g', 0, none⟩ u g hne).trans h
theorem At8.row {w : World} {t : TypeId} {g : Nat} {xs : List Int} (h : At8 t w g xs) (n : Nat) (hn : n ≤ xs.length) (hm : xs.length ≤ 9223372036854775807) : (Kd.int .u8).C w (some ⟨g, 0, none⟩) n (xs.take n) := by
  have e : n = (xs.take n).length := by rw [List.length_take]; omega
  have := h.tail 0 (Nat.zero_le _) hm
  rw [Nat.sub_zero, List.drop_zero] at this
  have h2 := Kd.C_take this hn
  rw [← e] at h2
  exact h2
set_option maxHeartbeats 4000000 in
set_option maxRecDepth 100000 in
theorem rowputR (g ga a m n c : Nat) (v : Int) (ys : List Int) (kL : Nat) (L : Int) (w : World) (ho0 : At8 5 w g ys) (ha : At1 w ga (a : Int)) (hne : ga ≠ g) (hn : n ≤ ys.length) (hc : n ≤ c) (hm0 : n ≤ 1000000) (hm : a + m ≤ n) (hm1 : 1 ≤ m) (hm8 : m ≤ 8) (hv : 0 ≤ v) (hv1 : v < 18446744073709551616) (hL : QPut.bits_Len64.f kL v = some L) (hLm : L ≤ 8 * (m : Int)) :
    Calls Try.prog 91 #[.slice (some ⟨g, 0, none⟩) n c, .pointer (some ⟨ga, 0, none⟩), .int .i64 (m : Int), .int .u64 v] w fun e w' => e = .returned (.tuple #[]) ∧ At8 5 w' g (grain_lay.go a v ys m) ∧ At1 w' ga ((a + m : Nat) : Int) ∧ Onl (fun k => k = g ∨ k = ga) w w' := by
  have hca := blk_cell ha 0
  have HO := Aside0.mk ho0
  have HA := Aside0.mk ha
  have HB := Aside0.mk (Onl.refl (fun k => k = g ∨ k = ga) w)
  have HL := Aside0.mk hL
  have hw8 : wrap64 ((a : Int) + (m : Int)) = ((a + m : Nat) : Int) := by unfold wrap64; omega
  clear ho0 hL ha
  go_enter Try.func91, Try.ntmps91
  go_wp2_with (go_at_call 103; (with_reducible refine (putR g a m n c v ys kL L _ HO.out hn hc (by omega) hm hm1 hm8 hv hv1 HL.out hLm).mono ?_); rintro e w' ⟨rfl, h1, h2⟩; have n0_ := Aside0.mk h1; have n1_ := Aside0.mk (HB.out.grown h2 (.inl rfl)); have n2_ := Aside0.mk (show At1 w' ga (a : Int) from (h2.block ga (blk_lt HA.out) (fun e => hne (by injection e))).trans HA.out); clear HO HB HA h1 h2; have HO := n0_; have HB := n1_; have HA := n2_; clear n0_ n1_ n2_; have hcb := blk_cell HA.out 0; have hfb := blk_frozen HA.out 0)
  go_end0
  exact ⟨rfl, HO.out.far hne.symm _, HA.out.set _, HB.out.set (.inr rfl) _ _⟩
set_option maxHeartbeats 4000000 in
set_option maxRecDepth 100000 in
theorem rowgetR (g ga a m n c : Nat) (ys : List Int) (w : World) (ho0 : At8 5 w g ys) (ha : At1 w ga (a : Int)) (hne : ga ≠ g) (hn : n ≤ ys.length) (hy : ys.length ≤ 1000000) (hc : n ≤ c) (hm : a + m ≤ n) (hm1 : 1 ≤ m) (hm8 : m ≤ 8) :
    Calls Try.prog 92 #[.slice (some ⟨g, 0, none⟩) n c, .pointer (some ⟨ga, 0, none⟩), .int .i64 (m : Int)] w fun e w' => e = .returned (.int .u64 (QGet.grain_Get.go (ys.take n) (a : Int) m)) ∧ At1 w' ga ((a + m : Nat) : Int) ∧ Onl (fun k => k = ga) w w' := by
  have hca := blk_cell ha 0
  have HO := Aside0.mk (ho0.row n hn (by omega))
  have HA := Aside0.mk ha
  have HB := Aside0.mk (Onl.refl (fun k => k = ga) w)
  have hw8 : wrap64 ((a : Int) + (m : Int)) = ((a + m : Nat) : Int) := by unfold wrap64; omega
  have hl : (ys.take n).length = n := by rw [List.length_take]; omega
  have hG : QGet.grain_Get.f (ys.take n) (a : Int) (m : Int) = some (QGet.grain_Get.go (ys.take n) (a : Int) m, 0) := by
    unfold QGet.grain_Get.f
    rw [if_pos (by omega), if_pos (by omega), if_pos (by rw [hl]; omega), Int.toNat_natCast]
  have HG := Aside0.mk hG
  obtain ⟨xs, hxs⟩ : ∃ xs, ys.take n = xs := ⟨_, rfl⟩
  rw [hxs] at HO HG hl ⊢
  subst hl
  clear ho0 ha hG hxs
  go_enter Try.func92, Try.ntmps92
  go_wp2_with (go_at_call 104; (with_reducible refine (QGet.grain_Get.calls _ c xs (a : Int) (m : Int) _ 0 _ HO.out hc HG.out).mono ?_); rintro e w' ⟨rfl, hd⟩; have hb := drawn_below hd; have n1_ := Aside0.mk (HB.out.below hb); have n2_ := Aside0.mk (show At1 w' ga (a : Int) from (hb.block ga (blk_lt HA.out)).trans HA.out); clear HO HB HA hd hb; have HB := n1_; have HA := n2_; clear n1_ n2_; have hcb := blk_cell HA.out 0; have hfb := blk_frozen HA.out 0)
  go_ret
  exact ⟨rfl, HA.out.set _, HB.out.set rfl _ _⟩
end ReelRaw
section ReelEdge
open Go.RowKit Go.Proofs.YtnmhfcfojbfikaaW.PrintWords Go.Proofs.YtnmhfcfojbfikaaW.PrintLast Go.Proofs.YtnmhfcfojbfikaaW.PrintMore
set_option linter.unusedVariables false
set_option linter.unusedSimpArgs false
open QPut (grain_lay.go grain_lay.step grain_lay.len)
/-- The bit lengths are right. -/
def LenOk : Prop := ∀ v : Int, 0 ≤ v → v < 18446744073709551616 → ∃ (kL : Nat) (L : Int), QPut.bits_Len64.f kL v = some L ∧ ∀ m : Nat, L ≤ (m : Int) ↔ v < 2 ^ m
theorem rowput (hO : LenOk) (g ga a m n c : Nat) (v : Int) (ys : List Int) (w : World) (ho0 : At8 5 w g ys) (ha : At1 w ga (a : Int)) (hne : ga ≠ g) (hn : n ≤ ys.length) (hc : n ≤ c) (hm0 : n ≤ 1000000) (hm : a + m ≤ n) (hm1 : 1 ≤ m) (hm8 : m ≤ 8) (hv : 0 ≤ v) (hv1 : v < 18446744073709551616) (hvm : v < 2 ^ (8 * m)) :
    Calls Try.prog 91 #[.slice (some ⟨g, 0, none⟩) n c, .pointer (some ⟨ga, 0, none⟩), .int .i64 (m : Int), .int .u64 v] w fun e w' => e = .returned (.tuple #[]) ∧ At8 5 w' g (grain_lay.go a v ys m) ∧ At1 w' ga ((a + m : Nat) : Int) ∧ Onl (fun k => k = g ∨ k = ga) w w' := by
  obtain ⟨kL, L, hL, hl⟩ := hO v hv hv1
  have h := (hl (8 * m)).2 hvm
  exact rowputR g ga a m n c v ys kL L w ho0 ha hne hn hc hm0 hm hm1 hm8 hv hv1 hL (by omega)
theorem rowput4 (hO : LenOk) (g ga a n c : Nat) (v : Int) (ys : List Int) (w : World) (ho0 : At8 5 w g ys) (ha : At1 w ga (a : Int)) (hne : ga ≠ g) (hn : n ≤ ys.length) (hc : n ≤ c) (hm0 : n ≤ 1000000) (hm : a + 4 ≤ n) (hv : 0 ≤ v) (hv1 : v < 4294967296) :
    Calls Try.prog 91 #[.slice (some ⟨g, 0, none⟩) n c, .pointer (some ⟨ga, 0, none⟩), .int .i64 4, .int .u64 v] w fun e w' => e = .returned (.tuple #[]) ∧ At8 5 w' g (grain_lay.go a v ys 4) ∧ At1 w' ga ((a + 4 : Nat) : Int) ∧ Onl (fun k => k = g ∨ k = ga) w w' :=
  rowput hO g ga a 4 n c v ys w ho0 ha hne hn hc hm0 hm (by omega) (by omega) hv (by omega) (by omega)
theorem Onl.new {w w' : World} {g : Nat} (h : Onl (fun k => k = g ∨ w.heap.size ≤ k) w w') : Onl (fun k => k = g) w w' :=
  ⟨h.os, h.tape, h.output, h.size, fun k hk hn => h.block k hk (fun hs => by rcases hs with hs | hs; exact hn hs; omega)⟩
def edgeB (n : Nat) (s d u : Int) (ys : List Int) : List Int := if n = 8 then grain_lay.go 4 d (grain_lay.go 0 s ys 4) 4 else grain_lay.go 8 u (grain_lay.go 4 d (grain_lay.go 0 s ys 4) 4) 4
set_option maxHeartbeats 4000000 in
set_option maxRecDepth 100000 in
theorem edgeR (hO : LenOk) (g n c : Nat) (s d u : Int) (ys : List Int) (w : World) (ho0 : At8 5 w g ys) (hn : n = 8 ∨ n = 12) (hny : n ≤ ys.length) (hc : n ≤ c) (s0 : 0 ≤ s) (s1 : s < 4294967296) (d0 : 0 ≤ d) (d1 : d < 4294967296) (u0 : 0 ≤ u) (u1 : u < 4294967296) :
    Calls Try.prog 68 #[.slice (some ⟨g, 0, none⟩) n c, .agg #[.int .u32 s, .int .u32 d, .int .u32 u]] w fun e w' => e = .returned (.tuple #[]) ∧ At8 5 w' g (edgeB n s d u ys) ∧ Onl (fun k => k = g) w w' := by
  have hg := ho0.lt
  have HE := Aside0.mk (blk_alloc (heap_alloc_new w (.cells #[.int .u32 s, .int .u32 d, .int .u32 u] 64)) (.cells #[.int .i64 0] 3))
  have HO := Aside0.mk ((ho0.alloc (.cells #[.int .u32 s, .int .u32 d, .int .u32 u] 64)).alloc (.cells #[.int .i64 0] 3))
  have HA := Aside0.mk (show At1 ((w.alloc (.cells #[.int .u32 s, .int .u32 d, .int .u32 u] 64)).alloc (.cells #[.int .i64 0] 3)) (w.heap.size + 1) ((0 : Nat) : Int) from by
    have := heap_alloc_new (w.alloc (.cells #[.int .u32 s, .int .u32 d, .int .u32 u] 64)) (.cells #[.int .i64 0] 3)
    rw [World.size_alloc] at this
    exact this)
  have HB := Aside0.mk (((Onl.refl (fun k => k = g ∨ w.heap.size ≤ k) w).below (below_alloc (Below.refl _ _) (.cells #[.int .u32 s, .int .u32 d, .int .u32 u] 64))).below (below_alloc (Below.refl _ _) (.cells #[.int .i64 0] 3)))
  have HL : Aside0 (w.heap.size < ((w.alloc (.cells #[.int .u32 s, .int .u32 d, .int .u32 u] 64)).alloc (.cells #[.int .i64 0] 3)).heap.size) := ⟨by rw [World.size_alloc, World.size_alloc]; omega⟩
  have he0 := blk_cell HE.out 0
  have he1 := blk_cell HE.out 1
  have he2 := blk_cell HE.out 2
  clear ho0
  rcases hn with rfl | rfl
  · go_enter Try.func68, Try.ntmps68
    go_wp2_with (first | (go_at_call 91; (with_reducible refine (rowput4 hO g (w.heap.size + 1) 0 _ c s _ _ HO.out HA.out (by omega) (by (repeat (rw [grain_lay.len])); exact hny) hc (by omega) (by omega) s0 s1).mono ?_); rintro e w' ⟨rfl, h1, h2, h3⟩; have n0_ := Aside0.mk h1; have n1_ := Aside0.mk (HB.out.trans (h3.mono (fun k hk => by rcases hk with rfl | rfl; exact .inl rfl; exact .inr (by omega)))); have n2_ := Aside0.mk h2; have n3_ := Aside0.mk ((h3.block w.heap.size HL.out (by omega)).trans HE.out); have n4_ := Aside0.mk (Nat.lt_of_lt_of_le HL.out h3.size); clear HO HB HA HE HL h1 h2 h3; have HO := n0_; have HB := n1_; have HA := n2_; have HE := n3_; have HL := n4_; clear n0_ n1_ n2_ n3_ n4_; have he0 := blk_cell HE.out 0; have he1 := blk_cell HE.out 1; have he2 := blk_cell HE.out 2) | (go_at_call 91; (with_reducible refine (rowput4 hO g (w.heap.size + 1) 4 _ c d _ _ HO.out HA.out (by omega) (by (repeat (rw [grain_lay.len])); exact hny) hc (by omega) (by omega) d0 d1).mono ?_); rintro e w' ⟨rfl, h1, h2, h3⟩; have n0_ := Aside0.mk h1; have n1_ := Aside0.mk (HB.out.trans (h3.mono (fun k hk => by rcases hk with rfl | rfl; exact .inl rfl; exact .inr (by omega)))); have n2_ := Aside0.mk h2; have n3_ := Aside0.mk ((h3.block w.heap.size HL.out (by omega)).trans HE.out); have n4_ := Aside0.mk (Nat.lt_of_lt_of_le HL.out h3.size); clear HO HB HA HE HL h1 h2 h3; have HO := n0_; have HB := n1_; have HA := n2_; have HE := n3_; have HL := n4_; clear n0_ n1_ n2_ n3_ n4_; have he0 := blk_cell HE.out 0; have he1 := blk_cell HE.out 1; have he2 := blk_cell HE.out 2))
    go_end0
    exact ⟨rfl, HO.out, HB.out.new⟩
  · go_enter Try.func68, Try.ntmps68
    go_wp2_with (first | (go_at_call 91; (with_reducible refine (rowput4 hO g (w.heap.size + 1) 0 _ c s _ _ HO.out HA.out (by omega) (by (repeat (rw [grain_lay.len])); exact hny) hc (by omega) (by omega) s0 s1).mono ?_); rintro e w' ⟨rfl, h1, h2, h3⟩; have n0_ := Aside0.mk h1; have n1_ := Aside0.mk (HB.out.trans (h3.mono (fun k hk => by rcases hk with rfl | rfl; exact .inl rfl; exact .inr (by omega)))); have n2_ := Aside0.mk h2; have n3_ := Aside0.mk ((h3.block w.heap.size HL.out (by omega)).trans HE.out); have n4_ := Aside0.mk (Nat.lt_of_lt_of_le HL.out h3.size); clear HO HB HA HE HL h1 h2 h3; have HO := n0_; have HB := n1_; have HA := n2_; have HE := n3_; have HL := n4_; clear n0_ n1_ n2_ n3_ n4_; have he0 := blk_cell HE.out 0; have he1 := blk_cell HE.out 1; have he2 := blk_cell HE.out 2) | (go_at_call 91; (with_reducible refine (rowput4 hO g (w.heap.size + 1) 4 _ c d _ _ HO.out HA.out (by omega) (by (repeat (rw [grain_lay.len])); exact hny) hc (by omega) (by omega) d0 d1).mono ?_); rintro e w' ⟨rfl, h1, h2, h3⟩; have n0_ := Aside0.mk h1; have n1_ := Aside0.mk (HB.out.trans (h3.mono (fun k hk => by rcases hk with rfl | rfl; exact .inl rfl; exact .inr (by omega)))); have n2_ := Aside0.mk h2; have n3_ := Aside0.mk ((h3.block w.heap.size HL.out (by omega)).trans HE.out); have n4_ := Aside0.mk (Nat.lt_of_lt_of_le HL.out h3.size); clear HO HB HA HE HL h1 h2 h3; have HO := n0_; have HB := n1_; have HA := n2_; have HE := n3_; have HL := n4_; clear n0_ n1_ n2_ n3_ n4_; have he0 := blk_cell HE.out 0; have he1 := blk_cell HE.out 1; have he2 := blk_cell HE.out 2) | (go_at_call 91; (with_reducible refine (rowput4 hO g (w.heap.size + 1) 8 _ c u _ _ HO.out HA.out (by omega) (by (repeat (rw [grain_lay.len])); exact hny) hc (by omega) (by omega) u0 u1).mono ?_); rintro e w' ⟨rfl, h1, h2, h3⟩; have n0_ := Aside0.mk h1; have n1_ := Aside0.mk (HB.out.trans (h3.mono (fun k hk => by rcases hk with rfl | rfl; exact .inl rfl; exact .inr (by omega)))); have n2_ := Aside0.mk h2; have n3_ := Aside0.mk ((h3.block w.heap.size HL.out (by omega)).trans HE.out); have n4_ := Aside0.mk (Nat.lt_of_lt_of_le HL.out h3.size); clear HO HB HA HE HL h1 h2 h3; have HO := n0_; have HB := n1_; have HA := n2_; have HE := n3_; have HL := n4_; clear n0_ n1_ n2_ n3_ n4_; have he0 := blk_cell HE.out 0; have he1 := blk_cell HE.out 1; have he2 := blk_cell HE.out 2))
    go_end0
    exact ⟨rfl, HO.out, HB.out.new⟩
theorem rowput8 (hO : LenOk) (g ga a n c : Nat) (v : Int) (ys : List Int) (w : World) (ho0 : At8 5 w g ys) (ha : At1 w ga (a : Int)) (hne : ga ≠ g) (hn : n ≤ ys.length) (hc : n ≤ c) (hm0 : n ≤ 1000000) (hm : a + 8 ≤ n) (hv : 0 ≤ v) (hv1 : v < 18446744073709551616) :
    Calls Try.prog 91 #[.slice (some ⟨g, 0, none⟩) n c, .pointer (some ⟨ga, 0, none⟩), .int .i64 8, .int .u64 v] w fun e w' => e = .returned (.tuple #[]) ∧ At8 5 w' g (grain_lay.go a v ys 8) ∧ At1 w' ga ((a + 8 : Nat) : Int) ∧ Onl (fun k => k = g ∨ k = ga) w w' :=
  rowput hO g ga a 8 n c v ys w ho0 ha hne hn hc hm0 hm (by omega) (by omega) hv hv1 (by omega)
def updB (s d u : Int) (ys : List Int) : List Int := grain_lay.go 12 u (grain_lay.go 4 d (grain_lay.go 0 s ys 4) 8) 8
set_option maxHeartbeats 4000000 in
set_option maxRecDepth 100000 in
theorem updateR (hO : LenOk) (g c : Nat) (s d u : Int) (ys : List Int) (w : World) (ho0 : At8 5 w g ys) (hny : 20 ≤ ys.length) (hc : 20 ≤ c) (s0 : 0 ≤ s) (s1 : s < 4294967296) (d0 : 0 ≤ d) (d1 : d < 18446744073709551616) (u0 : 0 ≤ u) (u1 : u < 18446744073709551616) :
    Calls Try.prog 73 #[.slice (some ⟨g, 0, none⟩) 20 c, .agg #[.int .u32 s, .int .u64 d, .int .u64 u]] w fun e w' => e = .returned (.tuple #[]) ∧ At8 5 w' g (updB s d u ys) ∧ Onl (fun k => k = g) w w' := by
  have hg := ho0.lt
  have HE := Aside0.mk (blk_alloc (heap_alloc_new w (.cells #[.int .u32 s, .int .u64 d, .int .u64 u] 67)) (.cells #[.int .i64 0] 3))
  have HO := Aside0.mk ((ho0.alloc (.cells #[.int .u32 s, .int .u64 d, .int .u64 u] 67)).alloc (.cells #[.int .i64 0] 3))
  have HA := Aside0.mk (show At1 ((w.alloc (.cells #[.int .u32 s, .int .u64 d, .int .u64 u] 67)).alloc (.cells #[.int .i64 0] 3)) (w.heap.size + 1) ((0 : Nat) : Int) from by
    have := heap_alloc_new (w.alloc (.cells #[.int .u32 s, .int .u64 d, .int .u64 u] 67)) (.cells #[.int .i64 0] 3)
    rw [World.size_alloc] at this
    exact this)
  have HB := Aside0.mk (((Onl.refl (fun k => k = g ∨ w.heap.size ≤ k) w).below (below_alloc (Below.refl _ _) (.cells #[.int .u32 s, .int .u64 d, .int .u64 u] 67))).below (below_alloc (Below.refl _ _) (.cells #[.int .i64 0] 3)))
  have HL : Aside0 (w.heap.size < ((w.alloc (.cells #[.int .u32 s, .int .u64 d, .int .u64 u] 67)).alloc (.cells #[.int .i64 0] 3)).heap.size) := ⟨by rw [World.size_alloc, World.size_alloc]; omega⟩
  have he0 := blk_cell HE.out 0
  have he1 := blk_cell HE.out 1
  have he2 := blk_cell HE.out 2
  clear ho0
  go_enter Try.func73, Try.ntmps73
  go_wp2_with (first | (go_at_call 91; (with_reducible refine (rowput4 hO g (w.heap.size + 1) 0 _ c s _ _ HO.out HA.out (by omega) (by (repeat (rw [grain_lay.len])); exact hny) hc (by omega) (by omega) s0 s1).mono ?_); rintro e w' ⟨rfl, h1, h2, h3⟩; have n0_ := Aside0.mk h1; have n1_ := Aside0.mk (HB.out.trans (h3.mono (fun k hk => by rcases hk with rfl | rfl; exact .inl rfl; exact .inr (by omega)))); have n2_ := Aside0.mk h2; have n3_ := Aside0.mk ((h3.block w.heap.size HL.out (by omega)).trans HE.out); have n4_ := Aside0.mk (Nat.lt_of_lt_of_le HL.out h3.size); clear HO HB HA HE HL h1 h2 h3; have HO := n0_; have HB := n1_; have HA := n2_; have HE := n3_; have HL := n4_; clear n0_ n1_ n2_ n3_ n4_; have he0 := blk_cell HE.out 0; have he1 := blk_cell HE.out 1; have he2 := blk_cell HE.out 2) | (go_at_call 91; (with_reducible refine (rowput8 hO g (w.heap.size + 1) 4 _ c d _ _ HO.out HA.out (by omega) (by (repeat (rw [grain_lay.len])); exact hny) hc (by omega) (by omega) d0 d1).mono ?_); rintro e w' ⟨rfl, h1, h2, h3⟩; have n0_ := Aside0.mk h1; have n1_ := Aside0.mk (HB.out.trans (h3.mono (fun k hk => by rcases hk with rfl | rfl; exact .inl rfl; exact .inr (by omega)))); have n2_ := Aside0.mk h2; have n3_ := Aside0.mk ((h3.block w.heap.size HL.out (by omega)).trans HE.out); have n4_ := Aside0.mk (Nat.lt_of_lt_of_le HL.out h3.size); clear HO HB HA HE HL h1 h2 h3; have HO := n0_; have HB := n1_; have HA := n2_; have HE := n3_; have HL := n4_; clear n0_ n1_ n2_ n3_ n4_; have he0 := blk_cell HE.out 0; have he1 := blk_cell HE.out 1; have he2 := blk_cell HE.out 2) | (go_at_call 91; (with_reducible refine (rowput8 hO g (w.heap.size + 1) 12 _ c u _ _ HO.out HA.out (by omega) (by (repeat (rw [grain_lay.len])); exact hny) hc (by omega) (by omega) u0 u1).mono ?_); rintro e w' ⟨rfl, h1, h2, h3⟩; have n0_ := Aside0.mk h1; have n1_ := Aside0.mk (HB.out.trans (h3.mono (fun k hk => by rcases hk with rfl | rfl; exact .inl rfl; exact .inr (by omega)))); have n2_ := Aside0.mk h2; have n3_ := Aside0.mk ((h3.block w.heap.size HL.out (by omega)).trans HE.out); have n4_ := Aside0.mk (Nat.lt_of_lt_of_le HL.out h3.size); clear HO HB HA HE HL h1 h2 h3; have HO := n0_; have HB := n1_; have HA := n2_; have HE := n3_; have HL := n4_; clear n0_ n1_ n2_ n3_ n4_; have he0 := blk_cell HE.out 0; have he1 := blk_cell HE.out 1; have he2 := blk_cell HE.out 2))
  go_end0
  exact ⟨rfl, HO.out, HB.out.new⟩
end ReelEdge
section ReelBack
open Go.RowKit Go.Proofs.YtnmhfcfojbfikaaW.PrintWords Go.Proofs.YtnmhfcfojbfikaaW.PrintLast Go.Proofs.YtnmhfcfojbfikaaW.PrintMore
set_option linter.unusedVariables false
set_option linter.unusedSimpArgs false
theorem Onl.fresh {w w' : World} (h : Onl (fun k => w.heap.size ≤ k) w w') : Below w.heap.size w w' := ⟨h.os, h.tape, h.output, h.size, fun k hk => h.block k hk (by omega)⟩
theorem rowget4 (g ga a n c : Nat) (ys : List Int) (w : World) (ho0 : At8 5 w g ys) (ha : At1 w ga (a : Int)) (hne : ga ≠ g) (hn : n ≤ ys.length) (hy : ys.length ≤ 1000000) (hc : n ≤ c) (hm : a + 4 ≤ n) :
    Calls Try.prog 92 #[.slice (some ⟨g, 0, none⟩) n c, .pointer (some ⟨ga, 0, none⟩), .int .i64 4] w fun e w' => e = .returned (.int .u64 (QGet.grain_Get.go (ys.take n) (a : Int) 4)) ∧ At1 w' ga ((a + 4 : Nat) : Int) ∧ Onl (fun k => k = ga) w w' :=
  rowgetR g ga a 4 n c ys w ho0 ha hne hn hy hc hm (by omega) (by omega)
theorem rowget8 (g ga a n c : Nat) (ys : List Int) (w : World) (ho0 : At8 5 w g ys) (ha : At1 w ga (a : Int)) (hne : ga ≠ g) (hn : n ≤ ys.length) (hy : ys.length ≤ 1000000) (hc : n ≤ c) (hm : a + 8 ≤ n) :
    Calls Try.prog 92 #[.slice (some ⟨g, 0, none⟩) n c, .pointer (some ⟨ga, 0, none⟩), .int .i64 8] w fun e w' => e = .returned (.int .u64 (QGet.grain_Get.go (ys.take n) (a : Int) 8)) ∧ At1 w' ga ((a + 8 : Nat) : Int) ∧ Onl (fun k => k = ga) w w' :=
  rowgetR g ga a 8 n c ys w ho0 ha hne hn hy hc hm (by omega) (by omega)
set_option maxHeartbeats 4000000 in
set_option maxRecDepth 100000 in
theorem updateBackR (g c : Nat) (ys : List Int) (w : World) (ho0 : At8 5 w g ys) (hny : 20 ≤ ys.length) (hy : ys.length ≤ 1000000) (hc : 20 ≤ c) :
    Calls Try.prog 74 #[.slice (some ⟨g, 0, none⟩) 20 c] w fun e w' => e = .returned (.agg #[.int .u32 (IntKind.u32.wrap (QGet.grain_Get.go (ys.take 20) 0 4)), .int .u64 (QGet.grain_Get.go (ys.take 20) 4 8), .int .u64 (QGet.grain_Get.go (ys.take 20) 12 8)]) ∧ Below w.heap.size w w' := by
  have hg := ho0.lt
  have HE := Aside0.mk (blk_alloc (heap_alloc_new w (.cells #[.int .u32 0, .int .u64 0, .int .u64 0] 67)) (.cells #[.int .i64 0] 3))
  have HO := Aside0.mk ((ho0.alloc (.cells #[.int .u32 0, .int .u64 0, .int .u64 0] 67)).alloc (.cells #[.int .i64 0] 3))
  have HA := Aside0.mk (show At1 ((w.alloc (.cells #[.int .u32 0, .int .u64 0, .int .u64 0] 67)).alloc (.cells #[.int .i64 0] 3)) (w.heap.size + 1) ((0 : Nat) : Int) from by
    have := heap_alloc_new (w.alloc (.cells #[.int .u32 0, .int .u64 0, .int .u64 0] 67)) (.cells #[.int .i64 0] 3)
    rw [World.size_alloc] at this
    exact this)
  have HB := Aside0.mk (((Onl.refl (fun k => w.heap.size ≤ k) w).below (below_alloc (Below.refl _ _) (.cells #[.int .u32 0, .int .u64 0, .int .u64 0] 67))).below (below_alloc (Below.refl _ _) (.cells #[.int .i64 0] 3)))
  have HL : Aside0 (w.heap.size < ((w.alloc (.cells #[.int .u32 0, .int .u64 0, .int .u64 0] 67)).alloc (.cells #[.int .i64 0] 3)).heap.size) := ⟨by rw [World.size_alloc, World.size_alloc]; omega⟩
  have HGL : Aside0 (g < ((w.alloc (.cells #[.int .u32 0, .int .u64 0, .int .u64 0] 67)).alloc (.cells #[.int .i64 0] 3)).heap.size) := ⟨by rw [World.size_alloc, World.size_alloc]; omega⟩
  clear ho0
  go_enter Try.func74, Try.ntmps74
  go_wp2_with (first | (go_at_call 92; (with_reducible refine (rowget4 g (w.heap.size + 1) 0 _ c ys _ HO.out HA.out (by omega) hny (by omega) hc (by omega)).mono ?_); rintro e w' ⟨rfl, h2, h3⟩; have n0_ := Aside0.mk (show At8 5 w' g ys from (h3.block g HGL.out (by omega)).trans HO.out); have n1_ := Aside0.mk (HB.out.trans (h3.mono (fun k hk => by omega))); have n2_ := Aside0.mk h2; have n3_ := Aside0.mk ((h3.block w.heap.size HL.out (by omega)).trans HE.out); have n4_ := Aside0.mk (Nat.lt_of_lt_of_le HL.out h3.size); have n5_ := Aside0.mk (Nat.lt_of_lt_of_le HGL.out h3.size); clear HO HB HA HE HL HGL h2 h3; have HO := n0_; have HB := n1_; have HA := n2_; have HE := n3_; have HL := n4_; have HGL := n5_; clear n0_ n1_ n2_ n3_ n4_ n5_; have he0 := blk_cell HE.out 0; have he1 := blk_cell HE.out 1; have he2 := blk_cell HE.out 2; have hf0 := blk_frozen HE.out 0; have hf1 := blk_frozen HE.out 1; have hf2 := blk_frozen HE.out 2) | (go_at_call 92; (with_reducible refine (rowget8 g (w.heap.size + 1) 4 _ c ys _ HO.out HA.out (by omega) hny (by omega) hc (by omega)).mono ?_); rintro e w' ⟨rfl, h2, h3⟩; have n0_ := Aside0.mk (show At8 5 w' g ys from (h3.block g HGL.out (by omega)).trans HO.out); have n1_ := Aside0.mk (HB.out.trans (h3.mono (fun k hk => by omega))); have n2_ := Aside0.mk h2; have n3_ := Aside0.mk ((h3.block w.heap.size HL.out (by omega)).trans HE.out); have n4_ := Aside0.mk (Nat.lt_of_lt_of_le HL.out h3.size); have n5_ := Aside0.mk (Nat.lt_of_lt_of_le HGL.out h3.size); clear HO HB HA HE HL HGL h2 h3; have HO := n0_; have HB := n1_; have HA := n2_; have HE := n3_; have HL := n4_; have HGL := n5_; clear n0_ n1_ n2_ n3_ n4_ n5_; have he0 := blk_cell HE.out 0; have he1 := blk_cell HE.out 1; have he2 := blk_cell HE.out 2; have hf0 := blk_frozen HE.out 0; have hf1 := blk_frozen HE.out 1; have hf2 := blk_frozen HE.out 2) | (go_at_call 92; (with_reducible refine (rowget8 g (w.heap.size + 1) 12 _ c ys _ HO.out HA.out (by omega) hny (by omega) hc (by omega)).mono ?_); rintro e w' ⟨rfl, h2, h3⟩; have n0_ := Aside0.mk (show At8 5 w' g ys from (h3.block g HGL.out (by omega)).trans HO.out); have n1_ := Aside0.mk (HB.out.trans (h3.mono (fun k hk => by omega))); have n2_ := Aside0.mk h2; have n3_ := Aside0.mk ((h3.block w.heap.size HL.out (by omega)).trans HE.out); have n4_ := Aside0.mk (Nat.lt_of_lt_of_le HL.out h3.size); have n5_ := Aside0.mk (Nat.lt_of_lt_of_le HGL.out h3.size); clear HO HB HA HE HL HGL h2 h3; have HO := n0_; have HB := n1_; have HA := n2_; have HE := n3_; have HL := n4_; have HGL := n5_; clear n0_ n1_ n2_ n3_ n4_ n5_; have he0 := blk_cell HE.out 0; have he1 := blk_cell HE.out 1; have he2 := blk_cell HE.out 2; have hf0 := blk_frozen HE.out 0; have hf1 := blk_frozen HE.out 1; have hf2 := blk_frozen HE.out 2))
  have hB1 := ((HB.out.set (Nat.le_refl _) 0 (.int .u32 (QGet.grain_Get.go (ys.take 20) 0 4 % 4294967296))).set (Nat.le_refl w.heap.size) 1 (.int .u64 (QGet.grain_Get.go (ys.take 20) 4 8))).set (Nat.le_refl w.heap.size) 2 (.int .u64 (QGet.grain_Get.go (ys.take 20) 12 8))
  have hE1 := blk_put (blk_put (blk_put HE.out 0 (.int .u32 (QGet.grain_Get.go (ys.take 20) 0 4 % 4294967296)) rfl) 1 (.int .u64 (QGet.grain_Get.go (ys.take 20) 4 8)) rfl) 2 (.int .u64 (QGet.grain_Get.go (ys.take 20) 12 8)) rfl
  refine bodyPost_ret (results_cell_row (p := 2) (ty := 67) rfl _ _ (w.heap.size) 67 _ (0, 0) _ rfl hE1 Try.underlying67 rfl (by kernel_rfl)) rfl ?_
  exact ⟨rfl, hB1.fresh⟩
theorem At8.far' {w : World} {t : TypeId} {g g' : Nat} {xs : List Int} (h : At8 t w g xs) (hne : g ≠ g') (i : Nat) (u : Value) : At8 t (w.setCell ⟨g', i, none⟩ u) g xs := (Below.heap_setCell w ⟨g', i, none⟩ u g hne).trans h
theorem At1.far' {w : World} {g g' : Nat} {a : Int} (h : At1 w g a) (hne : g ≠ g') (i : Nat) (u : Value) : At1 (w.setCell ⟨g', i, none⟩ u) g a := (Below.heap_setCell w ⟨g', i, none⟩ u g hne).trans h
set_option maxHeartbeats 4000000 in
set_option maxRecDepth 100000 in
theorem edgeBack8 (g c : Nat) (ys : List Int) (w : World) (ho0 : At8 5 w g ys) (hny : 8 ≤ ys.length) (hy : ys.length ≤ 1000000) (hc : 8 ≤ c) :
    Calls Try.prog 69 #[.slice (some ⟨g, 0, none⟩) 8 c] w fun e w' => e = .returned (.agg #[.int .u32 (QGet.grain_Get.go (ys.take 8) 0 4 % 4294967296), .int .u32 (QGet.grain_Get.go (ys.take 8) 4 4 % 4294967296), .int .u32 0]) ∧ Below w.heap.size w w' := by
  have hg := ho0.lt
  have HE := Aside0.mk (blk_alloc (heap_alloc_new w (.cells #[.int .u32 0, .int .u32 0, .int .u32 0] 64)) (.cells #[.int .i64 0] 3))
  have HO := Aside0.mk ((ho0.alloc (.cells #[.int .u32 0, .int .u32 0, .int .u32 0] 64)).alloc (.cells #[.int .i64 0] 3))
  have HA := Aside0.mk (show At1 ((w.alloc (.cells #[.int .u32 0, .int .u32 0, .int .u32 0] 64)).alloc (.cells #[.int .i64 0] 3)) (w.heap.size + 1) ((0 : Nat) : Int) from by
    have := heap_alloc_new (w.alloc (.cells #[.int .u32 0, .int .u32 0, .int .u32 0] 64)) (.cells #[.int .i64 0] 3)
    rw [World.size_alloc] at this
    exact this)
  have HB := Aside0.mk (((Onl.refl (fun k => w.heap.size ≤ k) w).below (below_alloc (Below.refl _ _) (.cells #[.int .u32 0, .int .u32 0, .int .u32 0] 64))).below (below_alloc (Below.refl _ _) (.cells #[.int .i64 0] 3)))
  have HL : Aside0 (w.heap.size < ((w.alloc (.cells #[.int .u32 0, .int .u32 0, .int .u32 0] 64)).alloc (.cells #[.int .i64 0] 3)).heap.size) := ⟨by rw [World.size_alloc, World.size_alloc]; omega⟩
  have HGL : Aside0 (g < ((w.alloc (.cells #[.int .u32 0, .int .u32 0, .int .u32 0] 64)).alloc (.cells #[.int .i64 0] 3)).heap.size) := ⟨by rw [World.size_alloc, World.size_alloc]; omega⟩
  clear ho0
  go_enter Try.func69, Try.ntmps69
  go_wp2_with (first | (go_at_call 92; (with_reducible refine (rowget4 g (w.heap.size + 1) 0 _ c ys _ HO.out HA.out (by omega) hny (by omega) hc (by omega)).mono ?_); rintro e w' ⟨rfl, h2, h3⟩; have n0_ := Aside0.mk (show At8 5 w' g ys from (h3.block g HGL.out (by omega)).trans HO.out); have n1_ := Aside0.mk (HB.out.trans (h3.mono (fun k hk => by omega))); have n2_ := Aside0.mk h2; have n3_ := Aside0.mk ((h3.block w.heap.size HL.out (by omega)).trans HE.out); have n4_ := Aside0.mk (Nat.lt_of_lt_of_le HL.out h3.size); have n5_ := Aside0.mk (Nat.lt_of_lt_of_le HGL.out h3.size); clear HO HB HA HE HL HGL h2 h3; have HO := n0_; have HB := n1_; have HA := n2_; have HE := n3_; have HL := n4_; have HGL := n5_; clear n0_ n1_ n2_ n3_ n4_ n5_; have he0 := blk_cell HE.out 0; have he1 := blk_cell HE.out 1; have he2 := blk_cell HE.out 2; have hf0 := blk_frozen HE.out 0; have hf1 := blk_frozen HE.out 1; have hf2 := blk_frozen HE.out 2) | (go_at_call 92; (with_reducible refine (rowget4 g (w.heap.size + 1) 4 _ c ys _ HO.out HA.out (by omega) hny (by omega) hc (by omega)).mono ?_); rintro e w' ⟨rfl, h2, h3⟩; have n0_ := Aside0.mk (show At8 5 w' g ys from (h3.block g HGL.out (by omega)).trans HO.out); have n1_ := Aside0.mk (HB.out.trans (h3.mono (fun k hk => by omega))); have n2_ := Aside0.mk h2; have n3_ := Aside0.mk ((h3.block w.heap.size HL.out (by omega)).trans HE.out); have n4_ := Aside0.mk (Nat.lt_of_lt_of_le HL.out h3.size); have n5_ := Aside0.mk (Nat.lt_of_lt_of_le HGL.out h3.size); clear HO HB HA HE HL HGL h2 h3; have HO := n0_; have HB := n1_; have HA := n2_; have HE := n3_; have HL := n4_; have HGL := n5_; clear n0_ n1_ n2_ n3_ n4_ n5_; have he0 := blk_cell HE.out 0; have he1 := blk_cell HE.out 1; have he2 := blk_cell HE.out 2; have hf0 := blk_frozen HE.out 0; have hf1 := blk_frozen HE.out 1; have hf2 := blk_frozen HE.out 2))
  have hB1 := (((((HB.out.set (Nat.le_refl w.heap.size) 0 (.int .u32 (QGet.grain_Get.go (ys.take 8) 0 4 % 4294967296))).set (Nat.le_refl w.heap.size) 1 (.int .u32 (QGet.grain_Get.go (ys.take 8) 4 4 % 4294967296))).set (Nat.le_refl w.heap.size) 0 (.int .u32 (QGet.grain_Get.go (ys.take 8) 0 4 % 4294967296))).set (Nat.le_refl w.heap.size) 1 (.int .u32 (QGet.grain_Get.go (ys.take 8) 4 4 % 4294967296))).set (Nat.le_refl w.heap.size) 2 (.int .u32 0))
  have hE1 := (blk_put (blk_put (blk_put (blk_put (blk_put HE.out 0 (.int .u32 (QGet.grain_Get.go (ys.take 8) 0 4 % 4294967296)) rfl) 1 (.int .u32 (QGet.grain_Get.go (ys.take 8) 4 4 % 4294967296)) rfl) 0 (.int .u32 (QGet.grain_Get.go (ys.take 8) 0 4 % 4294967296)) rfl) 1 (.int .u32 (QGet.grain_Get.go (ys.take 8) 4 4 % 4294967296)) rfl) 2 (.int .u32 0) rfl)
  refine bodyPost_ret (results_cell_row (p := 2) (ty := 64) rfl _ _ (w.heap.size) 64 _ (0, 0) _ rfl hE1 Try.underlying64 rfl (by kernel_rfl)) rfl ?_
  exact ⟨rfl, hB1.fresh⟩
end ReelBack
section ReelBack2
open Go.RowKit Go.Proofs.YtnmhfcfojbfikaaW.PrintWords Go.Proofs.YtnmhfcfojbfikaaW.PrintLast Go.Proofs.YtnmhfcfojbfikaaW.PrintMore
set_option linter.unusedVariables false
set_option linter.unusedSimpArgs false
set_option maxHeartbeats 4000000 in
set_option maxRecDepth 100000 in
theorem edgeBack12 (g c : Nat) (ys : List Int) (w : World) (ho0 : At8 5 w g ys) (hny : 12 ≤ ys.length) (hy : ys.length ≤ 1000000) (hc : 12 ≤ c) :
    Calls Try.prog 69 #[.slice (some ⟨g, 0, none⟩) 12 c] w fun e w' => e = .returned (.agg #[.int .u32 (QGet.grain_Get.go (ys.take 12) 0 4 % 4294967296), .int .u32 (QGet.grain_Get.go (ys.take 12) 4 4 % 4294967296), .int .u32 (QGet.grain_Get.go (ys.take 12) 8 4 % 4294967296)]) ∧ Below w.heap.size w w' := by
  have hg := ho0.lt
  have HE := Aside0.mk (blk_alloc (heap_alloc_new w (.cells #[.int .u32 0, .int .u32 0, .int .u32 0] 64)) (.cells #[.int .i64 0] 3))
  have HO := Aside0.mk ((ho0.alloc (.cells #[.int .u32 0, .int .u32 0, .int .u32 0] 64)).alloc (.cells #[.int .i64 0] 3))
  have HA := Aside0.mk (show At1 ((w.alloc (.cells #[.int .u32 0, .int .u32 0, .int .u32 0] 64)).alloc (.cells #[.int .i64 0] 3)) (w.heap.size + 1) ((0 : Nat) : Int) from by
    have := heap_alloc_new (w.alloc (.cells #[.int .u32 0, .int .u32 0, .int .u32 0] 64)) (.cells #[.int .i64 0] 3)
    rw [World.size_alloc] at this
    exact this)
  have HB := Aside0.mk (((Onl.refl (fun k => w.heap.size ≤ k) w).below (below_alloc (Below.refl _ _) (.cells #[.int .u32 0, .int .u32 0, .int .u32 0] 64))).below (below_alloc (Below.refl _ _) (.cells #[.int .i64 0] 3)))
  have HL : Aside0 (w.heap.size < ((w.alloc (.cells #[.int .u32 0, .int .u32 0, .int .u32 0] 64)).alloc (.cells #[.int .i64 0] 3)).heap.size) := ⟨by rw [World.size_alloc, World.size_alloc]; omega⟩
  have HGL : Aside0 (g < ((w.alloc (.cells #[.int .u32 0, .int .u32 0, .int .u32 0] 64)).alloc (.cells #[.int .i64 0] 3)).heap.size) := ⟨by rw [World.size_alloc, World.size_alloc]; omega⟩
  clear ho0
  go_enter Try.func69, Try.ntmps69
  go_wp2_with (first | (go_at_call 92; (with_reducible refine (rowget4 g (w.heap.size + 1) 0 _ c ys _ HO.out HA.out (by omega) hny (by omega) hc (by omega)).mono ?_); rintro e w' ⟨rfl, h2, h3⟩; have n0_ := Aside0.mk (show At8 5 w' g ys from (h3.block g HGL.out (by omega)).trans HO.out); have n1_ := Aside0.mk (HB.out.trans (h3.mono (fun k hk => by omega))); have n2_ := Aside0.mk h2; have n3_ := Aside0.mk ((h3.block w.heap.size HL.out (by omega)).trans HE.out); have n4_ := Aside0.mk (Nat.lt_of_lt_of_le HL.out h3.size); have n5_ := Aside0.mk (Nat.lt_of_lt_of_le HGL.out h3.size); clear HO HB HA HE HL HGL h2 h3; have HO := n0_; have HB := n1_; have HA := n2_; have HE := n3_; have HL := n4_; have HGL := n5_; clear n0_ n1_ n2_ n3_ n4_ n5_; have he0 := blk_cell HE.out 0; have he1 := blk_cell HE.out 1; have he2 := blk_cell HE.out 2; have hf0 := blk_frozen HE.out 0; have hf1 := blk_frozen HE.out 1; have hf2 := blk_frozen HE.out 2) | (go_at_call 92; (with_reducible refine (rowget4 g (w.heap.size + 1) 4 _ c ys _ HO.out HA.out (by omega) hny (by omega) hc (by omega)).mono ?_); rintro e w' ⟨rfl, h2, h3⟩; have n0_ := Aside0.mk (show At8 5 w' g ys from (h3.block g HGL.out (by omega)).trans HO.out); have n1_ := Aside0.mk (HB.out.trans (h3.mono (fun k hk => by omega))); have n2_ := Aside0.mk h2; have n3_ := Aside0.mk ((h3.block w.heap.size HL.out (by omega)).trans HE.out); have n4_ := Aside0.mk (Nat.lt_of_lt_of_le HL.out h3.size); have n5_ := Aside0.mk (Nat.lt_of_lt_of_le HGL.out h3.size); clear HO HB HA HE HL HGL h2 h3; have HO := n0_; have HB := n1_; have HA := n2_; have HE := n3_; have HL := n4_; have HGL := n5_; clear n0_ n1_ n2_ n3_ n4_ n5_; have he0 := blk_cell HE.out 0; have he1 := blk_cell HE.out 1; have he2 := blk_cell HE.out 2; have hf0 := blk_frozen HE.out 0; have hf1 := blk_frozen HE.out 1; have hf2 := blk_frozen HE.out 2) | (go_at_call 92; (with_reducible refine (rowget4 g (w.heap.size + 1) 8 _ c ys _ ((HO.out.far' (by omega) 0 (.int .u32 (QGet.grain_Get.go (ys.take 12) 0 4 % 4294967296))).far' (by omega) 1 (.int .u32 (QGet.grain_Get.go (ys.take 12) 4 4 % 4294967296))) ((HA.out.far' (by omega) 0 (.int .u32 (QGet.grain_Get.go (ys.take 12) 0 4 % 4294967296))).far' (by omega) 1 (.int .u32 (QGet.grain_Get.go (ys.take 12) 4 4 % 4294967296))) (by omega) hny (by omega) hc (by omega)).mono ?_); rintro e w2 ⟨rfl, h2, h3⟩; have n0_ := Aside0.mk (show At8 5 w2 g ys from (h3.block g (by simpa [World.setCell] using HGL.out) (by omega)).trans ((HO.out.far' (by omega) 0 (.int .u32 (QGet.grain_Get.go (ys.take 12) 0 4 % 4294967296))).far' (by omega) 1 (.int .u32 (QGet.grain_Get.go (ys.take 12) 4 4 % 4294967296)))); have n1_ := Aside0.mk (((HB.out.set (Nat.le_refl w.heap.size) 0 (.int .u32 (QGet.grain_Get.go (ys.take 12) 0 4 % 4294967296))).set (Nat.le_refl w.heap.size) 1 (.int .u32 (QGet.grain_Get.go (ys.take 12) 4 4 % 4294967296))).trans (h3.mono (fun k hk => by omega))); have n2_ := Aside0.mk h2; have n3_ := Aside0.mk ((h3.block w.heap.size (by simpa [World.setCell] using HL.out) (by omega)).trans (blk_put (blk_put HE.out 0 (.int .u32 (QGet.grain_Get.go (ys.take 12) 0 4 % 4294967296)) rfl) 1 (.int .u32 (QGet.grain_Get.go (ys.take 12) 4 4 % 4294967296)) rfl)); have n4_ := Aside0.mk True.intro; have n5_ := Aside0.mk True.intro; clear HO HB HA HE HL HGL h2 h3; have HO := n0_; have HB := n1_; have HA := n2_; have HE := n3_; have HL := n4_; have HGL := n5_; clear n0_ n1_ n2_ n3_ n4_ n5_; have he0 := blk_cell HE.out 0; have he1 := blk_cell HE.out 1; have he2 := blk_cell HE.out 2; have hf0 := blk_frozen HE.out 0; have hf1 := blk_frozen HE.out 1; have hf2 := blk_frozen HE.out 2))
  have hB1 := ((((HB.out.set (Nat.le_refl w.heap.size) 2 (.int .u32 (QGet.grain_Get.go (ys.take 12) 8 4 % 4294967296))).set (Nat.le_refl w.heap.size) 0 (.int .u32 (QGet.grain_Get.go (ys.take 12) 0 4 % 4294967296))).set (Nat.le_refl w.heap.size) 1 (.int .u32 (QGet.grain_Get.go (ys.take 12) 4 4 % 4294967296))).set (Nat.le_refl w.heap.size) 2 (.int .u32 (QGet.grain_Get.go (ys.take 12) 8 4 % 4294967296)))
  have hE1 := (blk_put (blk_put (blk_put (blk_put HE.out 2 (.int .u32 (QGet.grain_Get.go (ys.take 12) 8 4 % 4294967296)) rfl) 0 (.int .u32 (QGet.grain_Get.go (ys.take 12) 0 4 % 4294967296)) rfl) 1 (.int .u32 (QGet.grain_Get.go (ys.take 12) 4 4 % 4294967296)) rfl) 2 (.int .u32 (QGet.grain_Get.go (ys.take 12) 8 4 % 4294967296)) rfl)
  refine bodyPost_ret (results_cell_row (p := 2) (ty := 64) rfl _ _ (w.heap.size) 64 _ (0, 0) _ rfl hE1 Try.underlying64 rfl (by kernel_rfl)) rfl ?_
  exact ⟨rfl, hB1.fresh⟩
end ReelBack2
section ReelFormE
open Go.RowKit Go.Proofs.YtnmhfcfojbfikaaW.PrintWords Go.Proofs.YtnmhfcfojbfikaaW.PrintLast Go.Proofs.YtnmhfcfojbfikaaW.PrintMore
set_option linter.unusedVariables false
set_option linter.unusedSimpArgs false
theorem at_newE' (w : World) (o : Obj) (n : Nat) (h : n = w.heap.size) : (w.alloc o).heap[n]? = some o := by
  subst h
  exact heap_alloc_new w o
def formVE (width : Int) (b1 b2 : Nat) : Value := .agg #[.int .i64 width, .func (.func 89) #[] #[.pointer (some ⟨b1, 0, none⟩)], .func (.func 90) #[] #[.pointer (some ⟨b2, 0, none⟩)]]
/-- The two functions that the form's closures hold. -/
structure HoldsE (w : World) (b1 b2 : Nat) : Prop where
  put : w.heap[b1]? = some (.cells #[.func (.func 68) #[] #[]] 120 (0, 0))
  get : w.heap[b2]? = some (.cells #[.func (.func 69) #[] #[]] 122 (0, 0))
set_option maxHeartbeats 8000000 in
set_option maxRecDepth 100000 in
theorem formE (width : Int) (w : World) :
    Calls Try.prog 67 #[.int .i64 width, .func (.func 68) #[] #[], .func (.func 69) #[] #[]] w fun e w' => ∃ b1 b2, e = .returned (formVE width b1 b2) ∧ w.heap.size ≤ b1 ∧ w.heap.size ≤ b2 ∧ HoldsE w' b1 b2 ∧ Below w.heap.size w w' := by
  have HB := Aside0.mk (Below.refl w.heap.size w)
  have hmf : ∀ (fn : Fn) (first cap : Array Value) (w : World), (Instr.makeFunc fn first cap).run Try.prog w = .ok (.func fn first cap) w := fun _ _ _ _ => rfl
  have hst : ∀ (a : Addr) (fn : Fn) (x y : Array Value) (w : World), Sem.run Try.prog (store a (.func fn x y)) w = match w.cell? a with
      | some _ => if w.frozen? a then .halt (.unsupported (.unsafePointer "a write to bytes that a string shares")) w else .ok () (w.setCell a (.func fn x y))
      | none => match w.farStore Try.prog a (.func fn x y) (Mode.plain == .atomic) with
        | .ok (w', _) => .ok () w'
        | .error h => .halt h w := fun a fn x y w => run_store _ _ _ _ _ rfl
  go_enter Try.func67, Try.ntmps67
  go_wp2
  refine bodyPost_ret (results_cell_row (p := 6) (ty := 73) rfl _ _ (w.heap.size + 1 + 1 + 1) 73 #[.int .i64 width, .func (.func 89) #[] #[.pointer (some ⟨w.heap.size, 0, none⟩)], .func (.func 90) #[] #[.pointer (some ⟨w.heap.size + 1, 0, none⟩)]] (0, 0) _ rfl (by repeat (first | (refine at_newE' _ _ _ ?_; simp only [World.alloc, Array.size_push]; done) | apply blk_alloc)) Try.underlying73 rfl (by kernel_rfl)) rfl ?_
  simp only []
  go_at_K
  go_wp2
  refine bodyPost_ret (results_cell_row (p := 6) (ty := 73) rfl _ _ (w.heap.size + 1 + 1) 73 #[.int .i64 width, .func (.func 89) #[] #[.pointer (some ⟨w.heap.size, 0, none⟩)], .func (.func 90) #[] #[.pointer (some ⟨w.heap.size + 1, 0, none⟩)]] (0, 0) _ rfl (by repeat (first | (refine at_newE' _ _ _ ?_; simp only [World.alloc, Array.size_push]; done) | apply blk_alloc)) Try.underlying73 rfl (by kernel_rfl)) rfl ?_
  refine ⟨w.heap.size, w.heap.size + 1, rfl, by omega, by omega, ⟨?_, ?_⟩, by repeat (first | (with_reducible first | exact HB.out | apply below_alloc | apply pw_below_drewN | apply below_drew1) | exact HB.out)⟩
  all_goals repeat (first | (refine at_newE' _ _ _ ?_; simp only [World.alloc, Array.size_push]; done) | apply blk_alloc)
set_option maxHeartbeats 8000000 in
set_option maxRecDepth 100000 in
theorem widthE (width : Int) (b1 b2 : Nat) (w : World) :
    Calls Try.prog 37 #[formVE width b1 b2] w fun e w' => e = .returned (.int .i64 width) ∧ Below w.heap.size w w' := by
  have HB := Aside0.mk (Below.refl w.heap.size w)
  unfold formVE
  go_enter Try.func37, Try.ntmps37
  go_wp2
  go_ret
  exact ⟨rfl, by repeat (first | (with_reducible first | exact HB.out | apply below_alloc | apply pw_below_drewN | apply below_drew1) | exact HB.out)⟩
theorem func_nilE {P : Program} (d : Nat) {t : TypeId} {ps rs : Array TypeId} {v : Bool} (h : P.underlying t = some (.func ps rs v)) (fn : Fn) (x y : Array Value) (w : World) : (Op.equalIn (d + 1) t (.func fn x y) .nilFunc).run P w = .ok false w := by
  simp [Op.equalIn, run_underlying h]
theorem func_neE {P : Program} {t : TypeId} {ps rs : Array TypeId} {v : Bool} (h : P.underlying t = some (.func ps rs v)) (fn : Fn) (x y : Array Value) (w : World) : (binOp .neq t (.func fn x y) .nilFunc).run P w = .ok (.bool true) w := by
  simp only [binOp]
  simp [Op.equal, Op.maxDepth, func_nilE 9999 h]
def roomFE (width : Int) (n : Nat) : Int := if width < 1 ∨ 256 < width then 2 else if (n : Int) < width then 67 else 0
set_option maxHeartbeats 8000000 in
set_option maxRecDepth 100000 in
theorem roomE (width : Int) (b1 b2 : Nat) (A : Option Addr) (n c : Nat) (w : World) :
    Calls Try.prog 70 #[formVE width b1 b2, .slice A n c] w fun e w' => e = .returned (.int .i64 (roomFE width n)) ∧ Below w.heap.size w w' := by
  have HB := Aside0.mk (Below.refl w.heap.size w)
  have hn1 := func_neE Try.underlying70
  have hn2 := func_neE Try.underlying71
  unfold formVE
  go_enter Try.func70, Try.ntmps70
  by_cases c1 : 1 ≤ width
  · have b1 : decide (1 ≤ width) = true := decide_eq_true c1
    by_cases c2 : width ≤ 256
    · have b2 : decide (width ≤ 256) = true := decide_eq_true c2
      by_cases c3 : (n : Int) < width
      · have b3 : decide ((n : Int) < width) = true := decide_eq_true c3
        have e : roomFE width n = 67 := by unfold roomFE; rw [if_neg (by omega), if_pos c3]
        rw [e]
        clear c1 c2 c3 e
        go_wp2
        go_ret
        exact ⟨rfl, by repeat (first | (with_reducible first | exact HB.out | apply below_alloc | apply pw_below_drewN | apply below_drew1) | exact HB.out)⟩
      · have b3 : decide ((n : Int) < width) = false := decide_eq_false c3
        have e : roomFE width n = 0 := by unfold roomFE; rw [if_neg (by omega), if_neg c3]
        rw [e]
        clear c1 c2 c3 e
        go_wp2
        go_ret
        exact ⟨rfl, by repeat (first | (with_reducible first | exact HB.out | apply below_alloc | apply pw_below_drewN | apply below_drew1) | exact HB.out)⟩
    · have b2 : decide (width ≤ 256) = false := decide_eq_false c2
      have e : roomFE width n = 2 := by unfold roomFE; rw [if_pos (by omega)]
      rw [e]
      clear c1 c2 e
      go_wp2
      go_ret
      exact ⟨rfl, by repeat (first | (with_reducible first | exact HB.out | apply below_alloc | apply pw_below_drewN | apply below_drew1) | exact HB.out)⟩
  · have b1 : decide (1 ≤ width) = false := decide_eq_false c1
    have e : roomFE width n = 2 := by unfold roomFE; rw [if_pos (by omega)]
    rw [e]
    clear c1 e
    go_wp2
    go_ret
    exact ⟨rfl, by repeat (first | (with_reducible first | exact HB.out | apply below_alloc | apply pw_below_drewN | apply below_drew1) | exact HB.out)⟩
end ReelFormE
section ReelFormU
open Go.RowKit Go.Proofs.YtnmhfcfojbfikaaW.PrintWords Go.Proofs.YtnmhfcfojbfikaaW.PrintLast Go.Proofs.YtnmhfcfojbfikaaW.PrintMore
set_option linter.unusedVariables false
set_option linter.unusedSimpArgs false
theorem at_newU' (w : World) (o : Obj) (n : Nat) (h : n = w.heap.size) : (w.alloc o).heap[n]? = some o := by
  subst h
  exact heap_alloc_new w o
def formVU (width : Int) (b1 b2 : Nat) : Value := .agg #[.int .i64 width, .func (.func 96) #[] #[.pointer (some ⟨b1, 0, none⟩)], .func (.func 97) #[] #[.pointer (some ⟨b2, 0, none⟩)]]
/-- The two functions that the form's closures hold. -/
structure HoldsU (w : World) (b1 b2 : Nat) : Prop where
  put : w.heap[b1]? = some (.cells #[.func (.func 73) #[] #[]] 126 (0, 0))
  get : w.heap[b2]? = some (.cells #[.func (.func 74) #[] #[]] 128 (0, 0))
set_option maxHeartbeats 8000000 in
set_option maxRecDepth 100000 in
theorem formU (width : Int) (w : World) :
    Calls Try.prog 72 #[.int .i64 width, .func (.func 73) #[] #[], .func (.func 74) #[] #[]] w fun e w' => ∃ b1 b2, e = .returned (formVU width b1 b2) ∧ w.heap.size ≤ b1 ∧ w.heap.size ≤ b2 ∧ HoldsU w' b1 b2 ∧ Below w.heap.size w w' := by
  have HB := Aside0.mk (Below.refl w.heap.size w)
  have hmf : ∀ (fn : Fn) (first cap : Array Value) (w : World), (Instr.makeFunc fn first cap).run Try.prog w = .ok (.func fn first cap) w := fun _ _ _ _ => rfl
  have hst : ∀ (a : Addr) (fn : Fn) (x y : Array Value) (w : World), Sem.run Try.prog (store a (.func fn x y)) w = match w.cell? a with
      | some _ => if w.frozen? a then .halt (.unsupported (.unsafePointer "a write to bytes that a string shares")) w else .ok () (w.setCell a (.func fn x y))
      | none => match w.farStore Try.prog a (.func fn x y) (Mode.plain == .atomic) with
        | .ok (w', _) => .ok () w'
        | .error h => .halt h w := fun a fn x y w => run_store _ _ _ _ _ rfl
  go_enter Try.func72, Try.ntmps72
  go_wp2
  refine bodyPost_ret (results_cell_row (p := 6) (ty := 83) rfl _ _ (w.heap.size + 1 + 1 + 1) 83 #[.int .i64 width, .func (.func 96) #[] #[.pointer (some ⟨w.heap.size, 0, none⟩)], .func (.func 97) #[] #[.pointer (some ⟨w.heap.size + 1, 0, none⟩)]] (0, 0) _ rfl (by repeat (first | (refine at_newU' _ _ _ ?_; simp only [World.alloc, Array.size_push]; done) | apply blk_alloc)) Try.underlying83 rfl (by kernel_rfl)) rfl ?_
  simp only []
  go_at_K
  go_wp2
  refine bodyPost_ret (results_cell_row (p := 6) (ty := 83) rfl _ _ (w.heap.size + 1 + 1) 83 #[.int .i64 width, .func (.func 96) #[] #[.pointer (some ⟨w.heap.size, 0, none⟩)], .func (.func 97) #[] #[.pointer (some ⟨w.heap.size + 1, 0, none⟩)]] (0, 0) _ rfl (by repeat (first | (refine at_newU' _ _ _ ?_; simp only [World.alloc, Array.size_push]; done) | apply blk_alloc)) Try.underlying83 rfl (by kernel_rfl)) rfl ?_
  refine ⟨w.heap.size, w.heap.size + 1, rfl, by omega, by omega, ⟨?_, ?_⟩, by repeat (first | (with_reducible first | exact HB.out | apply below_alloc | apply pw_below_drewN | apply below_drew1) | exact HB.out)⟩
  all_goals repeat (first | (refine at_newU' _ _ _ ?_; simp only [World.alloc, Array.size_push]; done) | apply blk_alloc)
set_option maxHeartbeats 8000000 in
set_option maxRecDepth 100000 in
theorem widthU (width : Int) (b1 b2 : Nat) (w : World) :
    Calls Try.prog 44 #[formVU width b1 b2] w fun e w' => e = .returned (.int .i64 width) ∧ Below w.heap.size w w' := by
  have HB := Aside0.mk (Below.refl w.heap.size w)
  unfold formVU
  go_enter Try.func44, Try.ntmps44
  go_wp2
  go_ret
  exact ⟨rfl, by repeat (first | (with_reducible first | exact HB.out | apply below_alloc | apply pw_below_drewN | apply below_drew1) | exact HB.out)⟩
theorem func_nilU {P : Program} (d : Nat) {t : TypeId} {ps rs : Array TypeId} {v : Bool} (h : P.underlying t = some (.func ps rs v)) (fn : Fn) (x y : Array Value) (w : World) : (Op.equalIn (d + 1) t (.func fn x y) .nilFunc).run P w = .ok false w := by
  simp [Op.equalIn, run_underlying h]
theorem func_neU {P : Program} {t : TypeId} {ps rs : Array TypeId} {v : Bool} (h : P.underlying t = some (.func ps rs v)) (fn : Fn) (x y : Array Value) (w : World) : (binOp .neq t (.func fn x y) .nilFunc).run P w = .ok (.bool true) w := by
  simp only [binOp]
  simp [Op.equal, Op.maxDepth, func_nilU 9999 h]
def roomFU (width : Int) (n : Nat) : Int := if width < 1 ∨ 256 < width then 2 else if (n : Int) < width then 67 else 0
set_option maxHeartbeats 8000000 in
set_option maxRecDepth 100000 in
theorem roomU (width : Int) (b1 b2 : Nat) (A : Option Addr) (n c : Nat) (w : World) :
    Calls Try.prog 75 #[formVU width b1 b2, .slice A n c] w fun e w' => e = .returned (.int .i64 (roomFU width n)) ∧ Below w.heap.size w w' := by
  have HB := Aside0.mk (Below.refl w.heap.size w)
  have hn1 := func_neU Try.underlying80
  have hn2 := func_neU Try.underlying81
  unfold formVU
  go_enter Try.func75, Try.ntmps75
  by_cases c1 : 1 ≤ width
  · have b1 : decide (1 ≤ width) = true := decide_eq_true c1
    by_cases c2 : width ≤ 256
    · have b2 : decide (width ≤ 256) = true := decide_eq_true c2
      by_cases c3 : (n : Int) < width
      · have b3 : decide ((n : Int) < width) = true := decide_eq_true c3
        have e : roomFU width n = 67 := by unfold roomFU; rw [if_neg (by omega), if_pos c3]
        rw [e]
        clear c1 c2 c3 e
        go_wp2
        go_ret
        exact ⟨rfl, by repeat (first | (with_reducible first | exact HB.out | apply below_alloc | apply pw_below_drewN | apply below_drew1) | exact HB.out)⟩
      · have b3 : decide ((n : Int) < width) = false := decide_eq_false c3
        have e : roomFU width n = 0 := by unfold roomFU; rw [if_neg (by omega), if_neg c3]
        rw [e]
        clear c1 c2 c3 e
        go_wp2
        go_ret
        exact ⟨rfl, by repeat (first | (with_reducible first | exact HB.out | apply below_alloc | apply pw_below_drewN | apply below_drew1) | exact HB.out)⟩
    · have b2 : decide (width ≤ 256) = false := decide_eq_false c2
      have e : roomFU width n = 2 := by unfold roomFU; rw [if_pos (by omega)]
      rw [e]
      clear c1 c2 e
      go_wp2
      go_ret
      exact ⟨rfl, by repeat (first | (with_reducible first | exact HB.out | apply below_alloc | apply pw_below_drewN | apply below_drew1) | exact HB.out)⟩
  · have b1 : decide (1 ≤ width) = false := decide_eq_false c1
    have e : roomFU width n = 2 := by unfold roomFU; rw [if_pos (by omega)]
    rw [e]
    clear c1 e
    go_wp2
    go_ret
    exact ⟨rfl, by repeat (first | (with_reducible first | exact HB.out | apply below_alloc | apply pw_below_drewN | apply below_drew1) | exact HB.out)⟩
end ReelFormU
section ReelFormS
open Go.RowKit Go.Proofs.YtnmhfcfojbfikaaW.PrintWords Go.Proofs.YtnmhfcfojbfikaaW.PrintLast Go.Proofs.YtnmhfcfojbfikaaW.PrintMore
set_option linter.unusedVariables false
set_option linter.unusedSimpArgs false
theorem at_newS' (w : World) (o : Obj) (n : Nat) (h : n = w.heap.size) : (w.alloc o).heap[n]? = some o := by
  subst h
  exact heap_alloc_new w o
def formVS (width : Int) (b1 b2 : Nat) : Value := .agg #[.int .i64 width, .func (.func 100) #[] #[.pointer (some ⟨b1, 0, none⟩)], .func (.func 101) #[] #[.pointer (some ⟨b2, 0, none⟩)]]
/-- The two functions that the form's closures hold. -/
structure HoldsS (w : World) (b1 b2 : Nat) : Prop where
  put : w.heap[b1]? = some (.cells #[.func (.func 77) #[] #[]] 131 (0, 0))
  get : w.heap[b2]? = some (.cells #[.func (.func 78) #[] #[]] 133 (0, 0))
set_option maxHeartbeats 8000000 in
set_option maxRecDepth 100000 in
theorem formS (width : Int) (w : World) :
    Calls Try.prog 76 #[.int .i64 width, .func (.func 77) #[] #[], .func (.func 78) #[] #[]] w fun e w' => ∃ b1 b2, e = .returned (formVS width b1 b2) ∧ w.heap.size ≤ b1 ∧ w.heap.size ≤ b2 ∧ HoldsS w' b1 b2 ∧ Below w.heap.size w w' := by
  have HB := Aside0.mk (Below.refl w.heap.size w)
  have hmf : ∀ (fn : Fn) (first cap : Array Value) (w : World), (Instr.makeFunc fn first cap).run Try.prog w = .ok (.func fn first cap) w := fun _ _ _ _ => rfl
  have hst : ∀ (a : Addr) (fn : Fn) (x y : Array Value) (w : World), Sem.run Try.prog (store a (.func fn x y)) w = match w.cell? a with
      | some _ => if w.frozen? a then .halt (.unsupported (.unsafePointer "a write to bytes that a string shares")) w else .ok () (w.setCell a (.func fn x y))
      | none => match w.farStore Try.prog a (.func fn x y) (Mode.plain == .atomic) with
        | .ok (w', _) => .ok () w'
        | .error h => .halt h w := fun a fn x y w => run_store _ _ _ _ _ rfl
  go_enter Try.func76, Try.ntmps76
  go_wp2
  refine bodyPost_ret (results_cell_row (p := 6) (ty := 92) rfl _ _ (w.heap.size + 1 + 1 + 1) 92 #[.int .i64 width, .func (.func 100) #[] #[.pointer (some ⟨w.heap.size, 0, none⟩)], .func (.func 101) #[] #[.pointer (some ⟨w.heap.size + 1, 0, none⟩)]] (0, 0) _ rfl (by repeat (first | (refine at_newS' _ _ _ ?_; simp only [World.alloc, Array.size_push]; done) | apply blk_alloc)) Try.underlying92 rfl (by kernel_rfl)) rfl ?_
  simp only []
  go_at_K
  go_wp2
  refine bodyPost_ret (results_cell_row (p := 6) (ty := 92) rfl _ _ (w.heap.size + 1 + 1) 92 #[.int .i64 width, .func (.func 100) #[] #[.pointer (some ⟨w.heap.size, 0, none⟩)], .func (.func 101) #[] #[.pointer (some ⟨w.heap.size + 1, 0, none⟩)]] (0, 0) _ rfl (by repeat (first | (refine at_newS' _ _ _ ?_; simp only [World.alloc, Array.size_push]; done) | apply blk_alloc)) Try.underlying92 rfl (by kernel_rfl)) rfl ?_
  refine ⟨w.heap.size, w.heap.size + 1, rfl, by omega, by omega, ⟨?_, ?_⟩, by repeat (first | (with_reducible first | exact HB.out | apply below_alloc | apply pw_below_drewN | apply below_drew1) | exact HB.out)⟩
  all_goals repeat (first | (refine at_newS' _ _ _ ?_; simp only [World.alloc, Array.size_push]; done) | apply blk_alloc)
set_option maxHeartbeats 8000000 in
set_option maxRecDepth 100000 in
theorem widthS (width : Int) (b1 b2 : Nat) (w : World) :
    Calls Try.prog 47 #[formVS width b1 b2] w fun e w' => e = .returned (.int .i64 width) ∧ Below w.heap.size w w' := by
  have HB := Aside0.mk (Below.refl w.heap.size w)
  unfold formVS
  go_enter Try.func47, Try.ntmps47
  go_wp2
  go_ret
  exact ⟨rfl, by repeat (first | (with_reducible first | exact HB.out | apply below_alloc | apply pw_below_drewN | apply below_drew1) | exact HB.out)⟩
theorem func_nilS {P : Program} (d : Nat) {t : TypeId} {ps rs : Array TypeId} {v : Bool} (h : P.underlying t = some (.func ps rs v)) (fn : Fn) (x y : Array Value) (w : World) : (Op.equalIn (d + 1) t (.func fn x y) .nilFunc).run P w = .ok false w := by
  simp [Op.equalIn, run_underlying h]
theorem func_neS {P : Program} {t : TypeId} {ps rs : Array TypeId} {v : Bool} (h : P.underlying t = some (.func ps rs v)) (fn : Fn) (x y : Array Value) (w : World) : (binOp .neq t (.func fn x y) .nilFunc).run P w = .ok (.bool true) w := by
  simp only [binOp]
  simp [Op.equal, Op.maxDepth, func_nilS 9999 h]
def roomFS (width : Int) (n : Nat) : Int := if width < 1 ∨ 256 < width then 2 else if (n : Int) < width then 67 else 0
set_option maxHeartbeats 8000000 in
set_option maxRecDepth 100000 in
theorem roomS (width : Int) (b1 b2 : Nat) (A : Option Addr) (n c : Nat) (w : World) :
    Calls Try.prog 79 #[formVS width b1 b2, .slice A n c] w fun e w' => e = .returned (.int .i64 (roomFS width n)) ∧ Below w.heap.size w w' := by
  have HB := Aside0.mk (Below.refl w.heap.size w)
  have hn1 := func_neS Try.underlying89
  have hn2 := func_neS Try.underlying90
  unfold formVS
  go_enter Try.func79, Try.ntmps79
  by_cases c1 : 1 ≤ width
  · have b1 : decide (1 ≤ width) = true := decide_eq_true c1
    by_cases c2 : width ≤ 256
    · have b2 : decide (width ≤ 256) = true := decide_eq_true c2
      by_cases c3 : (n : Int) < width
      · have b3 : decide ((n : Int) < width) = true := decide_eq_true c3
        have e : roomFS width n = 67 := by unfold roomFS; rw [if_neg (by omega), if_pos c3]
        rw [e]
        clear c1 c2 c3 e
        go_wp2
        go_ret
        exact ⟨rfl, by repeat (first | (with_reducible first | exact HB.out | apply below_alloc | apply pw_below_drewN | apply below_drew1) | exact HB.out)⟩
      · have b3 : decide ((n : Int) < width) = false := decide_eq_false c3
        have e : roomFS width n = 0 := by unfold roomFS; rw [if_neg (by omega), if_neg c3]
        rw [e]
        clear c1 c2 c3 e
        go_wp2
        go_ret
        exact ⟨rfl, by repeat (first | (with_reducible first | exact HB.out | apply below_alloc | apply pw_below_drewN | apply below_drew1) | exact HB.out)⟩
    · have b2 : decide (width ≤ 256) = false := decide_eq_false c2
      have e : roomFS width n = 2 := by unfold roomFS; rw [if_pos (by omega)]
      rw [e]
      clear c1 c2 e
      go_wp2
      go_ret
      exact ⟨rfl, by repeat (first | (with_reducible first | exact HB.out | apply below_alloc | apply pw_below_drewN | apply below_drew1) | exact HB.out)⟩
  · have b1 : decide (1 ≤ width) = false := decide_eq_false c1
    have e : roomFS width n = 2 := by unfold roomFS; rw [if_pos (by omega)]
    rw [e]
    clear c1 e
    go_wp2
    go_ret
    exact ⟨rfl, by repeat (first | (with_reducible first | exact HB.out | apply below_alloc | apply pw_below_drewN | apply below_drew1) | exact HB.out)⟩
end ReelFormS
section ReelPutE
open Go.RowKit Go.Proofs.YtnmhfcfojbfikaaW.PrintWords Go.Proofs.YtnmhfcfojbfikaaW.PrintLast Go.Proofs.YtnmhfcfojbfikaaW.PrintMore
set_option linter.unusedVariables false
set_option linter.unusedSimpArgs false
open QPut (grain_lay.go grain_lay.step grain_lay.len)
set_option maxHeartbeats 4000000 in
set_option maxRecDepth 100000 in
theorem putE (hO : LenOk) (g n c b1 : Nat) (s d u : Int) (ys : List Int) (w : World) (ho0 : At8 5 w g ys) (hb : w.heap[b1]? = some (.cells #[.func (.func 68) #[] #[]] 120 (0, 0))) (hn : n = 8 ∨ n = 12) (hny : n ≤ ys.length) (hc : n ≤ c) (s0 : 0 ≤ s) (s1 : s < 4294967296) (d0 : 0 ≤ d) (d1 : d < 4294967296) (u0 : 0 ≤ u) (u1 : u < 4294967296) :
    Calls Try.prog 89 #[.slice (some ⟨g, 0, none⟩) n c, .agg #[.int .u32 s, .int .u32 d, .int .u32 u], .pointer (some ⟨b1, 0, none⟩)] w fun e w' => e = .returned (.tuple #[]) ∧ At8 5 w' g (edgeB n s d u ys) ∧ Onl (fun k => k = g) w w' := by
  have hc1 := blk_cell (blk_alloc hb (.cells #[.int .u32 s, .int .u32 d, .int .u32 u] 64)) 0
  have HG := Aside0.mk (ho0.alloc (.cells #[.int .u32 s, .int .u32 d, .int .u32 u] 64))
  have HL := Aside0.mk ho0.lt
  have HN := Aside0.mk hn
  have HC := Aside0.mk hc
  have HY := Aside0.mk hny
  have HB := Aside0.mk ((Onl.refl (fun k => k = g) w).below (below_alloc (Below.refl _ _) (.cells #[.int .u32 s, .int .u32 d, .int .u32 u] 64)))
  clear ho0 hn hc hb hny
  go_enter Try.func89, Try.ntmps89
  go_wp2_with (go_at_call 68; refine (edgeR hO g n c s d u ys _ HG.out HN.out HY.out HC.out s0 s1 d0 d1 u0 u1).mono ?_; rintro e w1 ⟨rfl, h1, h2⟩; have H1 := Aside0.mk h1; have H2 := Aside0.mk (HB.out.trans h2); clear h1 h2 HB HG)
  go_end0
  exact ⟨rfl, H1.out, H2.out⟩
set_option maxHeartbeats 4000000 in
set_option maxRecDepth 100000 in
theorem putU (hO : LenOk) (g c b1 : Nat) (s d u : Int) (ys : List Int) (w : World) (ho0 : At8 5 w g ys) (hb : w.heap[b1]? = some (.cells #[.func (.func 73) #[] #[]] 126 (0, 0))) (hny : 20 ≤ ys.length) (hc : 20 ≤ c) (s0 : 0 ≤ s) (s1 : s < 4294967296) (d0 : 0 ≤ d) (d1 : d < 18446744073709551616) (u0 : 0 ≤ u) (u1 : u < 18446744073709551616) :
    Calls Try.prog 96 #[.slice (some ⟨g, 0, none⟩) 20 c, .agg #[.int .u32 s, .int .u64 d, .int .u64 u], .pointer (some ⟨b1, 0, none⟩)] w fun e w' => e = .returned (.tuple #[]) ∧ At8 5 w' g (updB s d u ys) ∧ Onl (fun k => k = g) w w' := by
  have hc1 := blk_cell (blk_alloc hb (.cells #[.int .u32 s, .int .u64 d, .int .u64 u] 67)) 0
  have HG := Aside0.mk (ho0.alloc (.cells #[.int .u32 s, .int .u64 d, .int .u64 u] 67))
  have HC := Aside0.mk hc
  have HY := Aside0.mk hny
  have HB := Aside0.mk ((Onl.refl (fun k => k = g) w).below (below_alloc (Below.refl _ _) (.cells #[.int .u32 s, .int .u64 d, .int .u64 u] 67)))
  clear ho0 hc hb hny
  go_enter Try.func96, Try.ntmps96
  go_wp2_with (go_at_call 73; refine (updateR hO g c s d u ys _ HG.out HY.out HC.out s0 s1 d0 d1 u0 u1).mono ?_; rintro e w1 ⟨rfl, h1, h2⟩; have H1 := Aside0.mk h1; have H2 := Aside0.mk (HB.out.trans h2); clear h1 h2 HB HG)
  go_end0
  exact ⟨rfl, H1.out, H2.out⟩
set_option maxHeartbeats 4000000 in
set_option maxRecDepth 100000 in
theorem getE8 (g c b2 : Nat) (ys : List Int) (w : World) (ho0 : At8 5 w g ys) (hb : w.heap[b2]? = some (.cells #[.func (.func 69) #[] #[]] 122 (0, 0))) (hny : 8 ≤ ys.length) (hy : ys.length ≤ 1000000) (hc : 8 ≤ c) :
    Calls Try.prog 90 #[.slice (some ⟨g, 0, none⟩) 8 c, .pointer (some ⟨b2, 0, none⟩)] w fun e w' => e = .returned (.agg #[.int .u32 (QGet.grain_Get.go (ys.take 8) 0 4 % 4294967296), .int .u32 (QGet.grain_Get.go (ys.take 8) 4 4 % 4294967296), .int .u32 0]) ∧ Below w.heap.size w w' := by
  have hc1 := blk_cell (blk_alloc hb (.cells #[.int .u32 0, .int .u32 0, .int .u32 0] 64)) 0
  have HG := Aside0.mk (ho0.alloc (.cells #[.int .u32 0, .int .u32 0, .int .u32 0] 64))
  have HE := Aside0.mk (heap_alloc_new w (.cells #[.int .u32 0, .int .u32 0, .int .u32 0] 64))
  have HB := Aside0.mk ((Onl.refl (fun k => w.heap.size ≤ k) w).below (below_alloc (Below.refl _ _) (.cells #[.int .u32 0, .int .u32 0, .int .u32 0] 64)))
  have HC := Aside0.mk hc
  have HY := Aside0.mk hny
  clear ho0 hc hb hny
  go_enter Try.func90, Try.ntmps90
  go_wp2_with (go_at_call 69; refine (edgeBack8 g c ys _ HG.out HY.out hy HC.out).mono ?_; rintro e w1 ⟨rfl, h2⟩; have H2 := Aside0.mk (HB.out.below h2); have H3 := Aside0.mk (blk_below HE.out h2); clear h2 HB HG HE; have he0 := blk_cell H3.out 0; have he1 := blk_cell H3.out 1; have he2 := blk_cell H3.out 2; have hf0 := blk_frozen H3.out 0; have hf1 := blk_frozen H3.out 1; have hf2 := blk_frozen H3.out 2)
  have hB1 := (((H2.out.set (Nat.le_refl w.heap.size) 0 (.int .u32 (QGet.grain_Get.go (ys.take 8) 0 4 % 4294967296))).set (Nat.le_refl w.heap.size) 1 (.int .u32 (QGet.grain_Get.go (ys.take 8) 4 4 % 4294967296))).set (Nat.le_refl w.heap.size) 2 (.int .u32 0))
  have hE1 := (blk_put (blk_put (blk_put H3.out 0 (.int .u32 (QGet.grain_Get.go (ys.take 8) 0 4 % 4294967296)) rfl) 1 (.int .u32 (QGet.grain_Get.go (ys.take 8) 4 4 % 4294967296)) rfl) 2 (.int .u32 0) rfl)
  refine bodyPost_ret (results_cell_row (p := 3) (ty := 64) rfl _ _ (w.heap.size) 64 _ (0, 0) _ rfl hE1 Try.underlying64 rfl (by kernel_rfl)) rfl ?_
  exact ⟨rfl, hB1.fresh⟩
set_option maxHeartbeats 4000000 in
set_option maxRecDepth 100000 in
theorem getE12 (g c b2 : Nat) (ys : List Int) (w : World) (ho0 : At8 5 w g ys) (hb : w.heap[b2]? = some (.cells #[.func (.func 69) #[] #[]] 122 (0, 0))) (hny : 12 ≤ ys.length) (hy : ys.length ≤ 1000000) (hc : 12 ≤ c) :
    Calls Try.prog 90 #[.slice (some ⟨g, 0, none⟩) 12 c, .pointer (some ⟨b2, 0, none⟩)] w fun e w' => e = .returned (.agg #[.int .u32 (QGet.grain_Get.go (ys.take 12) 0 4 % 4294967296), .int .u32 (QGet.grain_Get.go (ys.take 12) 4 4 % 4294967296), .int .u32 (QGet.grain_Get.go (ys.take 12) 8 4 % 4294967296)]) ∧ Below w.heap.size w w' := by
  have hc1 := blk_cell (blk_alloc hb (.cells #[.int .u32 0, .int .u32 0, .int .u32 0] 64)) 0
  have HG := Aside0.mk (ho0.alloc (.cells #[.int .u32 0, .int .u32 0, .int .u32 0] 64))
  have HE := Aside0.mk (heap_alloc_new w (.cells #[.int .u32 0, .int .u32 0, .int .u32 0] 64))
  have HB := Aside0.mk ((Onl.refl (fun k => w.heap.size ≤ k) w).below (below_alloc (Below.refl _ _) (.cells #[.int .u32 0, .int .u32 0, .int .u32 0] 64)))
  have HC := Aside0.mk hc
  have HY := Aside0.mk hny
  clear ho0 hc hb hny
  go_enter Try.func90, Try.ntmps90
  go_wp2_with (go_at_call 69; refine (edgeBack12 g c ys _ HG.out HY.out hy HC.out).mono ?_; rintro e w1 ⟨rfl, h2⟩; have H2 := Aside0.mk (HB.out.below h2); have H3 := Aside0.mk (blk_below HE.out h2); clear h2 HB HG HE; have he0 := blk_cell H3.out 0; have he1 := blk_cell H3.out 1; have he2 := blk_cell H3.out 2; have hf0 := blk_frozen H3.out 0; have hf1 := blk_frozen H3.out 1; have hf2 := blk_frozen H3.out 2)
  have hB1 := (((H2.out.set (Nat.le_refl w.heap.size) 0 (.int .u32 (QGet.grain_Get.go (ys.take 12) 0 4 % 4294967296))).set (Nat.le_refl w.heap.size) 1 (.int .u32 (QGet.grain_Get.go (ys.take 12) 4 4 % 4294967296))).set (Nat.le_refl w.heap.size) 2 (.int .u32 (QGet.grain_Get.go (ys.take 12) 8 4 % 4294967296)))
  have hE1 := (blk_put (blk_put (blk_put H3.out 0 (.int .u32 (QGet.grain_Get.go (ys.take 12) 0 4 % 4294967296)) rfl) 1 (.int .u32 (QGet.grain_Get.go (ys.take 12) 4 4 % 4294967296)) rfl) 2 (.int .u32 (QGet.grain_Get.go (ys.take 12) 8 4 % 4294967296)) rfl)
  refine bodyPost_ret (results_cell_row (p := 3) (ty := 64) rfl _ _ (w.heap.size) 64 _ (0, 0) _ rfl hE1 Try.underlying64 rfl (by kernel_rfl)) rfl ?_
  exact ⟨rfl, hB1.fresh⟩
end ReelPutE
section ReelGetU
open Go.RowKit Go.Proofs.YtnmhfcfojbfikaaW.PrintWords Go.Proofs.YtnmhfcfojbfikaaW.PrintLast Go.Proofs.YtnmhfcfojbfikaaW.PrintMore
set_option linter.unusedVariables false
set_option linter.unusedSimpArgs false
set_option maxHeartbeats 4000000 in
set_option maxRecDepth 100000 in
theorem getU (g c b2 : Nat) (ys : List Int) (w : World) (ho0 : At8 5 w g ys) (hb : w.heap[b2]? = some (.cells #[.func (.func 74) #[] #[]] 128 (0, 0))) (hny : 20 ≤ ys.length) (hy : ys.length ≤ 1000000) (hc : 20 ≤ c) :
    Calls Try.prog 97 #[.slice (some ⟨g, 0, none⟩) 20 c, .pointer (some ⟨b2, 0, none⟩)] w fun e w' => e = .returned (.agg #[.int .u32 (IntKind.u32.wrap (QGet.grain_Get.go (ys.take 20) 0 4)), .int .u64 (QGet.grain_Get.go (ys.take 20) 4 8), .int .u64 (QGet.grain_Get.go (ys.take 20) 12 8)]) ∧ Below w.heap.size w w' := by
  have hc1 := blk_cell (blk_alloc hb (.cells #[.int .u32 0, .int .u64 0, .int .u64 0] 67)) 0
  have HG := Aside0.mk (ho0.alloc (.cells #[.int .u32 0, .int .u64 0, .int .u64 0] 67))
  have HE := Aside0.mk (heap_alloc_new w (.cells #[.int .u32 0, .int .u64 0, .int .u64 0] 67))
  have HB := Aside0.mk ((Onl.refl (fun k => w.heap.size ≤ k) w).below (below_alloc (Below.refl _ _) (.cells #[.int .u32 0, .int .u64 0, .int .u64 0] 67)))
  have HC := Aside0.mk hc
  have HY := Aside0.mk hny
  clear ho0 hc hb hny
  go_enter Try.func97, Try.ntmps97
  go_wp2_with (go_at_call 74; refine (updateBackR g c ys _ HG.out HY.out hy HC.out).mono ?_; rintro e w1 ⟨rfl, h2⟩; have H2 := Aside0.mk (HB.out.below h2); have H3 := Aside0.mk (blk_below HE.out h2); clear h2 HB HG HE; have he0 := blk_cell H3.out 0; have he1 := blk_cell H3.out 1; have he2 := blk_cell H3.out 2; have hf0 := blk_frozen H3.out 0; have hf1 := blk_frozen H3.out 1; have hf2 := blk_frozen H3.out 2)
  have hB1 := (((H2.out.set (Nat.le_refl w.heap.size) 0 (.int .u32 (IntKind.u32.wrap (QGet.grain_Get.go (ys.take 20) 0 4)))).set (Nat.le_refl w.heap.size) 1 (.int .u64 (QGet.grain_Get.go (ys.take 20) 4 8))).set (Nat.le_refl w.heap.size) 2 (.int .u64 (QGet.grain_Get.go (ys.take 20) 12 8)))
  have hE1 := (blk_put (blk_put (blk_put H3.out 0 (.int .u32 (IntKind.u32.wrap (QGet.grain_Get.go (ys.take 20) 0 4))) rfl) 1 (.int .u64 (QGet.grain_Get.go (ys.take 20) 4 8)) rfl) 2 (.int .u64 (QGet.grain_Get.go (ys.take 20) 12 8)) rfl)
  refine bodyPost_ret (results_cell_row (p := 3) (ty := 67) rfl _ _ (w.heap.size) 67 _ (0, 0) _ rfl hE1 Try.underlying67 rfl (by kernel_rfl)) rfl ?_
  exact ⟨rfl, hB1.fresh⟩
end ReelGetU
section ReelFail
open Go.RowKit Go.Proofs.YtnmhfcfojbfikaaW.PrintWords Go.Proofs.YtnmhfcfojbfikaaW.PrintLast Go.Proofs.YtnmhfcfojbfikaaW.PrintMore
set_option linter.unusedVariables false
set_option linter.unusedSimpArgs false
set_option maxHeartbeats 8000000 in
set_option maxRecDepth 100000 in
theorem layFailE (width : Int) (b1 b2 n c : Nat) (A : Option Addr) (s d u : Int) (w : World) (x : Int) (h0 : roomFE width n = x) (hx : x = 2 ∨ x = 67) :
    Calls Try.prog 36 #[formVE width b1 b2, .slice A n c, .agg #[.int .u32 s, .int .u32 d, .int .u32 u]] w fun e w' => e = .returned (.int .i64 x) ∧ Below w.heap.size w w' := by
  have H0 := Aside0.mk h0
  clear h0
  have HB := Aside0.mk (Below.refl w.heap.size w)
  unfold formVE
  go_enter Try.func36, Try.ntmps36
  go_upto_region 2 with (go_at_call 70; refine (roomE width b1 b2 _ n c _).mono ?_; rintro e wc ⟨rfl, hb⟩; rw [H0.out]; have n0_ := Aside0.mk (below_step (below_alloc (below_alloc HB.out _) _) hb); clear HB hb; have HB := n0_; clear n0_)
  rcases hx with rfl | rfl
  all_goals
    go_wp2
    go_ret
    exact ⟨rfl, by repeat (first | (with_reducible first | exact HB.out | apply below_alloc | apply pw_below_drewN | apply below_drew1) | exact HB.out)⟩
set_option maxHeartbeats 8000000 in
set_option maxRecDepth 100000 in
theorem layFailU (width : Int) (b1 b2 n c : Nat) (A : Option Addr) (s d u : Int) (w : World) (x : Int) (h0 : roomFU width n = x) (hx : x = 2 ∨ x = 67) :
    Calls Try.prog 41 #[formVU width b1 b2, .slice A n c, .agg #[.int .u32 s, .int .u64 d, .int .u64 u]] w fun e w' => e = .returned (.int .i64 x) ∧ Below w.heap.size w w' := by
  have H0 := Aside0.mk h0
  clear h0
  have HB := Aside0.mk (Below.refl w.heap.size w)
  unfold formVU
  go_enter Try.func41, Try.ntmps41
  go_upto_region 2 with (go_at_call 75; refine (roomU width b1 b2 _ n c _).mono ?_; rintro e wc ⟨rfl, hb⟩; rw [H0.out]; have n0_ := Aside0.mk (below_step (below_alloc (below_alloc HB.out _) _) hb); clear HB hb; have HB := n0_; clear n0_)
  rcases hx with rfl | rfl
  all_goals
    go_wp2
    go_ret
    exact ⟨rfl, by repeat (first | (with_reducible first | exact HB.out | apply below_alloc | apply pw_below_drewN | apply below_drew1) | exact HB.out)⟩
end ReelFail
section ReelLay
open Go.RowKit Go.Proofs.YtnmhfcfojbfikaaW.PrintWords Go.Proofs.YtnmhfcfojbfikaaW.PrintLast Go.Proofs.YtnmhfcfojbfikaaW.PrintMore
set_option linter.unusedVariables false
set_option linter.unusedSimpArgs false
open QPut (grain_lay.go grain_lay.step grain_lay.len)
theorem cut_all {P : Program} (t e : TypeId) (kh km : IntKind) {i : TypeInfo} (ht : P.underlying t = some (.slice e)) (hi : P.info? e = some i) (A : Option Addr) (n c : Nat) (j : Int) (h0 : 0 ≤ j) (hm : j ≤ n) (hc : n ≤ c) :
    ∀ W : World, (Instr.slice t (.slice A n c) none (some (.int kh j)) (some (.int km j))).run P W = .ok (.slice A j.toNat j.toNat) W := by
  intro W
  have hel : P.elem t = e := by simp [Program.elem, ht]
  have hu : P.underlying t = some (.slice (P.elem t)) := by rw [hel]; exact ht
  have ha : (A.map fun x => x.add 0) = A := by cases A <;> simp [Addr.add]
  have h1 : j ≤ c := by omega
  simp [Instr.slice, run_underlying ht, Instr.sliceBounds, Instr.sliceBound, asIntOf, h0, h1, sizeOf, typeInfo, hi, go_sem, ha]
  intro h
  omega
section
variable {P : Program} {ops : Array Oper} {Q : Exit → Act → World → Prop}
/-- A call of a function value with what it captured. -/
theorem goesV_ {oi : Oper} {N : Option Tmp} {a : Act} {w : World} {K : Act → World → Prop} {f : FuncId} {fn : Func} {p : Tmp} {first cap : Array Value} {ar : Array Operand} {ts : Array TypeId} (hf : P.funcs[f]? = some fn) (hname : (fn.name == "runtime.NumGoroutine") = false) (hb : fn.body.isSome = true) (args : Array Value)
    (hw : Region.wanted oi (yielded ops a.tmps) = true) (hN : oi.dst = N) (hop : oi.op = .call { callee := .value (.tmp p), args := ar, argTypes := ts }) (hp : a.eval (.tmp p) = .func (.func f) first cap) (hargs : first ++ ar.map a.eval ++ cap = args)
    (h : Calls P f args w fun e w' => ∃ v, e = .returned v ∧ K (a.put N v) w') : if Region.wanted oi (yielded ops a.tmps) = true then Oper.wp P oi a w K Q else K (a.put N undef) w := by
  refine call_ f args hw hN ?_ h
  have he := enters_ hf hname hb args w
  unfold execOp
  simp [hop, resolve, Deferred.ofValue, invoke, hp, hargs, he]
end
set_option maxHeartbeats 8000000 in
set_option maxRecDepth 100000 in
theorem layE (hO : LenOk) (width : Int) (b1 b2 g n c : Nat) (s d u : Int) (ys : List Int) (w : World) (hH : HoldsE w b1 b2) (hg : At8 5 w g ys) (hfit : n ≤ ys.length) (hc : n ≤ c) (h0 : roomFE width n = 0) (hwd : width = 8 ∨ width = 12) (s0 : 0 ≤ s) (s1 : s < 4294967296) (d0 : 0 ≤ d) (d1 : d < 4294967296) (u0 : 0 ≤ u) (u1 : u < 4294967296) :
    Calls Try.prog 36 #[formVE width b1 b2, .slice (some ⟨g, 0, none⟩) n c, .agg #[.int .u32 s, .int .u32 d, .int .u32 u]] w fun e w' => e = .returned (.int .i64 0) ∧ At8 5 w' g (edgeB width.toNat s d u ys) ∧ Onl (fun k => k = g) w w' := by
  have hw1 : 1 ≤ width ∧ width ≤ 256 ∧ width ≤ n := by
    unfold roomFE at h0
    split at h0
    · cases h0
    · split at h0
      · cases h0
      · omega
  have HW := Aside0.mk hw1
  have HH := Aside0.mk hH
  have HG := Aside0.mk hg
  have HF := Aside0.mk hfit
  have HC := Aside0.mk hc
  have H0 := Aside0.mk h0
  have HWD := Aside0.mk hwd
  clear hg hfit hc hH h0 hw1 hwd
  have HB := Aside0.mk (Below.refl w.heap.size w)
  have hbx := blk_alloc (at_newE' w (.cells #[.int .i64 width, .func (.func 89) #[] #[.pointer (some ⟨b1, 0, none⟩)], .func (.func 90) #[] #[.pointer (some ⟨b2, 0, none⟩)]] 73 (0, 0)) w.heap.size rfl) (.cells #[.int .u32 s, .int .u32 d, .int .u32 u] 64 (0, 0))
  have hby := at_newE' (w.alloc (.cells #[.int .i64 width, .func (.func 89) #[] #[.pointer (some ⟨b1, 0, none⟩)], .func (.func 90) #[] #[.pointer (some ⟨b2, 0, none⟩)]] 73 (0, 0))) (.cells #[.int .u32 s, .int .u32 d, .int .u32 u] 64 (0, 0)) (w.heap.size + 1) (by rw [World.size_alloc])
  have hbx0 := blk_cell hbx 0
  have hby0 := blk_cell hby 0
  unfold formVE
  obtain ⟨i5, hi5, _, _, _⟩ := info_parts info5
  have hct := cut_all (P := Try.prog) 44 5 .i64 .i64 Try.underlying44 hi5 (some ⟨g, 0, none⟩) n c width (by have := HW.out; omega) (by have := HW.out; omega) HC.out
  go_enter Try.func36, Try.ntmps36
  go_upto_region 2 with (go_at_call 70; refine (roomE width b1 b2 _ n c _).mono ?_; rintro e wc ⟨rfl, hb⟩; rw [H0.out]; have HX := Aside0.mk (blk_below hbx hb); have HX2 := Aside0.mk (blk_below hby hb); have n0_ := Aside0.mk (below_step (below_alloc (below_alloc HB.out _) _) hb); clear HB hb; have HB := n0_; clear n0_)
  go_upto_region 4 with (fail)
  refine start_ (n := 10) (S := fun w' => w'.cell? ⟨w.heap.size, 0, none⟩ = some (.int .i64 width) ∧ w'.cell? ⟨w.heap.size, 1, none⟩ = some (.func (.func 89) #[] #[.pointer (some ⟨b1, 0, none⟩)]) ∧ w'.cell? ⟨w.heap.size + 1, 0, none⟩ = some (.int .u32 s) ∧ w'.cell? ⟨w.heap.size + 1, 1, none⟩ = some (.int .u32 d) ∧ w'.cell? ⟨w.heap.size + 1, 2, none⟩ = some (.int .u32 u) ∧ Below w.heap.size w w') (ds := [9]) #[false, false, false, false, false, false, false, false, false, false] (by kernel_rfl) rfl rfl ⟨(blk_cell HX.out 0), (blk_cell HX.out 1), (blk_cell HX2.out 0), (blk_cell HX2.out 1), (blk_cell HX2.out 2), (below_drew1 HB.out)⟩ (fun hHeld => ?_)
  refine pure_ (i := 0) (N := some 14) (v := ?_) (a' := ?_) #[true, false, false, false, false, false, false, false, false, false] rfl rfl (by kernel_rfl) (fun _ _ _ h => h) (Or.inl ⟨by rfl, ?_⟩) ?_ ?_
  rotate_left
  · intro w'
    go_simp
    with_reducible rfl
  rotate_left
  · simp only [Act.put, List.setIfInBounds_toArray, List.set_cons_zero, List.set_cons_succ, i64_w, i32_w]
    rfl
  refine pure_ (i := 2) (N := some 16) (v := ?_) (a' := ?_) #[true, false, true, false, false, false, false, false, false, false] rfl rfl (by kernel_rfl) (fun _ _ _ h => h) (Or.inl ⟨by rfl, ?_⟩) ?_ ?_
  rotate_left
  · intro w'
    go_simp
    with_reducible rfl
  rotate_left
  · simp only [Act.put, List.setIfInBounds_toArray, List.set_cons_zero, List.set_cons_succ, i64_w, i32_w]
    rfl
  refine pure_ (i := 3) (N := some 17) (v := ?_) (a' := ?_) #[true, false, true, true, false, false, false, false, false, false] rfl rfl (by kernel_rfl) (fun _ _ _ h => h) (Or.inl ⟨by rfl, ?_⟩) ?_ ?_
  rotate_left
  · intro w'
    go_simp
    with_reducible rfl
  rotate_left
  · simp only [Act.put, List.setIfInBounds_toArray, List.set_cons_zero, List.set_cons_succ, i64_w, i32_w]
    rfl
  refine pure_ (i := 5) (N := some 19) (v := ?_) (a' := ?_) #[true, false, true, true, false, true, false, false, false, false] rfl rfl (by kernel_rfl) (fun _ _ _ h => h) (Or.inl ⟨by rfl, ?_⟩) ?_ ?_
  rotate_left
  · intro w'
    go_simp
    with_reducible rfl
  rotate_left
  · simp only [Act.put, List.setIfInBounds_toArray, List.set_cons_zero, List.set_cons_succ, i64_w, i32_w]
    rfl
  refine take_ (i := 1) (N := some 15) (v := ?_) (a' := ?_) #[true, true, true, true, false, true, false, false, false, false] rfl rfl (by kernel_rfl) (fun _ _ _ h => h) (Or.inl ⟨by rfl, ?_⟩) hHeld ?_ ?_
  rotate_left
  · rintro w' ⟨s0, s1, s2, s3, s4, s5⟩
    go_simp
    with_reducible rfl
  rotate_left
  · simp only [Act.put, List.setIfInBounds_toArray, List.set_cons_zero, List.set_cons_succ, i64_w, i32_w]
    rfl
  refine take_ (i := 4) (N := some 18) (v := ?_) (a' := ?_) #[true, true, true, true, true, true, false, false, false, false] rfl rfl (by kernel_rfl) (fun _ _ _ h => h) (Or.inl ⟨by rfl, ?_⟩) hHeld ?_ ?_
  rotate_left
  · rintro w' ⟨s0, s1, s2, s3, s4, s5⟩
    go_simp
    with_reducible rfl
  rotate_left
  · simp only [Act.put, List.setIfInBounds_toArray, List.set_cons_zero, List.set_cons_succ, i64_w, i32_w]
    rfl
  refine take_ (i := 6) (N := some 20) (v := ?_) (a' := ?_) #[true, true, true, true, true, true, true, false, false, false] rfl rfl (by kernel_rfl) (fun _ _ _ h => h) (Or.inl ⟨by rfl, ?_⟩) hHeld ?_ ?_
  rotate_left
  · rintro w' ⟨s0, s1, s2, s3, s4, s5⟩
    go_simp
    with_reducible rfl
  rotate_left
  · simp only [Act.put, List.setIfInBounds_toArray, List.set_cons_zero, List.set_cons_succ, i64_w, i32_w]
    rfl
  refine take_ (i := 8) (N := some 22) (v := ?_) (a' := ?_) #[true, true, true, true, true, true, true, false, true, false] rfl rfl (by kernel_rfl) (fun _ _ _ h => h) (Or.inl ⟨by rfl, ?_⟩) hHeld ?_ ?_
  rotate_left
  · rintro w' ⟨s0, s1, s2, s3, s4, s5⟩
    go_simp
    with_reducible rfl
  rotate_left
  · simp only [Act.put, List.setIfInBounds_toArray, List.set_cons_zero, List.set_cons_succ, i64_w, i32_w]
    rfl
  refine pure_ (i := 7) (N := some 21) (v := ?_) (a' := ?_) #[true, true, true, true, true, true, true, true, true, false] rfl rfl (by kernel_rfl) (fun _ _ _ h => h) (Or.inl ⟨by rfl, ?_⟩) ?_ ?_
  rotate_left
  · intro w'
    go_simp
    with_reducible rfl
  rotate_left
  · simp only [Act.put, List.setIfInBounds_toArray, List.set_cons_zero, List.set_cons_succ, i64_w, i32_w]
    rfl
  refine last_ (i := 9) (N := some 23) #[true, true, true, true, true, true, true, true, true, true] rfl rfl (by kernel_rfl) (by decide) (fun K hK => ?_)
  refine goesV_ Try.func89 (by kernel_rfl) rfl #[.slice (some ⟨g, 0, none⟩) width.toNat width.toNat, .agg #[.int .u32 s, .int .u32 d, .int .u32 u], .pointer (some ⟨b1, 0, none⟩)] (by rfl) rfl rfl (by rfl) (by simp only [List.map_toArray, List.map_cons, List.map_nil]; rfl) ?_
  with_reducible refine (putE hO g width.toNat width.toNat b1 s d u ys _ (HG.out.below hHeld.2.2.2.2.2) ((hHeld.2.2.2.2.2.block _ (blk_lt HH.out.put)).trans HH.out.put) (by have := HWD.out; omega) (by have := HW.out; have := HF.out; omega) (Nat.le_refl _) s0 s1 d0 d1 u0 u1).mono ?_
  rintro e_ w' ⟨rfl, h1, h2⟩
  have H1 := Aside0.mk h1
  have H2 := Aside0.mk (((Onl.refl (fun k => k = g) w).below hHeld.2.2.2.2.2).trans h2)
  clear h1 h2
  refine ⟨_, rfl, ?_⟩
  refine hK.out _ _ ?_
  clear hK K
  refine norm_ (a' := ?_) ?_ ?_
  rotate_left
  · show Act.put _ (some 23) _ = _
    simp only [Act.put, List.setIfInBounds_toArray, List.set_cons_zero, List.set_cons_succ, i64_w, i32_w]
    rfl
  refine done_ (by kernel_rfl) ?_
  go_wp2
  go_ret
  exact ⟨rfl, H1.out, H2.out⟩
theorem putU' (hO : LenOk) (g n c b1 : Nat) (s d u : Int) (ys : List Int) (w : World) (ho0 : At8 5 w g ys) (hb : w.heap[b1]? = some (.cells #[.func (.func 73) #[] #[]] 126 (0, 0))) (hn : n = 20) (hny : n ≤ ys.length) (hc : n ≤ c) (s0 : 0 ≤ s) (s1 : s < 4294967296) (d0 : 0 ≤ d) (d1 : d < 18446744073709551616) (u0 : 0 ≤ u) (u1 : u < 18446744073709551616) :
    Calls Try.prog 96 #[.slice (some ⟨g, 0, none⟩) n c, .agg #[.int .u32 s, .int .u64 d, .int .u64 u], .pointer (some ⟨b1, 0, none⟩)] w fun e w' => e = .returned (.tuple #[]) ∧ At8 5 w' g (updB s d u ys) ∧ Onl (fun k => k = g) w w' := by
  subst hn
  exact putU hO g c b1 s d u ys w ho0 hb hny hc s0 s1 d0 d1 u0 u1
set_option maxHeartbeats 8000000 in
set_option maxRecDepth 100000 in
theorem layU (hO : LenOk) (width : Int) (b1 b2 g n c : Nat) (s d u : Int) (ys : List Int) (w : World) (hH : HoldsU w b1 b2) (hg : At8 5 w g ys) (hfit : n ≤ ys.length) (hc : n ≤ c) (h0 : roomFU width n = 0) (hwd : width = 20) (s0 : 0 ≤ s) (s1 : s < 4294967296) (d0 : 0 ≤ d) (d1 : d < 18446744073709551616) (u0 : 0 ≤ u) (u1 : u < 18446744073709551616) :
    Calls Try.prog 41 #[formVU width b1 b2, .slice (some ⟨g, 0, none⟩) n c, .agg #[.int .u32 s, .int .u64 d, .int .u64 u]] w fun e w' => e = .returned (.int .i64 0) ∧ At8 5 w' g (updB s d u ys) ∧ Onl (fun k => k = g) w w' := by
  have hw1 : 1 ≤ width ∧ width ≤ 256 ∧ width ≤ n := by
    unfold roomFU at h0
    split at h0
    · cases h0
    · split at h0
      · cases h0
      · omega
  have HW := Aside0.mk hw1
  have HH := Aside0.mk hH
  have HG := Aside0.mk hg
  have HF := Aside0.mk hfit
  have HC := Aside0.mk hc
  have H0 := Aside0.mk h0
  have HWD := Aside0.mk hwd
  clear hg hfit hc hH h0 hw1 hwd
  have HB := Aside0.mk (Below.refl w.heap.size w)
  have hbx := blk_alloc (at_newU' w (.cells #[.int .i64 width, .func (.func 96) #[] #[.pointer (some ⟨b1, 0, none⟩)], .func (.func 97) #[] #[.pointer (some ⟨b2, 0, none⟩)]] 83 (0, 0)) w.heap.size rfl) (.cells #[.int .u32 s, .int .u64 d, .int .u64 u] 67 (0, 0))
  have hby := at_newU' (w.alloc (.cells #[.int .i64 width, .func (.func 96) #[] #[.pointer (some ⟨b1, 0, none⟩)], .func (.func 97) #[] #[.pointer (some ⟨b2, 0, none⟩)]] 83 (0, 0))) (.cells #[.int .u32 s, .int .u64 d, .int .u64 u] 67 (0, 0)) (w.heap.size + 1) (by rw [World.size_alloc])
  have hbx0 := blk_cell hbx 0
  have hby0 := blk_cell hby 0
  unfold formVU
  obtain ⟨i5, hi5, _, _, _⟩ := info_parts info5
  have hct := cut_all (P := Try.prog) 44 5 .i64 .i64 Try.underlying44 hi5 (some ⟨g, 0, none⟩) n c width (by have := HW.out; omega) (by have := HW.out; omega) HC.out
  go_enter Try.func41, Try.ntmps41
  go_upto_region 2 with (go_at_call 75; refine (roomU width b1 b2 _ n c _).mono ?_; rintro e wc ⟨rfl, hb⟩; rw [H0.out]; have HX := Aside0.mk (blk_below hbx hb); have HX2 := Aside0.mk (blk_below hby hb); have n0_ := Aside0.mk (below_step (below_alloc (below_alloc HB.out _) _) hb); clear HB hb; have HB := n0_; clear n0_)
  go_upto_region 4 with (fail)
  refine start_ (n := 10) (S := fun w' => w'.cell? ⟨w.heap.size, 0, none⟩ = some (.int .i64 width) ∧ w'.cell? ⟨w.heap.size, 1, none⟩ = some (.func (.func 96) #[] #[.pointer (some ⟨b1, 0, none⟩)]) ∧ w'.cell? ⟨w.heap.size + 1, 0, none⟩ = some (.int .u32 s) ∧ w'.cell? ⟨w.heap.size + 1, 1, none⟩ = some (.int .u64 d) ∧ w'.cell? ⟨w.heap.size + 1, 2, none⟩ = some (.int .u64 u) ∧ Below w.heap.size w w') (ds := [9]) #[false, false, false, false, false, false, false, false, false, false] (by kernel_rfl) rfl rfl ⟨(blk_cell HX.out 0), (blk_cell HX.out 1), (blk_cell HX2.out 0), (blk_cell HX2.out 1), (blk_cell HX2.out 2), (below_drew1 HB.out)⟩ (fun hHeld => ?_)
  refine pure_ (i := 0) (N := some 14) (v := ?_) (a' := ?_) #[true, false, false, false, false, false, false, false, false, false] rfl rfl (by kernel_rfl) (fun _ _ _ h => h) (Or.inl ⟨by rfl, ?_⟩) ?_ ?_
  rotate_left
  · intro w'
    go_simp
    with_reducible rfl
  rotate_left
  · simp only [Act.put, List.setIfInBounds_toArray, List.set_cons_zero, List.set_cons_succ, i64_w, i32_w]
    rfl
  refine pure_ (i := 2) (N := some 16) (v := ?_) (a' := ?_) #[true, false, true, false, false, false, false, false, false, false] rfl rfl (by kernel_rfl) (fun _ _ _ h => h) (Or.inl ⟨by rfl, ?_⟩) ?_ ?_
  rotate_left
  · intro w'
    go_simp
    with_reducible rfl
  rotate_left
  · simp only [Act.put, List.setIfInBounds_toArray, List.set_cons_zero, List.set_cons_succ, i64_w, i32_w]
    rfl
  refine pure_ (i := 3) (N := some 17) (v := ?_) (a' := ?_) #[true, false, true, true, false, false, false, false, false, false] rfl rfl (by kernel_rfl) (fun _ _ _ h => h) (Or.inl ⟨by rfl, ?_⟩) ?_ ?_
  rotate_left
  · intro w'
    go_simp
    with_reducible rfl
  rotate_left
  · simp only [Act.put, List.setIfInBounds_toArray, List.set_cons_zero, List.set_cons_succ, i64_w, i32_w]
    rfl
  refine pure_ (i := 5) (N := some 19) (v := ?_) (a' := ?_) #[true, false, true, true, false, true, false, false, false, false] rfl rfl (by kernel_rfl) (fun _ _ _ h => h) (Or.inl ⟨by rfl, ?_⟩) ?_ ?_
  rotate_left
  · intro w'
    go_simp
    with_reducible rfl
  rotate_left
  · simp only [Act.put, List.setIfInBounds_toArray, List.set_cons_zero, List.set_cons_succ, i64_w, i32_w]
    rfl
  refine take_ (i := 1) (N := some 15) (v := ?_) (a' := ?_) #[true, true, true, true, false, true, false, false, false, false] rfl rfl (by kernel_rfl) (fun _ _ _ h => h) (Or.inl ⟨by rfl, ?_⟩) hHeld ?_ ?_
  rotate_left
  · rintro w' ⟨s0, s1, s2, s3, s4, s5⟩
    go_simp
    with_reducible rfl
  rotate_left
  · simp only [Act.put, List.setIfInBounds_toArray, List.set_cons_zero, List.set_cons_succ, i64_w, i32_w]
    rfl
  refine take_ (i := 4) (N := some 18) (v := ?_) (a' := ?_) #[true, true, true, true, true, true, false, false, false, false] rfl rfl (by kernel_rfl) (fun _ _ _ h => h) (Or.inl ⟨by rfl, ?_⟩) hHeld ?_ ?_
  rotate_left
  · rintro w' ⟨s0, s1, s2, s3, s4, s5⟩
    go_simp
    with_reducible rfl
  rotate_left
  · simp only [Act.put, List.setIfInBounds_toArray, List.set_cons_zero, List.set_cons_succ, i64_w, i32_w]
    rfl
  refine take_ (i := 6) (N := some 20) (v := ?_) (a' := ?_) #[true, true, true, true, true, true, true, false, false, false] rfl rfl (by kernel_rfl) (fun _ _ _ h => h) (Or.inl ⟨by rfl, ?_⟩) hHeld ?_ ?_
  rotate_left
  · rintro w' ⟨s0, s1, s2, s3, s4, s5⟩
    go_simp
    with_reducible rfl
  rotate_left
  · simp only [Act.put, List.setIfInBounds_toArray, List.set_cons_zero, List.set_cons_succ, i64_w, i32_w]
    rfl
  refine take_ (i := 8) (N := some 22) (v := ?_) (a' := ?_) #[true, true, true, true, true, true, true, false, true, false] rfl rfl (by kernel_rfl) (fun _ _ _ h => h) (Or.inl ⟨by rfl, ?_⟩) hHeld ?_ ?_
  rotate_left
  · rintro w' ⟨s0, s1, s2, s3, s4, s5⟩
    go_simp
    with_reducible rfl
  rotate_left
  · simp only [Act.put, List.setIfInBounds_toArray, List.set_cons_zero, List.set_cons_succ, i64_w, i32_w]
    rfl
  refine pure_ (i := 7) (N := some 21) (v := ?_) (a' := ?_) #[true, true, true, true, true, true, true, true, true, false] rfl rfl (by kernel_rfl) (fun _ _ _ h => h) (Or.inl ⟨by rfl, ?_⟩) ?_ ?_
  rotate_left
  · intro w'
    go_simp
    with_reducible rfl
  rotate_left
  · simp only [Act.put, List.setIfInBounds_toArray, List.set_cons_zero, List.set_cons_succ, i64_w, i32_w]
    rfl
  refine last_ (i := 9) (N := some 23) #[true, true, true, true, true, true, true, true, true, true] rfl rfl (by kernel_rfl) (by decide) (fun K hK => ?_)
  refine goesV_ Try.func96 (by kernel_rfl) rfl #[.slice (some ⟨g, 0, none⟩) width.toNat width.toNat, .agg #[.int .u32 s, .int .u64 d, .int .u64 u], .pointer (some ⟨b1, 0, none⟩)] (by rfl) rfl rfl (by rfl) (by simp only [List.map_toArray, List.map_cons, List.map_nil]; rfl) ?_
  with_reducible refine (putU' hO g width.toNat width.toNat b1 s d u ys _ (HG.out.below hHeld.2.2.2.2.2) ((hHeld.2.2.2.2.2.block _ (blk_lt HH.out.put)).trans HH.out.put) (by have := HWD.out; omega) (by have := HW.out; have := HF.out; omega) (Nat.le_refl _) s0 s1 d0 d1 u0 u1).mono ?_
  rintro e_ w' ⟨rfl, h1, h2⟩
  have H1 := Aside0.mk h1
  have H2 := Aside0.mk (((Onl.refl (fun k => k = g) w).below hHeld.2.2.2.2.2).trans h2)
  clear h1 h2
  refine ⟨_, rfl, ?_⟩
  refine hK.out _ _ ?_
  clear hK K
  refine norm_ (a' := ?_) ?_ ?_
  rotate_left
  · show Act.put _ (some 23) _ = _
    simp only [Act.put, List.setIfInBounds_toArray, List.set_cons_zero, List.set_cons_succ, i64_w, i32_w]
    rfl
  refine done_ (by kernel_rfl) ?_
  go_wp2
  go_ret
  exact ⟨rfl, H1.out, H2.out⟩
end ReelLay
section ReelTake
open Go.RowKit Go.Proofs.YtnmhfcfojbfikaaW.PrintWords Go.Proofs.YtnmhfcfojbfikaaW.PrintLast Go.Proofs.YtnmhfcfojbfikaaW.PrintMore
set_option linter.unusedVariables false
set_option linter.unusedSimpArgs false
open QPut (grain_lay.go grain_lay.step grain_lay.len)
set_option maxHeartbeats 8000000 in
set_option maxRecDepth 100000 in
theorem takeFailE (width : Int) (b1 b2 n c : Nat) (A : Option Addr) (w : World) (x : Int) (h0 : roomFE width n = x) (hx : x = 2 ∨ x = 67) :
    Calls Try.prog 38 #[formVE width b1 b2, .slice A n c] w fun e w' => e = .returned (.tuple #[.agg #[.int .u32 0, .int .u32 0, .int .u32 0], .int .i64 x]) ∧ Below w.heap.size w w' := by
  have H0 := Aside0.mk h0
  clear h0
  have HB := Aside0.mk (Below.refl w.heap.size w)
  have hby := at_newE' (w.alloc (.cells #[.int .i64 width, .func (.func 89) #[] #[.pointer (some ⟨b1, 0, none⟩)], .func (.func 90) #[] #[.pointer (some ⟨b2, 0, none⟩)]] 73 (0, 0))) (.cells #[.int .u32 0, .int .u32 0, .int .u32 0] 64 (0, 0)) (w.heap.size + 1) (by rw [World.size_alloc])
  unfold formVE
  go_enter Try.func38, Try.ntmps38
  go_upto_region 2 with (go_at_call 70; refine (roomE width b1 b2 _ n c _).mono ?_; rintro e wc ⟨rfl, hb⟩; rw [H0.out]; have HX := Aside0.mk (blk_below hby hb); have n0_ := Aside0.mk (below_step (below_alloc (below_alloc HB.out _) _) hb); clear HB hb hby; have HB := n0_; clear n0_)
  rcases hx with rfl | rfl
  all_goals
    have he0 := blk_cell HX.out 0
    have he1 := blk_cell HX.out 1
    have he2 := blk_cell HX.out 2
    have hf0 := blk_frozen HX.out 0
    have hf1 := blk_frozen HX.out 1
    have hf2 := blk_frozen HX.out 2
    go_wp2
    have hE1 := (blk_put (blk_put (blk_put HX.out 0 (.int .u32 0) rfl) 1 (.int .u32 0) rfl) 2 (.int .u32 0) rfl)
    refine bodyPost_ret (results_ct (p := 4) (u := 5) (ty := 64) rfl _ _ (w.heap.size + 1) 64 _ (0, 0) _ rfl hE1 Try.underlying64 rfl (by kernel_rfl)) rfl ?_
    exact ⟨rfl, below_set (below_set (below_set HB.out (Nat.le_succ _)) (Nat.le_succ _)) (Nat.le_succ _)⟩
set_option maxHeartbeats 8000000 in
set_option maxRecDepth 100000 in
theorem takeFailU (width : Int) (b1 b2 n c : Nat) (A : Option Addr) (w : World) (x : Int) (h0 : roomFU width n = x) (hx : x = 2 ∨ x = 67) :
    Calls Try.prog 42 #[formVU width b1 b2, .slice A n c] w fun e w' => e = .returned (.tuple #[.agg #[.int .u32 0, .int .u64 0, .int .u64 0], .int .i64 x]) ∧ Below w.heap.size w w' := by
  have H0 := Aside0.mk h0
  clear h0
  have HB := Aside0.mk (Below.refl w.heap.size w)
  have hby := at_newU' (w.alloc (.cells #[.int .i64 width, .func (.func 96) #[] #[.pointer (some ⟨b1, 0, none⟩)], .func (.func 97) #[] #[.pointer (some ⟨b2, 0, none⟩)]] 83 (0, 0))) (.cells #[.int .u32 0, .int .u64 0, .int .u64 0] 67 (0, 0)) (w.heap.size + 1) (by rw [World.size_alloc])
  unfold formVU
  go_enter Try.func42, Try.ntmps42
  go_upto_region 2 with (go_at_call 75; refine (roomU width b1 b2 _ n c _).mono ?_; rintro e wc ⟨rfl, hb⟩; rw [H0.out]; have HX := Aside0.mk (blk_below hby hb); have n0_ := Aside0.mk (below_step (below_alloc (below_alloc HB.out _) _) hb); clear HB hb hby; have HB := n0_; clear n0_)
  rcases hx with rfl | rfl
  all_goals
    have he0 := blk_cell HX.out 0
    have he1 := blk_cell HX.out 1
    have he2 := blk_cell HX.out 2
    have hf0 := blk_frozen HX.out 0
    have hf1 := blk_frozen HX.out 1
    have hf2 := blk_frozen HX.out 2
    go_wp2
    have hE1 := (blk_put (blk_put (blk_put HX.out 0 (.int .u32 0) rfl) 1 (.int .u64 0) rfl) 2 (.int .u64 0) rfl)
    refine bodyPost_ret (results_ct (p := 4) (u := 5) (ty := 67) rfl _ _ (w.heap.size + 1) 67 _ (0, 0) _ rfl hE1 Try.underlying67 rfl (by kernel_rfl)) rfl ?_
    exact ⟨rfl, below_set (below_set (below_set HB.out (Nat.le_succ _)) (Nat.le_succ _)) (Nat.le_succ _)⟩
set_option maxHeartbeats 8000000 in
set_option maxRecDepth 100000 in
theorem takeE (width : Int) (b1 b2 g n c : Nat) (s d u : Int) (w : World) (hc : n ≤ c) (h0 : roomFE width n = 0)
    (hget : ∀ w1, Below w.heap.size w w1 → Calls Try.prog 90 #[.slice (some ⟨g, 0, none⟩) width.toNat width.toNat, .pointer (some ⟨b2, 0, none⟩)] w1 fun e w' => e = .returned (.agg #[.int .u32 s, .int .u32 d, .int .u32 u]) ∧ Below w1.heap.size w1 w') :
    Calls Try.prog 38 #[formVE width b1 b2, .slice (some ⟨g, 0, none⟩) n c] w fun e w' => e = .returned (.tuple #[.agg #[.int .u32 s, .int .u32 d, .int .u32 u], .int .i64 0]) ∧ Below w.heap.size w w' := by
  have hw1 : 1 ≤ width ∧ width ≤ 256 ∧ width ≤ n := by
    unfold roomFE at h0
    split at h0
    · cases h0
    · split at h0
      · cases h0
      · omega
  have HW := Aside0.mk hw1
  have HGET := Aside0.mk hget
  have HC := Aside0.mk hc
  have H0 := Aside0.mk h0
  clear hget hc h0 hw1
  have HB := Aside0.mk (Below.refl w.heap.size w)
  have hbx := blk_alloc (at_newE' w (.cells #[.int .i64 width, .func (.func 89) #[] #[.pointer (some ⟨b1, 0, none⟩)], .func (.func 90) #[] #[.pointer (some ⟨b2, 0, none⟩)]] 73 (0, 0)) w.heap.size rfl) (.cells #[.int .u32 0, .int .u32 0, .int .u32 0] 64 (0, 0))
  have hby := at_newE' (w.alloc (.cells #[.int .i64 width, .func (.func 89) #[] #[.pointer (some ⟨b1, 0, none⟩)], .func (.func 90) #[] #[.pointer (some ⟨b2, 0, none⟩)]] 73 (0, 0))) (.cells #[.int .u32 0, .int .u32 0, .int .u32 0] 64 (0, 0)) (w.heap.size + 1) (by rw [World.size_alloc])
  unfold formVE
  obtain ⟨i5, hi5, _, _, _⟩ := info_parts info5
  have hct := cut_all (P := Try.prog) 44 5 .i64 .i64 Try.underlying44 hi5 (some ⟨g, 0, none⟩) n c width (by have := HW.out; omega) (by have := HW.out; omega) HC.out
  go_enter Try.func38, Try.ntmps38
  go_upto_region 2 with (go_at_call 70; refine (roomE width b1 b2 _ n c _).mono ?_; rintro e wc ⟨rfl, hb⟩; rw [H0.out]; have HX := Aside0.mk (blk_below hbx hb); have HX2 := Aside0.mk (blk_below hby hb); have n0_ := Aside0.mk (below_step (below_alloc (below_alloc HB.out _) _) hb); clear HB hb; have HB := n0_; clear n0_)
  go_upto_region 3 with (fail)
  refine start_ (n := 10) (S := fun w' => w'.cell? ⟨w.heap.size, 0, none⟩ = some (.int .i64 width) ∧ w'.cell? ⟨w.heap.size, 2, none⟩ = some (.func (.func 90) #[] #[.pointer (some ⟨b2, 0, none⟩)]) ∧ w'.heap[w.heap.size + 1]? = some (.cells #[.int .u32 0, .int .u32 0, .int .u32 0] 64 (0, 0)) ∧ Below w.heap.size w w') (ds := [9]) #[false, false, false, false, false, false, false, false, false, false] (by kernel_rfl) rfl rfl ⟨(blk_cell HX.out 0), (blk_cell HX.out 2), (blk_drew HX2.out), (below_drew1 HB.out)⟩ (fun hHeld => ?_)
  refine pure_ (i := 0) (N := some 11) (v := ?_) (a' := ?_) #[true, false, false, false, false, false, false, false, false, false] rfl rfl (by kernel_rfl) (fun _ _ _ h => h) (Or.inl ⟨by rfl, ?_⟩) ?_ ?_
  rotate_left
  · intro w'
    go_simp
    with_reducible rfl
  rotate_left
  · simp only [Act.put, List.setIfInBounds_toArray, List.set_cons_zero, List.set_cons_succ, i64_w, i32_w]
    rfl
  refine pure_ (i := 2) (N := some 13) (v := ?_) (a' := ?_) #[true, false, true, false, false, false, false, false, false, false] rfl rfl (by kernel_rfl) (fun _ _ _ h => h) (Or.inl ⟨by rfl, ?_⟩) ?_ ?_
  rotate_left
  · intro w'
    go_simp
    with_reducible rfl
  rotate_left
  · simp only [Act.put, List.setIfInBounds_toArray, List.set_cons_zero, List.set_cons_succ, i64_w, i32_w]
    rfl
  refine pure_ (i := 3) (N := some 14) (v := ?_) (a' := ?_) #[true, false, true, true, false, false, false, false, false, false] rfl rfl (by kernel_rfl) (fun _ _ _ h => h) (Or.inl ⟨by rfl, ?_⟩) ?_ ?_
  rotate_left
  · intro w'
    go_simp
    with_reducible rfl
  rotate_left
  · simp only [Act.put, List.setIfInBounds_toArray, List.set_cons_zero, List.set_cons_succ, i64_w, i32_w]
    rfl
  refine pure_ (i := 5) (N := some 16) (v := ?_) (a' := ?_) #[true, false, true, true, false, true, false, false, false, false] rfl rfl (by kernel_rfl) (fun _ _ _ h => h) (Or.inl ⟨by rfl, ?_⟩) ?_ ?_
  rotate_left
  · intro w'
    go_simp
    with_reducible rfl
  rotate_left
  · simp only [Act.put, List.setIfInBounds_toArray, List.set_cons_zero, List.set_cons_succ, i64_w, i32_w]
    rfl
  refine take_ (i := 1) (N := some 12) (v := ?_) (a' := ?_) #[true, true, true, true, false, true, false, false, false, false] rfl rfl (by kernel_rfl) (fun _ _ _ h => h) (Or.inl ⟨by rfl, ?_⟩) hHeld ?_ ?_
  rotate_left
  · rintro w' ⟨s0, s1, s2, s3⟩
    go_simp
    with_reducible rfl
  rotate_left
  · simp only [Act.put, List.setIfInBounds_toArray, List.set_cons_zero, List.set_cons_succ, i64_w, i32_w]
    rfl
  refine take_ (i := 4) (N := some 15) (v := ?_) (a' := ?_) #[true, true, true, true, true, true, false, false, false, false] rfl rfl (by kernel_rfl) (fun _ _ _ h => h) (Or.inl ⟨by rfl, ?_⟩) hHeld ?_ ?_
  rotate_left
  · rintro w' ⟨s0, s1, s2, s3⟩
    go_simp
    with_reducible rfl
  rotate_left
  · simp only [Act.put, List.setIfInBounds_toArray, List.set_cons_zero, List.set_cons_succ, i64_w, i32_w]
    rfl
  refine take_ (i := 6) (N := some 17) (v := ?_) (a' := ?_) #[true, true, true, true, true, true, true, false, false, false] rfl rfl (by kernel_rfl) (fun _ _ _ h => h) (Or.inl ⟨by rfl, ?_⟩) hHeld ?_ ?_
  rotate_left
  · rintro w' ⟨s0, s1, s2, s3⟩
    go_simp
    with_reducible rfl
  rotate_left
  · simp only [Act.put, List.setIfInBounds_toArray, List.set_cons_zero, List.set_cons_succ, i64_w, i32_w]
    rfl
  refine pure_ (i := 7) (N := some 18) (v := ?_) (a' := ?_) #[true, true, true, true, true, true, true, true, false, false] rfl rfl (by kernel_rfl) (fun _ _ _ h => h) (Or.inl ⟨by rfl, ?_⟩) ?_ ?_
  rotate_left
  · intro w'
    go_simp
    with_reducible rfl
  rotate_left
  · simp only [Act.put, List.setIfInBounds_toArray, List.set_cons_zero, List.set_cons_succ, i64_w, i32_w]
    rfl
  refine one_ (i := 8) (N := some 19) #[true, true, true, true, true, true, true, true, true, false] rfl rfl (by kernel_rfl) (by decide) (fun K hK => ?_)
  refine goesV_ Try.func90 (by kernel_rfl) rfl #[.slice (some ⟨g, 0, none⟩) width.toNat width.toNat, .pointer (some ⟨b2, 0, none⟩)] (by rfl) rfl rfl (by rfl) (by simp only [List.map_toArray, List.map_cons, List.map_nil]; rfl) ?_
  with_reducible refine (HGET.out _ hHeld.2.2.2).mono ?_
  rintro e_ w' ⟨rfl, h2⟩
  have hX3 := Aside0.mk (blk_below hHeld.2.2.1 h2)
  have hB3 := Aside0.mk (below_step hHeld.2.2.2 h2)
  refine ⟨_, rfl, ?_⟩
  refine hK.out _ _ ⟨(h2.cell (World.block_lt_of_cell? _ _ hHeld.1)).trans hHeld.1, (h2.cell (World.block_lt_of_cell? _ _ hHeld.2.1)).trans hHeld.2.1, hX3.out, hB3.out⟩ (fun hHeld => ?_)
  clear hK K h2
  refine norm_ (a' := ?_) ?_ ?_
  rotate_left
  · show Act.put _ (some 19) _ = _
    simp only [Act.put, List.setIfInBounds_toArray, List.set_cons_zero, List.set_cons_succ, i64_w, i32_w]
    rfl
  have HX5 := Aside0.mk hHeld.2.2.1
  have HB5 := Aside0.mk hHeld.2.2.2
  refine last_ (i := 9) (N := none) #[true, true, true, true, true, true, true, true, true, true] rfl rfl (by kernel_rfl) (by decide) (fun K hK => ?_)
  have he0 := blk_cell HX5.out 0
  have he1 := blk_cell HX5.out 1
  have he2 := blk_cell HX5.out 2
  have hf0 := blk_frozen HX5.out 0
  have hf1 := blk_frozen HX5.out 1
  have hf2 := blk_frozen HX5.out 2
  refine skip_ (w1 := ?_) (by rfl) rfl ?_ ?_
  rotate_left
  · go_simp
    rfl
  refine hK.out _ _ ?_
  clear hK K hHeld he0 he1 he2 hf0 hf1 hf2
  refine done_ (by kernel_rfl) ?_
  have HE := Aside0.mk (blk_put (blk_put (blk_put HX5.out 0 (.int .u32 s) rfl) 1 (.int .u32 d) rfl) 2 (.int .u32 u) rfl)
  have HB6 := Aside0.mk (below_set (j := 2) (v := .int .u32 u) (below_set (j := 1) (v := .int .u32 d) (below_set (j := 0) (v := .int .u32 s) HB5.out (Nat.le_succ _)) (Nat.le_succ _)) (Nat.le_succ _))
  clear HX5 HB5 HB HX HX2 hX3 hB3 hbx hby
  have he0 := blk_cell HE.out 0
  have he1 := blk_cell HE.out 1
  have he2 := blk_cell HE.out 2
  have hf0 := blk_frozen HE.out 0
  have hf1 := blk_frozen HE.out 1
  have hf2 := blk_frozen HE.out 2
  go_wp2
  have hE1 := (blk_put (blk_put (blk_put HE.out 0 (.int .u32 s) rfl) 1 (.int .u32 d) rfl) 2 (.int .u32 u) rfl)
  refine bodyPost_ret (results_ct (p := 4) (u := 5) (ty := 64) rfl _ _ (w.heap.size + 1) 64 _ (0, 0) _ rfl hE1 Try.underlying64 rfl (by kernel_rfl)) rfl ?_
  exact ⟨rfl, below_set (below_set (below_set HB6.out (Nat.le_succ _)) (Nat.le_succ _)) (Nat.le_succ _)⟩
set_option maxHeartbeats 8000000 in
set_option maxRecDepth 100000 in
theorem takeU (width : Int) (b1 b2 g n c : Nat) (s d u : Int) (w : World) (hc : n ≤ c) (h0 : roomFU width n = 0)
    (hget : ∀ w1, Below w.heap.size w w1 → Calls Try.prog 97 #[.slice (some ⟨g, 0, none⟩) width.toNat width.toNat, .pointer (some ⟨b2, 0, none⟩)] w1 fun e w' => e = .returned (.agg #[.int .u32 s, .int .u64 d, .int .u64 u]) ∧ Below w1.heap.size w1 w') :
    Calls Try.prog 42 #[formVU width b1 b2, .slice (some ⟨g, 0, none⟩) n c] w fun e w' => e = .returned (.tuple #[.agg #[.int .u32 s, .int .u64 d, .int .u64 u], .int .i64 0]) ∧ Below w.heap.size w w' := by
  have hw1 : 1 ≤ width ∧ width ≤ 256 ∧ width ≤ n := by
    unfold roomFU at h0
    split at h0
    · cases h0
    · split at h0
      · cases h0
      · omega
  have HW := Aside0.mk hw1
  have HGET := Aside0.mk hget
  have HC := Aside0.mk hc
  have H0 := Aside0.mk h0
  clear hget hc h0 hw1
  have HB := Aside0.mk (Below.refl w.heap.size w)
  have hbx := blk_alloc (at_newU' w (.cells #[.int .i64 width, .func (.func 96) #[] #[.pointer (some ⟨b1, 0, none⟩)], .func (.func 97) #[] #[.pointer (some ⟨b2, 0, none⟩)]] 83 (0, 0)) w.heap.size rfl) (.cells #[.int .u32 0, .int .u64 0, .int .u64 0] 67 (0, 0))
  have hby := at_newU' (w.alloc (.cells #[.int .i64 width, .func (.func 96) #[] #[.pointer (some ⟨b1, 0, none⟩)], .func (.func 97) #[] #[.pointer (some ⟨b2, 0, none⟩)]] 83 (0, 0))) (.cells #[.int .u32 0, .int .u64 0, .int .u64 0] 67 (0, 0)) (w.heap.size + 1) (by rw [World.size_alloc])
  unfold formVU
  obtain ⟨i5, hi5, _, _, _⟩ := info_parts info5
  have hct := cut_all (P := Try.prog) 44 5 .i64 .i64 Try.underlying44 hi5 (some ⟨g, 0, none⟩) n c width (by have := HW.out; omega) (by have := HW.out; omega) HC.out
  go_enter Try.func42, Try.ntmps42
  go_upto_region 2 with (go_at_call 75; refine (roomU width b1 b2 _ n c _).mono ?_; rintro e wc ⟨rfl, hb⟩; rw [H0.out]; have HX := Aside0.mk (blk_below hbx hb); have HX2 := Aside0.mk (blk_below hby hb); have n0_ := Aside0.mk (below_step (below_alloc (below_alloc HB.out _) _) hb); clear HB hb; have HB := n0_; clear n0_)
  go_upto_region 3 with (fail)
  refine start_ (n := 10) (S := fun w' => w'.cell? ⟨w.heap.size, 0, none⟩ = some (.int .i64 width) ∧ w'.cell? ⟨w.heap.size, 2, none⟩ = some (.func (.func 97) #[] #[.pointer (some ⟨b2, 0, none⟩)]) ∧ w'.heap[w.heap.size + 1]? = some (.cells #[.int .u32 0, .int .u64 0, .int .u64 0] 67 (0, 0)) ∧ Below w.heap.size w w') (ds := [9]) #[false, false, false, false, false, false, false, false, false, false] (by kernel_rfl) rfl rfl ⟨(blk_cell HX.out 0), (blk_cell HX.out 2), (blk_drew HX2.out), (below_drew1 HB.out)⟩ (fun hHeld => ?_)
  refine pure_ (i := 0) (N := some 11) (v := ?_) (a' := ?_) #[true, false, false, false, false, false, false, false, false, false] rfl rfl (by kernel_rfl) (fun _ _ _ h => h) (Or.inl ⟨by rfl, ?_⟩) ?_ ?_
  rotate_left
  · intro w'
    go_simp
    with_reducible rfl
  rotate_left
  · simp only [Act.put, List.setIfInBounds_toArray, List.set_cons_zero, List.set_cons_succ, i64_w, i32_w]
    rfl
  refine pure_ (i := 2) (N := some 13) (v := ?_) (a' := ?_) #[true, false, true, false, false, false, false, false, false, false] rfl rfl (by kernel_rfl) (fun _ _ _ h => h) (Or.inl ⟨by rfl, ?_⟩) ?_ ?_
  rotate_left
  · intro w'
    go_simp
    with_reducible rfl
  rotate_left
  · simp only [Act.put, List.setIfInBounds_toArray, List.set_cons_zero, List.set_cons_succ, i64_w, i32_w]
    rfl
  refine pure_ (i := 3) (N := some 14) (v := ?_) (a' := ?_) #[true, false, true, true, false, false, false, false, false, false] rfl rfl (by kernel_rfl) (fun _ _ _ h => h) (Or.inl ⟨by rfl, ?_⟩) ?_ ?_
  rotate_left
  · intro w'
    go_simp
    with_reducible rfl
  rotate_left
  · simp only [Act.put, List.setIfInBounds_toArray, List.set_cons_zero, List.set_cons_succ, i64_w, i32_w]
    rfl
  refine pure_ (i := 5) (N := some 16) (v := ?_) (a' := ?_) #[true, false, true, true, false, true, false, false, false, false] rfl rfl (by kernel_rfl) (fun _ _ _ h => h) (Or.inl ⟨by rfl, ?_⟩) ?_ ?_
  rotate_left
  · intro w'
    go_simp
    with_reducible rfl
  rotate_left
  · simp only [Act.put, List.setIfInBounds_toArray, List.set_cons_zero, List.set_cons_succ, i64_w, i32_w]
    rfl
  refine take_ (i := 1) (N := some 12) (v := ?_) (a' := ?_) #[true, true, true, true, false, true, false, false, false, false] rfl rfl (by kernel_rfl) (fun _ _ _ h => h) (Or.inl ⟨by rfl, ?_⟩) hHeld ?_ ?_
  rotate_left
  · rintro w' ⟨s0, s1, s2, s3⟩
    go_simp
    with_reducible rfl
  rotate_left
  · simp only [Act.put, List.setIfInBounds_toArray, List.set_cons_zero, List.set_cons_succ, i64_w, i32_w]
    rfl
  refine take_ (i := 4) (N := some 15) (v := ?_) (a' := ?_) #[true, true, true, true, true, true, false, false, false, false] rfl rfl (by kernel_rfl) (fun _ _ _ h => h) (Or.inl ⟨by rfl, ?_⟩) hHeld ?_ ?_
  rotate_left
  · rintro w' ⟨s0, s1, s2, s3⟩
    go_simp
    with_reducible rfl
  rotate_left
  · simp only [Act.put, List.setIfInBounds_toArray, List.set_cons_zero, List.set_cons_succ, i64_w, i32_w]
    rfl
  refine take_ (i := 6) (N := some 17) (v := ?_) (a' := ?_) #[true, true, true, true, true, true, true, false, false, false] rfl rfl (by kernel_rfl) (fun _ _ _ h => h) (Or.inl ⟨by rfl, ?_⟩) hHeld ?_ ?_
  rotate_left
  · rintro w' ⟨s0, s1, s2, s3⟩
    go_simp
    with_reducible rfl
  rotate_left
  · simp only [Act.put, List.setIfInBounds_toArray, List.set_cons_zero, List.set_cons_succ, i64_w, i32_w]
    rfl
  refine pure_ (i := 7) (N := some 18) (v := ?_) (a' := ?_) #[true, true, true, true, true, true, true, true, false, false] rfl rfl (by kernel_rfl) (fun _ _ _ h => h) (Or.inl ⟨by rfl, ?_⟩) ?_ ?_
  rotate_left
  · intro w'
    go_simp
    with_reducible rfl
  rotate_left
  · simp only [Act.put, List.setIfInBounds_toArray, List.set_cons_zero, List.set_cons_succ, i64_w, i32_w]
    rfl
  refine one_ (i := 8) (N := some 19) #[true, true, true, true, true, true, true, true, true, false] rfl rfl (by kernel_rfl) (by decide) (fun K hK => ?_)
  refine goesV_ Try.func97 (by kernel_rfl) rfl #[.slice (some ⟨g, 0, none⟩) width.toNat width.toNat, .pointer (some ⟨b2, 0, none⟩)] (by rfl) rfl rfl (by rfl) (by simp only [List.map_toArray, List.map_cons, List.map_nil]; rfl) ?_
  with_reducible refine (HGET.out _ hHeld.2.2.2).mono ?_
  rintro e_ w' ⟨rfl, h2⟩
  have hX3 := Aside0.mk (blk_below hHeld.2.2.1 h2)
  have hB3 := Aside0.mk (below_step hHeld.2.2.2 h2)
  refine ⟨_, rfl, ?_⟩
  refine hK.out _ _ ⟨(h2.cell (World.block_lt_of_cell? _ _ hHeld.1)).trans hHeld.1, (h2.cell (World.block_lt_of_cell? _ _ hHeld.2.1)).trans hHeld.2.1, hX3.out, hB3.out⟩ (fun hHeld => ?_)
  clear hK K h2
  refine norm_ (a' := ?_) ?_ ?_
  rotate_left
  · show Act.put _ (some 19) _ = _
    simp only [Act.put, List.setIfInBounds_toArray, List.set_cons_zero, List.set_cons_succ, i64_w, i32_w]
    rfl
  have HX5 := Aside0.mk hHeld.2.2.1
  have HB5 := Aside0.mk hHeld.2.2.2
  refine last_ (i := 9) (N := none) #[true, true, true, true, true, true, true, true, true, true] rfl rfl (by kernel_rfl) (by decide) (fun K hK => ?_)
  have he0 := blk_cell HX5.out 0
  have he1 := blk_cell HX5.out 1
  have he2 := blk_cell HX5.out 2
  have hf0 := blk_frozen HX5.out 0
  have hf1 := blk_frozen HX5.out 1
  have hf2 := blk_frozen HX5.out 2
  refine skip_ (w1 := ?_) (by rfl) rfl ?_ ?_
  rotate_left
  · go_simp
    rfl
  refine hK.out _ _ ?_
  clear hK K hHeld he0 he1 he2 hf0 hf1 hf2
  refine done_ (by kernel_rfl) ?_
  have HE := Aside0.mk (blk_put (blk_put (blk_put HX5.out 0 (.int .u32 s) rfl) 1 (.int .u64 d) rfl) 2 (.int .u64 u) rfl)
  have HB6 := Aside0.mk (below_set (j := 2) (v := .int .u64 u) (below_set (j := 1) (v := .int .u64 d) (below_set (j := 0) (v := .int .u32 s) HB5.out (Nat.le_succ _)) (Nat.le_succ _)) (Nat.le_succ _))
  clear HX5 HB5 HB HX HX2 hX3 hB3 hbx hby
  have he0 := blk_cell HE.out 0
  have he1 := blk_cell HE.out 1
  have he2 := blk_cell HE.out 2
  have hf0 := blk_frozen HE.out 0
  have hf1 := blk_frozen HE.out 1
  have hf2 := blk_frozen HE.out 2
  go_wp2
  have hE1 := (blk_put (blk_put (blk_put HE.out 0 (.int .u32 s) rfl) 1 (.int .u64 d) rfl) 2 (.int .u64 u) rfl)
  refine bodyPost_ret (results_ct (p := 4) (u := 5) (ty := 67) rfl _ _ (w.heap.size + 1) 67 _ (0, 0) _ rfl hE1 Try.underlying67 rfl (by kernel_rfl)) rfl ?_
  exact ⟨rfl, below_set (below_set (below_set HB6.out (Nat.le_succ _)) (Nat.le_succ _)) (Nat.le_succ _)⟩
end ReelTake
section ReelState
open Go.RowKit Go.Proofs.YtnmhfcfojbfikaaW.PrintWords Go.Proofs.YtnmhfcfojbfikaaW.PrintLast Go.Proofs.YtnmhfcfojbfikaaW.PrintMore
set_option linter.unusedVariables false
set_option linter.unusedSimpArgs false
open QPut (grain_lay.go grain_lay.step grain_lay.len)
/-- The first words of a state, laid. -/
def stB : Nat → List Int → List Int → List Int
  | 0, _, ys => ys
  | k + 1, vs, ys => grain_lay.go (8 * k) (vs.getD k 0) (stB k vs ys) 8
theorem stB_len (vs ys : List Int) : ∀ k, (stB k vs ys).length = ys.length
  | 0 => rfl
  | k + 1 => by
    rw [stB, grain_lay.len]
    exact stB_len vs ys k
theorem st_cell {w : World} {g : Nat} {s0 s1 s2 s3 s4 s5 s6 s7 : Int} {t : TypeId} (h : w.heap[g]? = some (.cells #[.int .u64 s0, .int .u64 s1, .int .u64 s2, .int .u64 s3, .int .u64 s4, .int .u64 s5, .int .u64 s6, .int .u64 s7] t (0, 0))) (i : Nat) (hi : i < 8) : w.cell? ⟨g, i, none⟩ = some (.int .u64 ([s0, s1, s2, s3, s4, s5, s6, s7].getD i 0)) := by
  rw [blk_cell h i]
  have : i = 0 ∨ i = 1 ∨ i = 2 ∨ i = 3 ∨ i = 4 ∨ i = 5 ∨ i = 6 ∨ i = 7 := by omega
  rcases this with rfl | rfl | rfl | rfl | rfl | rfl | rfl | rfl <;> rfl
set_option maxHeartbeats 8000000 in
set_option maxRecDepth 100000 in
theorem stateR (hO : LenOk) (g n c words : Nat) (s0 s1 s2 s3 s4 s5 s6 s7 : Int) (ys : List Int) (w : World) (ho0 : At8 5 w g ys) (hn : n = 8 * words) (hw8 : words ≤ 8) (hny : n ≤ ys.length) (hc : n ≤ c) (hv : ∀ i, i < 8 → 0 ≤ [s0, s1, s2, s3, s4, s5, s6, s7].getD i 0 ∧ [s0, s1, s2, s3, s4, s5, s6, s7].getD i 0 < 18446744073709551616) :
    Calls Try.prog 77 #[.slice (some ⟨g, 0, none⟩) n c, .agg #[.int .u64 s0, .int .u64 s1, .int .u64 s2, .int .u64 s3, .int .u64 s4, .int .u64 s5, .int .u64 s6, .int .u64 s7]] w fun e w' => e = .returned (.tuple #[]) ∧ At8 5 w' g (stB words [s0, s1, s2, s3, s4, s5, s6, s7] ys) ∧ Onl (fun k => k = g) w w' := by
  have HN := Aside0.mk hn
  have HW8 := Aside0.mk hw8
  have HNY := Aside0.mk hny
  have HC := Aside0.mk hc
  have HV := Aside0.mk hv
  have HG0 := Aside0.mk ho0.lt
  have HE := Aside0.mk (blk_alloc (heap_alloc_new w (.cells #[.int .u64 s0, .int .u64 s1, .int .u64 s2, .int .u64 s3, .int .u64 s4, .int .u64 s5, .int .u64 s6, .int .u64 s7] 69 (0, 0))) (.cells #[.int .i64 0] 3))
  have HO := Aside0.mk ((ho0.alloc (.cells #[.int .u64 s0, .int .u64 s1, .int .u64 s2, .int .u64 s3, .int .u64 s4, .int .u64 s5, .int .u64 s6, .int .u64 s7] 69 (0, 0))).alloc (.cells #[.int .i64 0] 3))
  have HA := Aside0.mk (show At1 ((w.alloc (.cells #[.int .u64 s0, .int .u64 s1, .int .u64 s2, .int .u64 s3, .int .u64 s4, .int .u64 s5, .int .u64 s6, .int .u64 s7] 69 (0, 0))).alloc (.cells #[.int .i64 0] 3)) (w.heap.size + 1) ((0 : Nat) : Int) from by
    have := heap_alloc_new (w.alloc (.cells #[.int .u64 s0, .int .u64 s1, .int .u64 s2, .int .u64 s3, .int .u64 s4, .int .u64 s5, .int .u64 s6, .int .u64 s7] 69 (0, 0))) (.cells #[.int .i64 0] 3)
    rw [World.size_alloc] at this
    exact this)
  have HB := Aside0.mk (((Onl.refl (fun k => k = g ∨ w.heap.size ≤ k) w).below (below_alloc (Below.refl _ _) (.cells #[.int .u64 s0, .int .u64 s1, .int .u64 s2, .int .u64 s3, .int .u64 s4, .int .u64 s5, .int .u64 s6, .int .u64 s7] 69 (0, 0)))).below (below_alloc (Below.refl _ _) (.cells #[.int .i64 0] 3)))
  clear ho0 hn hw8 hny hc hv
  go_enter Try.func77, Try.ntmps77
  go_wp2
  go_loopg [4, 5] words (fun kq v4 v5 w' => ∃ (i ga : Nat), v4 = .pointer (some ⟨ga, 0, none⟩) ∧ v5 = .int .i64 (i : Int) ∧ Aside0 (kq + i = words) ∧ Aside0 (At1 w' ga ((8 * i : Nat) : Int)) ∧ Aside0 (w.heap.size < ga) ∧ Aside0 (At8 5 w' g (stB i [s0, s1, s2, s3, s4, s5, s6, s7] ys)) ∧ Aside0 (w'.heap[w.heap.size]? = some (.cells #[.int .u64 s0, .int .u64 s1, .int .u64 s2, .int .u64 s3, .int .u64 s4, .int .u64 s5, .int .u64 s6, .int .u64 s7] 69 (0, 0))) ∧ Aside0 (Onl (fun k => k = g ∨ w.heap.size ≤ k) w w'))
  case atStart => exact ⟨0, w.heap.size + 1, rfl, rfl, ⟨by omega⟩, HA, ⟨by omega⟩, HO, HE, HB⟩
  case round =>
    clear HA HO HE HB
    obtain ⟨i, ga, rfl, rfl, HI, HA, HGA, HO, HE, HB⟩ := hrel
    have ha0 : wr.cell? ⟨ga, 0, none⟩ = some (.int .i64 (8 * (i : Int))) := (blk_cell HA.out 0).trans (by simp)
    by_cases h1 : i < words
    · have c1 : decide (8 * (i : Int) < (n : Int)) = true := decide_eq_true (by have := HN.out; omega)
      have hi8 : i < 8 := by have := HW8.out; omega
      obtain ⟨v, hvv⟩ : ∃ v, v = [s0, s1, s2, s3, s4, s5, s6, s7].getD i 0 := ⟨_, rfl⟩
      have hs0 := st_cell HE.out i hi8
      rw [← hvv] at hs0
      have hv0 := HV.out i hi8
      rw [← hvv] at hv0
      have HV0 := Aside0.mk hv0
      have HVV := Aside0.mk hvv
      clear hv0 hvv
      have HI8 := Aside0.mk hi8
      have H1 := Aside0.mk h1
      clear h1
      have hq8 := eq_true hi8
      have hp8 := eq_true (show 0 ≤ (i : Int) by omega)
      have hq9 := eq_true (show (i : Int) < 8 by omega)
      clear hi8
      go_wp2_with (go_at_call 91; (with_reducible refine (rowput8 hO g ga (8 * i) n c _ _ _ HO.out HA.out (by have := HGA.out; have := HG0.out; omega) (by rw [stB_len]; exact HNY.out) HC.out (by have := HN.out; have := HW8.out; omega) (by have := HN.out; have := H1.out; omega) HV0.out.1 HV0.out.2).mono ?_); rintro e w' ⟨rfl, h1, h2, h3⟩; have n0_ := Aside0.mk (show At8 5 w' g (stB (i + 1) [s0, s1, s2, s3, s4, s5, s6, s7] ys) by rw [stB, ← HVV.out]; exact h1); have n1_ := Aside0.mk (HB.out.trans (h3.mono (fun k hk => by have := HGA.out; omega))); have n2_ := Aside0.mk h2; have n3_ := Aside0.mk ((h3.block w.heap.size (World.block_lt_of_cell? _ _ hs0) (by have := HGA.out; have := HG0.out; omega)).trans HE.out); clear HO HB HA HE h1 h2 h3 hs0 ha0; have HO := n0_; have HB := n1_; have HA := n2_; have HE := n3_; clear n0_ n1_ n2_ n3_; have ha0 : w'.cell? ⟨ga, 0, none⟩ = some (.int .i64 (8 * (i : Int) + 8)) := (blk_cell HA.out 0).trans (by simp))
      have hwr : wrap64 ((i : Int) + 1) = ((i + 1 : Nat) : Int) := by
        have := HI8.out
        unfold wrap64
        omega
      rw [hwr]
      obtain ⟨k1, rfl⟩ : ∃ k1, gk = k1 + 1 := ⟨gk - 1, by have := HI.out; have := H1.out; omega⟩
      go_roundg k1
      case measure => omega
      case rel => exact ⟨i + 1, w'.heap.size, rfl, rfl, ⟨by have := HI.out; omega⟩, ⟨by
        have := heap_alloc_new w' (.cells #[.int .i64 (8 * (i : Int) + 8)] 3)
        show _ = some (Obj.cells #[.int .i64 ((8 * (i + 1) : Nat) : Int)] 3 (0, 0))
        rw [this]
        congr 5⟩, ⟨by
        have h := HB.out.size
        have h2 : ga < w'.heap.size := World.block_lt_of_cell? _ _ ha0
        have := HGA.out
        omega⟩, ⟨HO.out.alloc _⟩, ⟨blk_alloc HE.out _⟩, ⟨HB.out.below (below_alloc (Below.refl _ _) _)⟩⟩
    · have c1 : decide (8 * (i : Int) < (n : Int)) = false := decide_eq_false (by have := HN.out; omega)
      have H1 := Aside0.mk (by have := HI.out; omega : i = words)
      clear h1
      go_wp2
      go_end0
      exact ⟨rfl, by rw [← H1.out]; exact HO.out, HB.out.new⟩
/-- What has been read of a state after i words. -/
def bk (n : Nat) (ys : List Int) (i j : Nat) : Int := if j < i then QGet.grain_Get.go (ys.take n) ((8 * j : Nat) : Int) 8 else 0
theorem bk_put {w : World} {g : Nat} {t : TypeId} {n : Nat} {ys : List Int} {i : Nat} (h : w.heap[g]? = some (.cells (#[.int .u64 (bk n ys i 0), .int .u64 (bk n ys i 1), .int .u64 (bk n ys i 2), .int .u64 (bk n ys i 3), .int .u64 (bk n ys i 4), .int .u64 (bk n ys i 5), .int .u64 (bk n ys i 6), .int .u64 (bk n ys i 7)]) t (0, 0))) (hi : i < 8) (v : Int) (hv : v = QGet.grain_Get.go (ys.take n) ((8 * i : Nat) : Int) 8) : (w.setCell ⟨g, i, none⟩ (.int .u64 v)).heap[g]? = some (.cells (#[.int .u64 (bk n ys (i + 1) 0), .int .u64 (bk n ys (i + 1) 1), .int .u64 (bk n ys (i + 1) 2), .int .u64 (bk n ys (i + 1) 3), .int .u64 (bk n ys (i + 1) 4), .int .u64 (bk n ys (i + 1) 5), .int .u64 (bk n ys (i + 1) 6), .int .u64 (bk n ys (i + 1) 7)]) t (0, 0)) := by
  refine blk_put h i _ ?_
  subst hv
  have : i = 0 ∨ i = 1 ∨ i = 2 ∨ i = 3 ∨ i = 4 ∨ i = 5 ∨ i = 6 ∨ i = 7 := by omega
  rcases this with rfl | rfl | rfl | rfl | rfl | rfl | rfl | rfl <;> rfl
theorem bk_some {w : World} {g : Nat} {t : TypeId} {n : Nat} {ys : List Int} {i : Nat} (h : w.heap[g]? = some (.cells (#[.int .u64 (bk n ys i 0), .int .u64 (bk n ys i 1), .int .u64 (bk n ys i 2), .int .u64 (bk n ys i 3), .int .u64 (bk n ys i 4), .int .u64 (bk n ys i 5), .int .u64 (bk n ys i 6), .int .u64 (bk n ys i 7)]) t (0, 0))) (j : Nat) (hj : j < 8) : w.cell? ⟨g, j, none⟩ = some (.int .u64 (bk n ys i j)) := by
  rw [blk_cell h j]
  have : j = 0 ∨ j = 1 ∨ j = 2 ∨ j = 3 ∨ j = 4 ∨ j = 5 ∨ j = 6 ∨ j = 7 := by omega
  rcases this with rfl | rfl | rfl | rfl | rfl | rfl | rfl | rfl <;> rfl
set_option maxHeartbeats 8000000 in
set_option maxRecDepth 100000 in
theorem stateBackR (g n c words : Nat) (ys : List Int) (w : World) (ho0 : At8 5 w g ys) (hn : n = 8 * words) (hw8 : words ≤ 8) (hny : n ≤ ys.length) (hy : ys.length ≤ 1000000) (hc : n ≤ c) :
    Calls Try.prog 78 #[.slice (some ⟨g, 0, none⟩) n c] w fun e w' => e = .returned (.agg (#[.int .u64 (bk n ys words 0), .int .u64 (bk n ys words 1), .int .u64 (bk n ys words 2), .int .u64 (bk n ys words 3), .int .u64 (bk n ys words 4), .int .u64 (bk n ys words 5), .int .u64 (bk n ys words 6), .int .u64 (bk n ys words 7)])) ∧ Below w.heap.size w w' := by
  have HN := Aside0.mk hn
  have HW8 := Aside0.mk hw8
  have HNY := Aside0.mk hny
  have HY := Aside0.mk hy
  have HC := Aside0.mk hc
  have HG0 := Aside0.mk ho0.lt
  have HE := Aside0.mk (show ((w.alloc (.cells #[.int .u64 0, .int .u64 0, .int .u64 0, .int .u64 0, .int .u64 0, .int .u64 0, .int .u64 0, .int .u64 0] 69)).alloc (.cells #[.int .i64 0] 3)).heap[w.heap.size]? = some (.cells (#[.int .u64 (bk n ys 0 0), .int .u64 (bk n ys 0 1), .int .u64 (bk n ys 0 2), .int .u64 (bk n ys 0 3), .int .u64 (bk n ys 0 4), .int .u64 (bk n ys 0 5), .int .u64 (bk n ys 0 6), .int .u64 (bk n ys 0 7)]) 69 (0, 0)) from blk_alloc (heap_alloc_new w (.cells #[.int .u64 0, .int .u64 0, .int .u64 0, .int .u64 0, .int .u64 0, .int .u64 0, .int .u64 0, .int .u64 0] 69)) (.cells #[.int .i64 0] 3))
  have HO := Aside0.mk ((ho0.alloc (.cells #[.int .u64 0, .int .u64 0, .int .u64 0, .int .u64 0, .int .u64 0, .int .u64 0, .int .u64 0, .int .u64 0] 69)).alloc (.cells #[.int .i64 0] 3))
  have HA := Aside0.mk (show At1 ((w.alloc (.cells #[.int .u64 0, .int .u64 0, .int .u64 0, .int .u64 0, .int .u64 0, .int .u64 0, .int .u64 0, .int .u64 0] 69)).alloc (.cells #[.int .i64 0] 3)) (w.heap.size + 1) ((0 : Nat) : Int) from by
    have := heap_alloc_new (w.alloc (.cells #[.int .u64 0, .int .u64 0, .int .u64 0, .int .u64 0, .int .u64 0, .int .u64 0, .int .u64 0, .int .u64 0] 69)) (.cells #[.int .i64 0] 3)
    rw [World.size_alloc] at this
    exact this)
  have HB := Aside0.mk (((Onl.refl (fun k => w.heap.size ≤ k) w).below (below_alloc (Below.refl _ _) (.cells #[.int .u64 0, .int .u64 0, .int .u64 0, .int .u64 0, .int .u64 0, .int .u64 0, .int .u64 0, .int .u64 0] 69))).below (below_alloc (Below.refl _ _) (.cells #[.int .i64 0] 3)))
  clear ho0 hn hw8 hny hc hy
  go_enter Try.func78, Try.ntmps78
  go_wp2
  go_loopg [3, 4] words (fun kq v3 v4 w' => ∃ (i ga : Nat), v3 = .pointer (some ⟨ga, 0, none⟩) ∧ v4 = .int .i64 (i : Int) ∧ Aside0 (kq + i = words) ∧ Aside0 (At1 w' ga ((8 * i : Nat) : Int)) ∧ Aside0 (w.heap.size < ga) ∧ Aside0 (At8 5 w' g ys) ∧ Aside0 (w'.heap[w.heap.size]? = some (.cells (#[.int .u64 (bk n ys i 0), .int .u64 (bk n ys i 1), .int .u64 (bk n ys i 2), .int .u64 (bk n ys i 3), .int .u64 (bk n ys i 4), .int .u64 (bk n ys i 5), .int .u64 (bk n ys i 6), .int .u64 (bk n ys i 7)]) 69 (0, 0))) ∧ Aside0 (Onl (fun k => w.heap.size ≤ k) w w'))
  case atStart => exact ⟨0, w.heap.size + 1, rfl, rfl, ⟨by omega⟩, HA, ⟨by omega⟩, HO, HE, HB⟩
  case round =>
    clear HA HO HE HB
    obtain ⟨i, ga, rfl, rfl, HI, HA, HGA, HO, HE, HB⟩ := hrel
    have ha0 : wr.cell? ⟨ga, 0, none⟩ = some (.int .i64 (8 * (i : Int))) := (blk_cell HA.out 0).trans (by simp)
    by_cases h1 : i < words
    · have c1 : decide (8 * (i : Int) < (n : Int)) = true := decide_eq_true (by have := HN.out; omega)
      have hi8 : i < 8 := by have := HW8.out; omega
      obtain ⟨v, hvv⟩ : ∃ v, v = QGet.grain_Get.go (ys.take n) ((8 * i : Nat) : Int) 8 := ⟨_, rfl⟩
      have HVV := Aside0.mk hvv
      have HI8 := Aside0.mk hi8
      have H1 := Aside0.mk h1
      clear h1 hvv
      have hq8 := eq_true hi8
      have hp8 := eq_true (show 0 ≤ (i : Int) by omega)
      have hq9 := eq_true (show (i : Int) < 8 by omega)
      clear hi8
      go_wp2_with (go_at_call 92; (with_reducible refine (rowget8 g ga (8 * i) n c _ _ HO.out HA.out (by have := HGA.out; have := HG0.out; omega) HNY.out HY.out HC.out (by have := HN.out; have := H1.out; omega)).mono ?_); rintro e w' ⟨rfl, h2, h3⟩; rw [← HVV.out]; have n0_ := Aside0.mk (show At8 5 w' g ys from (h3.block g (Nat.lt_of_lt_of_le HG0.out HB.out.size) (by have := HGA.out; have := HG0.out; omega)).trans HO.out); have n1_ := Aside0.mk (HB.out.trans (h3.mono (fun k hk => by have := HGA.out; omega))); have n2_ := Aside0.mk h2; have n3_ := Aside0.mk ((h3.block w.heap.size (World.block_lt_of_cell? _ _ (bk_some HE.out i HI8.out)) (by have := HGA.out; omega)).trans HE.out); clear HO HB HA HE h2 h3 ha0; have HO := n0_; have HB := n1_; have HA := n2_; have HE := n3_; clear n0_ n1_ n2_ n3_; have ha0 : w'.cell? ⟨ga, 0, none⟩ = some (.int .i64 (8 * (i : Int) + 8)) := (blk_cell HA.out 0).trans (by simp); have he0 := bk_some HE.out i HI8.out; have hf0 := blk_frozen HE.out i; have hga := HGA.out)
      have hwr : wrap64 ((i : Int) + 1) = ((i + 1 : Nat) : Int) := by
        have := HI8.out
        unfold wrap64
        omega
      rw [hwr]
      obtain ⟨k1, rfl⟩ : ∃ k1, gk = k1 + 1 := ⟨gk - 1, by have := HI.out; have := H1.out; omega⟩
      have hsz := heap_alloc_new (w'.setCell ⟨w.heap.size, i, none⟩ (.int .u64 v)) (.cells #[.int .i64 (8 * (i : Int) + 8)] 3)
      rw [World.size_setCell] at hsz
      go_roundg k1
      case measure => omega
      case rel => exact ⟨i + 1, w'.heap.size, rfl, rfl, ⟨by have := HI.out; omega⟩, ⟨hsz⟩, ⟨by
        have h := HB.out.size
        have h2 : ga < w'.heap.size := World.block_lt_of_cell? _ _ ha0
        have := HGA.out
        omega⟩, ⟨(HO.out.far' (by have := HG0.out; omega) _ _).alloc _⟩, ⟨blk_alloc (bk_put HE.out HI8.out v HVV.out) _⟩, ⟨(HB.out.set (Nat.le_refl _) _ _).below (below_alloc (Below.refl _ _) _)⟩⟩
    · have c1 : decide (8 * (i : Int) < (n : Int)) = false := decide_eq_false (by have := HN.out; omega)
      have H1 := Aside0.mk (by have := HI.out; omega : i = words)
      clear h1
      have he0 := bk_some HE.out 0 (by omega)
      have hf0 := blk_frozen HE.out 0
      have he1 := bk_some HE.out 1 (by omega)
      have hf1 := blk_frozen HE.out 1
      have he2 := bk_some HE.out 2 (by omega)
      have hf2 := blk_frozen HE.out 2
      have he3 := bk_some HE.out 3 (by omega)
      have hf3 := blk_frozen HE.out 3
      have he4 := bk_some HE.out 4 (by omega)
      have hf4 := blk_frozen HE.out 4
      have he5 := bk_some HE.out 5 (by omega)
      have hf5 := blk_frozen HE.out 5
      have he6 := bk_some HE.out 6 (by omega)
      have hf6 := blk_frozen HE.out 6
      have he7 := bk_some HE.out 7 (by omega)
      have hf7 := blk_frozen HE.out 7
      go_wp2
      rw [← H1.out]
      have hE1 := (blk_put (blk_put (blk_put (blk_put (blk_put (blk_put (blk_put (blk_put HE.out 0 (.int .u64 (bk n ys i 0)) rfl) 1 (.int .u64 (bk n ys i 1)) rfl) 2 (.int .u64 (bk n ys i 2)) rfl) 3 (.int .u64 (bk n ys i 3)) rfl) 4 (.int .u64 (bk n ys i 4)) rfl) 5 (.int .u64 (bk n ys i 5)) rfl) 6 (.int .u64 (bk n ys i 6)) rfl) 7 (.int .u64 (bk n ys i 7)) rfl)
      refine bodyPost_ret (results_cell_row (p := 2) (ty := 69) rfl _ _ (w.heap.size) 69 _ (0, 0) _ rfl hE1 Try.underlying69 rfl (by kernel_rfl)) rfl ?_
      exact ⟨rfl, (((((((((HB.out.set (Nat.le_refl w.heap.size) 0 (.int .u64 (bk n ys i 0))).set (Nat.le_refl w.heap.size) 1 (.int .u64 (bk n ys i 1))).set (Nat.le_refl w.heap.size) 2 (.int .u64 (bk n ys i 2))).set (Nat.le_refl w.heap.size) 3 (.int .u64 (bk n ys i 3))).set (Nat.le_refl w.heap.size) 4 (.int .u64 (bk n ys i 4))).set (Nat.le_refl w.heap.size) 5 (.int .u64 (bk n ys i 5))).set (Nat.le_refl w.heap.size) 6 (.int .u64 (bk n ys i 6))).set (Nat.le_refl w.heap.size) 7 (.int .u64 (bk n ys i 7)))).fresh⟩
end ReelState
section ReelClosS
open Go.RowKit Go.Proofs.YtnmhfcfojbfikaaW.PrintWords Go.Proofs.YtnmhfcfojbfikaaW.PrintLast Go.Proofs.YtnmhfcfojbfikaaW.PrintMore
set_option linter.unusedVariables false
set_option linter.unusedSimpArgs false
open QPut (grain_lay.go grain_lay.step grain_lay.len)
set_option maxHeartbeats 8000000 in
set_option maxRecDepth 100000 in
theorem putS (hO : LenOk) (g n c words b1 : Nat) (s0 s1 s2 s3 s4 s5 s6 s7 : Int) (ys : List Int) (w : World) (ho0 : At8 5 w g ys) (hb : w.heap[b1]? = some (.cells #[.func (.func 77) #[] #[]] 131 (0, 0))) (hn : n = 8 * words) (hw8 : words ≤ 8) (hny : n ≤ ys.length) (hc : n ≤ c) (hv : ∀ i, i < 8 → 0 ≤ [s0, s1, s2, s3, s4, s5, s6, s7].getD i 0 ∧ [s0, s1, s2, s3, s4, s5, s6, s7].getD i 0 < 18446744073709551616) :
    Calls Try.prog 100 #[.slice (some ⟨g, 0, none⟩) n c, .agg #[.int .u64 s0, .int .u64 s1, .int .u64 s2, .int .u64 s3, .int .u64 s4, .int .u64 s5, .int .u64 s6, .int .u64 s7], .pointer (some ⟨b1, 0, none⟩)] w fun e w' => e = .returned (.tuple #[]) ∧ At8 5 w' g (stB words [s0, s1, s2, s3, s4, s5, s6, s7] ys) ∧ Onl (fun k => k = g) w w' := by
  have hc1 := blk_cell (blk_alloc hb (.cells #[.int .u64 s0, .int .u64 s1, .int .u64 s2, .int .u64 s3, .int .u64 s4, .int .u64 s5, .int .u64 s6, .int .u64 s7] 69)) 0
  have HG := Aside0.mk (ho0.alloc (.cells #[.int .u64 s0, .int .u64 s1, .int .u64 s2, .int .u64 s3, .int .u64 s4, .int .u64 s5, .int .u64 s6, .int .u64 s7] 69))
  have HC := Aside0.mk hc
  have HY := Aside0.mk hny
  have HN := Aside0.mk hn
  have HV := Aside0.mk hv
  have HW8 := Aside0.mk hw8
  have HB := Aside0.mk ((Onl.refl (fun k => k = g) w).below (below_alloc (Below.refl _ _) (.cells #[.int .u64 s0, .int .u64 s1, .int .u64 s2, .int .u64 s3, .int .u64 s4, .int .u64 s5, .int .u64 s6, .int .u64 s7] 69)))
  clear ho0 hc hb hny hn hv hw8
  go_enter Try.func100, Try.ntmps100
  go_wp2_with (go_at_call 77; refine (stateR hO g n c words s0 s1 s2 s3 s4 s5 s6 s7 ys _ HG.out HN.out HW8.out HY.out HC.out HV.out).mono ?_; rintro e w1 ⟨rfl, h1, h2⟩; have H1 := Aside0.mk h1; have H2 := Aside0.mk (HB.out.trans h2); clear h1 h2 HB HG)
  go_end0
  exact ⟨rfl, H1.out, H2.out⟩
set_option maxHeartbeats 8000000 in
set_option maxRecDepth 100000 in
theorem getS (g n c words b2 : Nat) (ys : List Int) (w : World) (ho0 : At8 5 w g ys) (hb : w.heap[b2]? = some (.cells #[.func (.func 78) #[] #[]] 133 (0, 0))) (hn : n = 8 * words) (hw8 : words ≤ 8) (hny : n ≤ ys.length) (hy : ys.length ≤ 1000000) (hc : n ≤ c) :
    Calls Try.prog 101 #[.slice (some ⟨g, 0, none⟩) n c, .pointer (some ⟨b2, 0, none⟩)] w fun e w' => e = .returned (.agg #[.int .u64 (bk n ys words 0), .int .u64 (bk n ys words 1), .int .u64 (bk n ys words 2), .int .u64 (bk n ys words 3), .int .u64 (bk n ys words 4), .int .u64 (bk n ys words 5), .int .u64 (bk n ys words 6), .int .u64 (bk n ys words 7)]) ∧ Below w.heap.size w w' := by
  have hc1 := blk_cell (blk_alloc hb (.cells #[.int .u64 0, .int .u64 0, .int .u64 0, .int .u64 0, .int .u64 0, .int .u64 0, .int .u64 0, .int .u64 0] 69)) 0
  have HG := Aside0.mk (ho0.alloc (.cells #[.int .u64 0, .int .u64 0, .int .u64 0, .int .u64 0, .int .u64 0, .int .u64 0, .int .u64 0, .int .u64 0] 69))
  have HE := Aside0.mk (heap_alloc_new w (.cells #[.int .u64 0, .int .u64 0, .int .u64 0, .int .u64 0, .int .u64 0, .int .u64 0, .int .u64 0, .int .u64 0] 69))
  have HB := Aside0.mk ((Onl.refl (fun k => w.heap.size ≤ k) w).below (below_alloc (Below.refl _ _) (.cells #[.int .u64 0, .int .u64 0, .int .u64 0, .int .u64 0, .int .u64 0, .int .u64 0, .int .u64 0, .int .u64 0] 69)))
  have HC := Aside0.mk hc
  have HY := Aside0.mk hny
  have HYY := Aside0.mk hy
  have HN := Aside0.mk hn
  have HW8 := Aside0.mk hw8
  clear ho0 hc hb hny hn hw8 hy
  go_enter Try.func101, Try.ntmps101
  go_wp2_with (go_at_call 78; refine (stateBackR g n c words ys _ HG.out HN.out HW8.out HY.out HYY.out HC.out).mono ?_; rintro e w1 ⟨rfl, h2⟩; have H2 := Aside0.mk (HB.out.below h2); have H3 := Aside0.mk (blk_below HE.out h2); clear h2 HB HG HE; have he0 := blk_cell H3.out 0; have hf0 := blk_frozen H3.out 0; have he1 := blk_cell H3.out 1; have hf1 := blk_frozen H3.out 1; have he2 := blk_cell H3.out 2; have hf2 := blk_frozen H3.out 2; have he3 := blk_cell H3.out 3; have hf3 := blk_frozen H3.out 3; have he4 := blk_cell H3.out 4; have hf4 := blk_frozen H3.out 4; have he5 := blk_cell H3.out 5; have hf5 := blk_frozen H3.out 5; have he6 := blk_cell H3.out 6; have hf6 := blk_frozen H3.out 6; have he7 := blk_cell H3.out 7; have hf7 := blk_frozen H3.out 7)
  have hE1 := (blk_put (blk_put (blk_put (blk_put (blk_put (blk_put (blk_put (blk_put H3.out 0 (.int .u64 (bk n ys words 0)) rfl) 1 (.int .u64 (bk n ys words 1)) rfl) 2 (.int .u64 (bk n ys words 2)) rfl) 3 (.int .u64 (bk n ys words 3)) rfl) 4 (.int .u64 (bk n ys words 4)) rfl) 5 (.int .u64 (bk n ys words 5)) rfl) 6 (.int .u64 (bk n ys words 6)) rfl) 7 (.int .u64 (bk n ys words 7)) rfl)
  refine bodyPost_ret (results_cell_row (p := 3) (ty := 69) rfl _ _ (w.heap.size) 69 _ (0, 0) _ rfl hE1 Try.underlying69 rfl (by kernel_rfl)) rfl ?_
  exact ⟨rfl, (((((((((H2.out.set (Nat.le_refl w.heap.size) 0 (.int .u64 (bk n ys words 0))).set (Nat.le_refl w.heap.size) 1 (.int .u64 (bk n ys words 1))).set (Nat.le_refl w.heap.size) 2 (.int .u64 (bk n ys words 2))).set (Nat.le_refl w.heap.size) 3 (.int .u64 (bk n ys words 3))).set (Nat.le_refl w.heap.size) 4 (.int .u64 (bk n ys words 4))).set (Nat.le_refl w.heap.size) 5 (.int .u64 (bk n ys words 5))).set (Nat.le_refl w.heap.size) 6 (.int .u64 (bk n ys words 6))).set (Nat.le_refl w.heap.size) 7 (.int .u64 (bk n ys words 7)))).fresh⟩
end ReelClosS
section ReelLayS
open Go.RowKit Go.Proofs.YtnmhfcfojbfikaaW.PrintWords Go.Proofs.YtnmhfcfojbfikaaW.PrintLast Go.Proofs.YtnmhfcfojbfikaaW.PrintMore
set_option linter.unusedVariables false
set_option linter.unusedSimpArgs false
open QPut (grain_lay.go grain_lay.step grain_lay.len)
set_option maxHeartbeats 8000000 in
set_option maxRecDepth 100000 in
theorem layFailS (width : Int) (b1 b2 n c : Nat) (A : Option Addr) (s0 s1 s2 s3 s4 s5 s6 s7 : Int) (w : World) (x : Int) (h0 : roomFS width n = x) (hx : x = 2 ∨ x = 67) :
    Calls Try.prog 46 #[formVS width b1 b2, .slice A n c, .agg #[.int .u64 s0, .int .u64 s1, .int .u64 s2, .int .u64 s3, .int .u64 s4, .int .u64 s5, .int .u64 s6, .int .u64 s7]] w fun e w' => e = .returned (.int .i64 x) ∧ Below w.heap.size w w' := by
  have H0 := Aside0.mk h0
  clear h0
  have HB := Aside0.mk (Below.refl w.heap.size w)
  unfold formVS
  go_enter Try.func46, Try.ntmps46
  go_upto_region 2 with (go_at_call 79; refine (roomS width b1 b2 _ n c _).mono ?_; rintro e wc ⟨rfl, hb⟩; rw [H0.out]; have n0_ := Aside0.mk (below_step (below_alloc (below_alloc HB.out _) _) hb); clear HB hb; have HB := n0_; clear n0_)
  rcases hx with rfl | rfl
  all_goals
    go_wp2
    go_ret
    exact ⟨rfl, by repeat (first | (with_reducible first | exact HB.out | apply below_alloc | apply pw_below_drewN | apply below_drew1) | exact HB.out)⟩
set_option maxHeartbeats 8000000 in
set_option maxRecDepth 100000 in
theorem layS (hO : LenOk) (width : Int) (b1 b2 g n c words : Nat) (s0 s1 s2 s3 s4 s5 s6 s7 : Int) (ys : List Int) (w : World) (hH : HoldsS w b1 b2) (hg : At8 5 w g ys) (hfit : n ≤ ys.length) (hc : n ≤ c) (h0 : roomFS width n = 0) (hwd : width = 8 * (words : Int)) (hw8 : words ≤ 8) (hv : ∀ i, i < 8 → 0 ≤ [s0, s1, s2, s3, s4, s5, s6, s7].getD i 0 ∧ [s0, s1, s2, s3, s4, s5, s6, s7].getD i 0 < 18446744073709551616) :
    Calls Try.prog 46 #[formVS width b1 b2, .slice (some ⟨g, 0, none⟩) n c, .agg #[.int .u64 s0, .int .u64 s1, .int .u64 s2, .int .u64 s3, .int .u64 s4, .int .u64 s5, .int .u64 s6, .int .u64 s7]] w fun e w' => e = .returned (.int .i64 0) ∧ At8 5 w' g (stB words [s0, s1, s2, s3, s4, s5, s6, s7] ys) ∧ Onl (fun k => k = g) w w' := by
  have hw1 : 1 ≤ width ∧ width ≤ 256 ∧ width ≤ n := by
    unfold roomFS at h0
    split at h0
    · cases h0
    · split at h0
      · cases h0
      · omega
  have HW := Aside0.mk hw1
  have HH := Aside0.mk hH
  have HG := Aside0.mk hg
  have HF := Aside0.mk hfit
  have HC := Aside0.mk hc
  have H0 := Aside0.mk h0
  have HWD := Aside0.mk hwd
  have HW8 := Aside0.mk hw8
  have HV := Aside0.mk hv
  clear hg hfit hc hH h0 hw1 hwd hw8 hv
  have HB := Aside0.mk (Below.refl w.heap.size w)
  have hbx := blk_alloc (at_newS' w (.cells #[.int .i64 width, .func (.func 100) #[] #[.pointer (some ⟨b1, 0, none⟩)], .func (.func 101) #[] #[.pointer (some ⟨b2, 0, none⟩)]] 92 (0, 0)) w.heap.size rfl) (.cells #[.int .u64 s0, .int .u64 s1, .int .u64 s2, .int .u64 s3, .int .u64 s4, .int .u64 s5, .int .u64 s6, .int .u64 s7] 69 (0, 0))
  have hby := at_newS' (w.alloc (.cells #[.int .i64 width, .func (.func 100) #[] #[.pointer (some ⟨b1, 0, none⟩)], .func (.func 101) #[] #[.pointer (some ⟨b2, 0, none⟩)]] 92 (0, 0))) (.cells #[.int .u64 s0, .int .u64 s1, .int .u64 s2, .int .u64 s3, .int .u64 s4, .int .u64 s5, .int .u64 s6, .int .u64 s7] 69 (0, 0)) (w.heap.size + 1) (by rw [World.size_alloc])
  have hbx0 := blk_cell hbx 0
  have hby0 := blk_cell hby 0
  unfold formVS
  obtain ⟨i5, hi5, _, _, _⟩ := info_parts info5
  have hct := cut_all (P := Try.prog) 44 5 .i64 .i64 Try.underlying44 hi5 (some ⟨g, 0, none⟩) n c width (by have := HW.out; omega) (by have := HW.out; omega) HC.out
  go_enter Try.func46, Try.ntmps46
  go_upto_region 2 with (go_at_call 79; refine (roomS width b1 b2 _ n c _).mono ?_; rintro e wc ⟨rfl, hb⟩; rw [H0.out]; have HX := Aside0.mk (blk_below hbx hb); have HX2 := Aside0.mk (blk_below hby hb); have n0_ := Aside0.mk (below_step (below_alloc (below_alloc HB.out _) _) hb); clear HB hb; have HB := n0_; clear n0_)
  go_upto_region 4 with (fail)
  refine start_ (n := 10) (S := fun w' => w'.cell? ⟨w.heap.size, 0, none⟩ = some (.int .i64 width) ∧ w'.cell? ⟨w.heap.size, 1, none⟩ = some (.func (.func 100) #[] #[.pointer (some ⟨b1, 0, none⟩)]) ∧ w'.cell? ⟨w.heap.size + 1, 0, none⟩ = some (.int .u64 s0) ∧ w'.cell? ⟨w.heap.size + 1, 1, none⟩ = some (.int .u64 s1) ∧ w'.cell? ⟨w.heap.size + 1, 2, none⟩ = some (.int .u64 s2) ∧ w'.cell? ⟨w.heap.size + 1, 3, none⟩ = some (.int .u64 s3) ∧ w'.cell? ⟨w.heap.size + 1, 4, none⟩ = some (.int .u64 s4) ∧ w'.cell? ⟨w.heap.size + 1, 5, none⟩ = some (.int .u64 s5) ∧ w'.cell? ⟨w.heap.size + 1, 6, none⟩ = some (.int .u64 s6) ∧ w'.cell? ⟨w.heap.size + 1, 7, none⟩ = some (.int .u64 s7) ∧ Below w.heap.size w w') (ds := [9]) #[false, false, false, false, false, false, false, false, false, false] (by kernel_rfl) rfl rfl ⟨(blk_cell HX.out 0), (blk_cell HX.out 1), (blk_cell HX2.out 0), (blk_cell HX2.out 1), (blk_cell HX2.out 2), (blk_cell HX2.out 3), (blk_cell HX2.out 4), (blk_cell HX2.out 5), (blk_cell HX2.out 6), (blk_cell HX2.out 7), (below_drew1 HB.out)⟩ (fun hHeld => ?_)
  refine pure_ (i := 0) (N := some 14) (v := ?_) (a' := ?_) #[true, false, false, false, false, false, false, false, false, false] rfl rfl (by kernel_rfl) (fun _ _ _ h => h) (Or.inl ⟨by rfl, ?_⟩) ?_ ?_
  rotate_left
  · intro w'
    go_simp
    with_reducible rfl
  rotate_left
  · simp only [Act.put, List.setIfInBounds_toArray, List.set_cons_zero, List.set_cons_succ, i64_w, i32_w]
    rfl
  refine pure_ (i := 2) (N := some 16) (v := ?_) (a' := ?_) #[true, false, true, false, false, false, false, false, false, false] rfl rfl (by kernel_rfl) (fun _ _ _ h => h) (Or.inl ⟨by rfl, ?_⟩) ?_ ?_
  rotate_left
  · intro w'
    go_simp
    with_reducible rfl
  rotate_left
  · simp only [Act.put, List.setIfInBounds_toArray, List.set_cons_zero, List.set_cons_succ, i64_w, i32_w]
    rfl
  refine pure_ (i := 3) (N := some 17) (v := ?_) (a' := ?_) #[true, false, true, true, false, false, false, false, false, false] rfl rfl (by kernel_rfl) (fun _ _ _ h => h) (Or.inl ⟨by rfl, ?_⟩) ?_ ?_
  rotate_left
  · intro w'
    go_simp
    with_reducible rfl
  rotate_left
  · simp only [Act.put, List.setIfInBounds_toArray, List.set_cons_zero, List.set_cons_succ, i64_w, i32_w]
    rfl
  refine pure_ (i := 5) (N := some 19) (v := ?_) (a' := ?_) #[true, false, true, true, false, true, false, false, false, false] rfl rfl (by kernel_rfl) (fun _ _ _ h => h) (Or.inl ⟨by rfl, ?_⟩) ?_ ?_
  rotate_left
  · intro w'
    go_simp
    with_reducible rfl
  rotate_left
  · simp only [Act.put, List.setIfInBounds_toArray, List.set_cons_zero, List.set_cons_succ, i64_w, i32_w]
    rfl
  refine take_ (i := 1) (N := some 15) (v := ?_) (a' := ?_) #[true, true, true, true, false, true, false, false, false, false] rfl rfl (by kernel_rfl) (fun _ _ _ h => h) (Or.inl ⟨by rfl, ?_⟩) hHeld ?_ ?_
  rotate_left
  · rintro w' ⟨p0, p1, q0, q1, q2, q3, q4, q5, q6, q7, p2⟩
    go_simp
    with_reducible rfl
  rotate_left
  · simp only [Act.put, List.setIfInBounds_toArray, List.set_cons_zero, List.set_cons_succ, i64_w, i32_w]
    rfl
  refine take_ (i := 4) (N := some 18) (v := ?_) (a' := ?_) #[true, true, true, true, true, true, false, false, false, false] rfl rfl (by kernel_rfl) (fun _ _ _ h => h) (Or.inl ⟨by rfl, ?_⟩) hHeld ?_ ?_
  rotate_left
  · rintro w' ⟨p0, p1, q0, q1, q2, q3, q4, q5, q6, q7, p2⟩
    go_simp
    with_reducible rfl
  rotate_left
  · simp only [Act.put, List.setIfInBounds_toArray, List.set_cons_zero, List.set_cons_succ, i64_w, i32_w]
    rfl
  refine take_ (i := 6) (N := some 20) (v := ?_) (a' := ?_) #[true, true, true, true, true, true, true, false, false, false] rfl rfl (by kernel_rfl) (fun _ _ _ h => h) (Or.inl ⟨by rfl, ?_⟩) hHeld ?_ ?_
  rotate_left
  · rintro w' ⟨p0, p1, q0, q1, q2, q3, q4, q5, q6, q7, p2⟩
    go_simp
    with_reducible rfl
  rotate_left
  · simp only [Act.put, List.setIfInBounds_toArray, List.set_cons_zero, List.set_cons_succ, i64_w, i32_w]
    rfl
  refine take_ (i := 8) (N := some 22) (v := ?_) (a' := ?_) #[true, true, true, true, true, true, true, false, true, false] rfl rfl (by kernel_rfl) (fun _ _ _ h => h) (Or.inl ⟨by rfl, ?_⟩) hHeld ?_ ?_
  rotate_left
  · rintro w' ⟨p0, p1, q0, q1, q2, q3, q4, q5, q6, q7, p2⟩
    go_simp
    with_reducible rfl
  rotate_left
  · simp only [Act.put, List.setIfInBounds_toArray, List.set_cons_zero, List.set_cons_succ, i64_w, i32_w]
    rfl
  refine pure_ (i := 7) (N := some 21) (v := ?_) (a' := ?_) #[true, true, true, true, true, true, true, true, true, false] rfl rfl (by kernel_rfl) (fun _ _ _ h => h) (Or.inl ⟨by rfl, ?_⟩) ?_ ?_
  rotate_left
  · intro w'
    go_simp
    with_reducible rfl
  rotate_left
  · simp only [Act.put, List.setIfInBounds_toArray, List.set_cons_zero, List.set_cons_succ, i64_w, i32_w]
    rfl
  have HBL := Aside0.mk hHeld.2.2.2.2.2.2.2.2.2.2
  refine last_ (i := 9) (N := some 23) #[true, true, true, true, true, true, true, true, true, true] rfl rfl (by kernel_rfl) (by decide) (fun K hK => ?_)
  refine goesV_ Try.func100 (by kernel_rfl) rfl #[.slice (some ⟨g, 0, none⟩) width.toNat width.toNat, .agg #[.int .u64 s0, .int .u64 s1, .int .u64 s2, .int .u64 s3, .int .u64 s4, .int .u64 s5, .int .u64 s6, .int .u64 s7], .pointer (some ⟨b1, 0, none⟩)] (by rfl) rfl rfl (by rfl) (by simp only [List.map_toArray, List.map_cons, List.map_nil]; rfl) ?_
  with_reducible refine (putS hO g width.toNat width.toNat words b1 s0 s1 s2 s3 s4 s5 s6 s7 ys _ (HG.out.below HBL.out) ((HBL.out.block _ (blk_lt HH.out.put)).trans HH.out.put) (by have := HWD.out; omega) HW8.out (by have := HW.out; have := HF.out; omega) (Nat.le_refl _) HV.out).mono ?_
  rintro e_ w' ⟨rfl, h1, h2⟩
  have H1 := Aside0.mk h1
  have H2 := Aside0.mk (((Onl.refl (fun k => k = g) w).below HBL.out).trans h2)
  clear h1 h2
  refine ⟨_, rfl, ?_⟩
  refine hK.out _ _ ?_
  clear hK K
  refine norm_ (a' := ?_) ?_ ?_
  rotate_left
  · show Act.put _ (some 23) _ = _
    simp only [Act.put, List.setIfInBounds_toArray, List.set_cons_zero, List.set_cons_succ, i64_w, i32_w]
    rfl
  refine done_ (by kernel_rfl) ?_
  go_wp2
  go_ret
  exact ⟨rfl, H1.out, H2.out⟩
end ReelLayS
section ReelTakeS
open Go.RowKit Go.Proofs.YtnmhfcfojbfikaaW.PrintWords Go.Proofs.YtnmhfcfojbfikaaW.PrintLast Go.Proofs.YtnmhfcfojbfikaaW.PrintMore
set_option linter.unusedVariables false
set_option linter.unusedSimpArgs false
open QPut (grain_lay.go grain_lay.step grain_lay.len)
set_option maxHeartbeats 8000000 in
set_option maxRecDepth 100000 in
theorem takeFailS (width : Int) (b1 b2 n c : Nat) (A : Option Addr) (w : World) (x : Int) (h0 : roomFS width n = x) (hx : x = 2 ∨ x = 67) :
    Calls Try.prog 48 #[formVS width b1 b2, .slice A n c] w fun e w' => e = .returned (.tuple #[.agg #[.int .u64 0, .int .u64 0, .int .u64 0, .int .u64 0, .int .u64 0, .int .u64 0, .int .u64 0, .int .u64 0], .int .i64 x]) ∧ Below w.heap.size w w' := by
  have H0 := Aside0.mk h0
  clear h0
  have HB := Aside0.mk (Below.refl w.heap.size w)
  have hby := at_newS' (w.alloc (.cells #[.int .i64 width, .func (.func 100) #[] #[.pointer (some ⟨b1, 0, none⟩)], .func (.func 101) #[] #[.pointer (some ⟨b2, 0, none⟩)]] 92 (0, 0))) (.cells #[.int .u64 0, .int .u64 0, .int .u64 0, .int .u64 0, .int .u64 0, .int .u64 0, .int .u64 0, .int .u64 0] 69 (0, 0)) (w.heap.size + 1) (by rw [World.size_alloc])
  unfold formVS
  go_enter Try.func48, Try.ntmps48
  go_upto_region 2 with (go_at_call 79; refine (roomS width b1 b2 _ n c _).mono ?_; rintro e wc ⟨rfl, hb⟩; rw [H0.out]; have HX := Aside0.mk (blk_below hby hb); have n0_ := Aside0.mk (below_step (below_alloc (below_alloc HB.out _) _) hb); clear HB hb hby; have HB := n0_; clear n0_)
  have he0 := blk_cell HX.out 0
  have hf0 := blk_frozen HX.out 0
  have he1 := blk_cell HX.out 1
  have hf1 := blk_frozen HX.out 1
  have he2 := blk_cell HX.out 2
  have hf2 := blk_frozen HX.out 2
  have he3 := blk_cell HX.out 3
  have hf3 := blk_frozen HX.out 3
  have he4 := blk_cell HX.out 4
  have hf4 := blk_frozen HX.out 4
  have he5 := blk_cell HX.out 5
  have hf5 := blk_frozen HX.out 5
  have he6 := blk_cell HX.out 6
  have hf6 := blk_frozen HX.out 6
  have he7 := blk_cell HX.out 7
  have hf7 := blk_frozen HX.out 7
  rcases hx with rfl | rfl
  all_goals
    go_wp2
    have hE1 := (blk_put (blk_put (blk_put (blk_put (blk_put (blk_put (blk_put (blk_put HX.out 0 (.int .u64 0) rfl) 1 (.int .u64 0) rfl) 2 (.int .u64 0) rfl) 3 (.int .u64 0) rfl) 4 (.int .u64 0) rfl) 5 (.int .u64 0) rfl) 6 (.int .u64 0) rfl) 7 (.int .u64 0) rfl)
    refine bodyPost_ret (results_ct (p := 4) (u := 5) (ty := 69) rfl _ _ (w.heap.size + 1) 69 _ (0, 0) _ rfl hE1 Try.underlying69 rfl (by kernel_rfl)) rfl ?_
    exact ⟨rfl, (below_set (j := 7) (v := .int .u64 0) (below_set (j := 6) (v := .int .u64 0) (below_set (j := 5) (v := .int .u64 0) (below_set (j := 4) (v := .int .u64 0) (below_set (j := 3) (v := .int .u64 0) (below_set (j := 2) (v := .int .u64 0) (below_set (j := 1) (v := .int .u64 0) (below_set (j := 0) (v := .int .u64 0) HB.out (Nat.le_succ _)) (Nat.le_succ _)) (Nat.le_succ _)) (Nat.le_succ _)) (Nat.le_succ _)) (Nat.le_succ _)) (Nat.le_succ _)) (Nat.le_succ _))⟩
set_option maxHeartbeats 8000000 in
set_option maxRecDepth 100000 in
theorem takeS (width : Int) (b1 b2 g n c : Nat) (s0 s1 s2 s3 s4 s5 s6 s7 : Int) (w : World) (hc : n ≤ c) (h0 : roomFS width n = 0)
    (hget : ∀ w1, Below w.heap.size w w1 → Calls Try.prog 101 #[.slice (some ⟨g, 0, none⟩) width.toNat width.toNat, .pointer (some ⟨b2, 0, none⟩)] w1 fun e w' => e = .returned (.agg #[.int .u64 s0, .int .u64 s1, .int .u64 s2, .int .u64 s3, .int .u64 s4, .int .u64 s5, .int .u64 s6, .int .u64 s7]) ∧ Below w1.heap.size w1 w') :
    Calls Try.prog 48 #[formVS width b1 b2, .slice (some ⟨g, 0, none⟩) n c] w fun e w' => e = .returned (.tuple #[.agg #[.int .u64 s0, .int .u64 s1, .int .u64 s2, .int .u64 s3, .int .u64 s4, .int .u64 s5, .int .u64 s6, .int .u64 s7], .int .i64 0]) ∧ Below w.heap.size w w' := by
  have hw1 : 1 ≤ width ∧ width ≤ 256 ∧ width ≤ n := by
    unfold roomFS at h0
    split at h0
    · cases h0
    · split at h0
      · cases h0
      · omega
  have HW := Aside0.mk hw1
  have HGET := Aside0.mk hget
  have HC := Aside0.mk hc
  have H0 := Aside0.mk h0
  clear hget hc h0 hw1
  have HB := Aside0.mk (Below.refl w.heap.size w)
  have hbx := blk_alloc (at_newS' w (.cells #[.int .i64 width, .func (.func 100) #[] #[.pointer (some ⟨b1, 0, none⟩)], .func (.func 101) #[] #[.pointer (some ⟨b2, 0, none⟩)]] 92 (0, 0)) w.heap.size rfl) (.cells #[.int .u64 0, .int .u64 0, .int .u64 0, .int .u64 0, .int .u64 0, .int .u64 0, .int .u64 0, .int .u64 0] 69 (0, 0))
  have hby := at_newS' (w.alloc (.cells #[.int .i64 width, .func (.func 100) #[] #[.pointer (some ⟨b1, 0, none⟩)], .func (.func 101) #[] #[.pointer (some ⟨b2, 0, none⟩)]] 92 (0, 0))) (.cells #[.int .u64 0, .int .u64 0, .int .u64 0, .int .u64 0, .int .u64 0, .int .u64 0, .int .u64 0, .int .u64 0] 69 (0, 0)) (w.heap.size + 1) (by rw [World.size_alloc])
  unfold formVS
  obtain ⟨i5, hi5, _, _, _⟩ := info_parts info5
  have hct := cut_all (P := Try.prog) 44 5 .i64 .i64 Try.underlying44 hi5 (some ⟨g, 0, none⟩) n c width (by have := HW.out; omega) (by have := HW.out; omega) HC.out
  go_enter Try.func48, Try.ntmps48
  go_upto_region 2 with (go_at_call 79; refine (roomS width b1 b2 _ n c _).mono ?_; rintro e wc ⟨rfl, hb⟩; rw [H0.out]; have HX := Aside0.mk (blk_below hbx hb); have HX2 := Aside0.mk (blk_below hby hb); have n0_ := Aside0.mk (below_step (below_alloc (below_alloc HB.out _) _) hb); clear HB hb; have HB := n0_; clear n0_)
  go_upto_region 3 with (fail)
  refine start_ (n := 10) (S := fun w' => w'.cell? ⟨w.heap.size, 0, none⟩ = some (.int .i64 width) ∧ w'.cell? ⟨w.heap.size, 2, none⟩ = some (.func (.func 101) #[] #[.pointer (some ⟨b2, 0, none⟩)]) ∧ w'.heap[w.heap.size + 1]? = some (.cells #[.int .u64 0, .int .u64 0, .int .u64 0, .int .u64 0, .int .u64 0, .int .u64 0, .int .u64 0, .int .u64 0] 69 (0, 0)) ∧ Below w.heap.size w w') (ds := [9]) #[false, false, false, false, false, false, false, false, false, false] (by kernel_rfl) rfl rfl ⟨(blk_cell HX.out 0), (blk_cell HX.out 2), (blk_drew HX2.out), (below_drew1 HB.out)⟩ (fun hHeld => ?_)
  refine pure_ (i := 0) (N := some 11) (v := ?_) (a' := ?_) #[true, false, false, false, false, false, false, false, false, false] rfl rfl (by kernel_rfl) (fun _ _ _ h => h) (Or.inl ⟨by rfl, ?_⟩) ?_ ?_
  rotate_left
  · intro w'
    go_simp
    with_reducible rfl
  rotate_left
  · simp only [Act.put, List.setIfInBounds_toArray, List.set_cons_zero, List.set_cons_succ, i64_w, i32_w]
    rfl
  refine pure_ (i := 2) (N := some 13) (v := ?_) (a' := ?_) #[true, false, true, false, false, false, false, false, false, false] rfl rfl (by kernel_rfl) (fun _ _ _ h => h) (Or.inl ⟨by rfl, ?_⟩) ?_ ?_
  rotate_left
  · intro w'
    go_simp
    with_reducible rfl
  rotate_left
  · simp only [Act.put, List.setIfInBounds_toArray, List.set_cons_zero, List.set_cons_succ, i64_w, i32_w]
    rfl
  refine pure_ (i := 3) (N := some 14) (v := ?_) (a' := ?_) #[true, false, true, true, false, false, false, false, false, false] rfl rfl (by kernel_rfl) (fun _ _ _ h => h) (Or.inl ⟨by rfl, ?_⟩) ?_ ?_
  rotate_left
  · intro w'
    go_simp
    with_reducible rfl
  rotate_left
  · simp only [Act.put, List.setIfInBounds_toArray, List.set_cons_zero, List.set_cons_succ, i64_w, i32_w]
    rfl
  refine pure_ (i := 5) (N := some 16) (v := ?_) (a' := ?_) #[true, false, true, true, false, true, false, false, false, false] rfl rfl (by kernel_rfl) (fun _ _ _ h => h) (Or.inl ⟨by rfl, ?_⟩) ?_ ?_
  rotate_left
  · intro w'
    go_simp
    with_reducible rfl
  rotate_left
  · simp only [Act.put, List.setIfInBounds_toArray, List.set_cons_zero, List.set_cons_succ, i64_w, i32_w]
    rfl
  refine take_ (i := 1) (N := some 12) (v := ?_) (a' := ?_) #[true, true, true, true, false, true, false, false, false, false] rfl rfl (by kernel_rfl) (fun _ _ _ h => h) (Or.inl ⟨by rfl, ?_⟩) hHeld ?_ ?_
  rotate_left
  · rintro w' ⟨s0, s1, s2, s3⟩
    go_simp
    with_reducible rfl
  rotate_left
  · simp only [Act.put, List.setIfInBounds_toArray, List.set_cons_zero, List.set_cons_succ, i64_w, i32_w]
    rfl
  refine take_ (i := 4) (N := some 15) (v := ?_) (a' := ?_) #[true, true, true, true, true, true, false, false, false, false] rfl rfl (by kernel_rfl) (fun _ _ _ h => h) (Or.inl ⟨by rfl, ?_⟩) hHeld ?_ ?_
  rotate_left
  · rintro w' ⟨s0, s1, s2, s3⟩
    go_simp
    with_reducible rfl
  rotate_left
  · simp only [Act.put, List.setIfInBounds_toArray, List.set_cons_zero, List.set_cons_succ, i64_w, i32_w]
    rfl
  refine take_ (i := 6) (N := some 17) (v := ?_) (a' := ?_) #[true, true, true, true, true, true, true, false, false, false] rfl rfl (by kernel_rfl) (fun _ _ _ h => h) (Or.inl ⟨by rfl, ?_⟩) hHeld ?_ ?_
  rotate_left
  · rintro w' ⟨s0, s1, s2, s3⟩
    go_simp
    with_reducible rfl
  rotate_left
  · simp only [Act.put, List.setIfInBounds_toArray, List.set_cons_zero, List.set_cons_succ, i64_w, i32_w]
    rfl
  refine pure_ (i := 7) (N := some 18) (v := ?_) (a' := ?_) #[true, true, true, true, true, true, true, true, false, false] rfl rfl (by kernel_rfl) (fun _ _ _ h => h) (Or.inl ⟨by rfl, ?_⟩) ?_ ?_
  rotate_left
  · intro w'
    go_simp
    with_reducible rfl
  rotate_left
  · simp only [Act.put, List.setIfInBounds_toArray, List.set_cons_zero, List.set_cons_succ, i64_w, i32_w]
    rfl
  refine one_ (i := 8) (N := some 19) #[true, true, true, true, true, true, true, true, true, false] rfl rfl (by kernel_rfl) (by decide) (fun K hK => ?_)
  refine goesV_ Try.func101 (by kernel_rfl) rfl #[.slice (some ⟨g, 0, none⟩) width.toNat width.toNat, .pointer (some ⟨b2, 0, none⟩)] (by rfl) rfl rfl (by rfl) (by simp only [List.map_toArray, List.map_cons, List.map_nil]; rfl) ?_
  with_reducible refine (HGET.out _ hHeld.2.2.2).mono ?_
  rintro e_ w' ⟨rfl, h2⟩
  have hX3 := Aside0.mk (blk_below hHeld.2.2.1 h2)
  have hB3 := Aside0.mk (below_step hHeld.2.2.2 h2)
  refine ⟨_, rfl, ?_⟩
  refine hK.out _ _ ⟨(h2.cell (World.block_lt_of_cell? _ _ hHeld.1)).trans hHeld.1, (h2.cell (World.block_lt_of_cell? _ _ hHeld.2.1)).trans hHeld.2.1, hX3.out, hB3.out⟩ (fun hHeld => ?_)
  clear hK K h2
  refine norm_ (a' := ?_) ?_ ?_
  rotate_left
  · show Act.put _ (some 19) _ = _
    simp only [Act.put, List.setIfInBounds_toArray, List.set_cons_zero, List.set_cons_succ, i64_w, i32_w]
    rfl
  have HX5 := Aside0.mk hHeld.2.2.1
  have HB5 := Aside0.mk hHeld.2.2.2
  refine last_ (i := 9) (N := none) #[true, true, true, true, true, true, true, true, true, true] rfl rfl (by kernel_rfl) (by decide) (fun K hK => ?_)
  have he0 := blk_cell HX5.out 0
  have hf0 := blk_frozen HX5.out 0
  have he1 := blk_cell HX5.out 1
  have hf1 := blk_frozen HX5.out 1
  have he2 := blk_cell HX5.out 2
  have hf2 := blk_frozen HX5.out 2
  have he3 := blk_cell HX5.out 3
  have hf3 := blk_frozen HX5.out 3
  have he4 := blk_cell HX5.out 4
  have hf4 := blk_frozen HX5.out 4
  have he5 := blk_cell HX5.out 5
  have hf5 := blk_frozen HX5.out 5
  have he6 := blk_cell HX5.out 6
  have hf6 := blk_frozen HX5.out 6
  have he7 := blk_cell HX5.out 7
  have hf7 := blk_frozen HX5.out 7
  refine skip_ (w1 := ?_) (by rfl) rfl ?_ ?_
  rotate_left
  · go_simp
    rfl
  refine hK.out _ _ ?_
  clear hK K hHeld he0 hf0 he1 hf1 he2 hf2 he3 hf3 he4 hf4 he5 hf5 he6 hf6 he7 hf7
  refine done_ (by kernel_rfl) ?_
  have HE : Aside0 (_ = some (Obj.cells #[.int .u64 s0, .int .u64 s1, .int .u64 s2, .int .u64 s3, .int .u64 s4, .int .u64 s5, .int .u64 s6, .int .u64 s7] 69 (0, 0))) := ⟨(blk_put (blk_put (blk_put (blk_put (blk_put (blk_put (blk_put (blk_put HX5.out 0 (.int .u64 s0) rfl) 1 (.int .u64 s1) rfl) 2 (.int .u64 s2) rfl) 3 (.int .u64 s3) rfl) 4 (.int .u64 s4) rfl) 5 (.int .u64 s5) rfl) 6 (.int .u64 s6) rfl) 7 (.int .u64 s7) rfl)⟩
  have HB6 := Aside0.mk (below_set (j := 7) (v := .int .u64 s7) (below_set (j := 6) (v := .int .u64 s6) (below_set (j := 5) (v := .int .u64 s5) (below_set (j := 4) (v := .int .u64 s4) (below_set (j := 3) (v := .int .u64 s3) (below_set (j := 2) (v := .int .u64 s2) (below_set (j := 1) (v := .int .u64 s1) (below_set (j := 0) (v := .int .u64 s0) HB5.out (Nat.le_succ _)) (Nat.le_succ _)) (Nat.le_succ _)) (Nat.le_succ _)) (Nat.le_succ _)) (Nat.le_succ _)) (Nat.le_succ _)) (Nat.le_succ _))
  clear HX5 HB5 HB HX HX2 hX3 hB3 hbx hby
  have he0 := blk_cell HE.out 0
  have hf0 := blk_frozen HE.out 0
  have he1 := blk_cell HE.out 1
  have hf1 := blk_frozen HE.out 1
  have he2 := blk_cell HE.out 2
  have hf2 := blk_frozen HE.out 2
  have he3 := blk_cell HE.out 3
  have hf3 := blk_frozen HE.out 3
  have he4 := blk_cell HE.out 4
  have hf4 := blk_frozen HE.out 4
  have he5 := blk_cell HE.out 5
  have hf5 := blk_frozen HE.out 5
  have he6 := blk_cell HE.out 6
  have hf6 := blk_frozen HE.out 6
  have he7 := blk_cell HE.out 7
  have hf7 := blk_frozen HE.out 7
  go_wp2
  have hE1 : _ = some (Obj.cells #[.int .u64 s0, .int .u64 s1, .int .u64 s2, .int .u64 s3, .int .u64 s4, .int .u64 s5, .int .u64 s6, .int .u64 s7] 69 (0, 0)) := (blk_put (blk_put (blk_put (blk_put (blk_put (blk_put (blk_put (blk_put HE.out 0 (.int .u64 s0) rfl) 1 (.int .u64 s1) rfl) 2 (.int .u64 s2) rfl) 3 (.int .u64 s3) rfl) 4 (.int .u64 s4) rfl) 5 (.int .u64 s5) rfl) 6 (.int .u64 s6) rfl) 7 (.int .u64 s7) rfl)
  refine bodyPost_ret (results_ct (p := 4) (u := 5) (ty := 69) rfl _ _ (w.heap.size + 1) 69 _ (0, 0) _ rfl hE1 Try.underlying69 rfl (by kernel_rfl)) rfl ?_
  exact ⟨rfl, (below_set (j := 7) (v := .int .u64 s7) (below_set (j := 6) (v := .int .u64 s6) (below_set (j := 5) (v := .int .u64 s5) (below_set (j := 4) (v := .int .u64 s4) (below_set (j := 3) (v := .int .u64 s3) (below_set (j := 2) (v := .int .u64 s2) (below_set (j := 1) (v := .int .u64 s1) (below_set (j := 0) (v := .int .u64 s0) HB6.out (Nat.le_succ _)) (Nat.le_succ _)) (Nat.le_succ _)) (Nat.le_succ _)) (Nat.le_succ _)) (Nat.le_succ _)) (Nat.le_succ _)) (Nat.le_succ _))⟩
end ReelTakeS
section ReelForm0
open Go.RowKit Go.Proofs.YtnmhfcfojbfikaaW.PrintWords Go.Proofs.YtnmhfcfojbfikaaW.PrintLast Go.Proofs.YtnmhfcfojbfikaaW.PrintMore
set_option linter.unusedVariables false
set_option linter.unusedSimpArgs false
set_option maxHeartbeats 8000000 in
set_option maxRecDepth 100000 in
theorem room0E (A : Option Addr) (n c : Nat) (w : World) :
    Calls Try.prog 70 #[.agg #[.int .i64 0, .nilFunc, .nilFunc], .slice A n c] w fun e w' => e = .returned (.int .i64 2) ∧ Below w.heap.size w w' := by
  have HB := Aside0.mk (Below.refl w.heap.size w)
  go_enter Try.func70, Try.ntmps70
  go_wp2
  go_ret
  exact ⟨rfl, by repeat (first | (with_reducible first | exact HB.out | apply below_alloc | apply pw_below_drewN | apply below_drew1) | exact HB.out)⟩
set_option maxHeartbeats 8000000 in
set_option maxRecDepth 100000 in
theorem width0E (w : World) :
    Calls Try.prog 37 #[.agg #[.int .i64 0, .nilFunc, .nilFunc]] w fun e w' => e = .returned (.int .i64 0) ∧ Below w.heap.size w w' := by
  have HB := Aside0.mk (Below.refl w.heap.size w)
  go_enter Try.func37, Try.ntmps37
  go_wp2
  go_ret
  exact ⟨rfl, by repeat (first | (with_reducible first | exact HB.out | apply below_alloc | apply pw_below_drewN | apply below_drew1) | exact HB.out)⟩
set_option maxHeartbeats 8000000 in
set_option maxRecDepth 100000 in
theorem lay0E (A : Option Addr) (n c : Nat) (s d u : Int) (w : World) :
    Calls Try.prog 36 #[.agg #[.int .i64 0, .nilFunc, .nilFunc], .slice A n c, .agg #[.int .u32 s, .int .u32 d, .int .u32 u]] w fun e w' => e = .returned (.int .i64 2) ∧ Below w.heap.size w w' := by
  have HB := Aside0.mk (Below.refl w.heap.size w)
  go_enter Try.func36, Try.ntmps36
  go_upto_region 2 with (go_at_call 70; refine (room0E _ n c _).mono ?_; rintro e wc ⟨rfl, hb⟩; have n0_ := Aside0.mk (below_step (below_alloc (below_alloc HB.out _) _) hb); clear HB hb; have HB := n0_; clear n0_)
  go_wp2
  go_ret
  exact ⟨rfl, by repeat (first | (with_reducible first | exact HB.out | apply below_alloc | apply pw_below_drewN | apply below_drew1) | exact HB.out)⟩
set_option maxHeartbeats 8000000 in
set_option maxRecDepth 100000 in
theorem room0S (A : Option Addr) (n c : Nat) (w : World) :
    Calls Try.prog 79 #[.agg #[.int .i64 0, .nilFunc, .nilFunc], .slice A n c] w fun e w' => e = .returned (.int .i64 2) ∧ Below w.heap.size w w' := by
  have HB := Aside0.mk (Below.refl w.heap.size w)
  go_enter Try.func79, Try.ntmps79
  go_wp2
  go_ret
  exact ⟨rfl, by repeat (first | (with_reducible first | exact HB.out | apply below_alloc | apply pw_below_drewN | apply below_drew1) | exact HB.out)⟩
set_option maxHeartbeats 8000000 in
set_option maxRecDepth 100000 in
theorem width0S (w : World) :
    Calls Try.prog 47 #[.agg #[.int .i64 0, .nilFunc, .nilFunc]] w fun e w' => e = .returned (.int .i64 0) ∧ Below w.heap.size w w' := by
  have HB := Aside0.mk (Below.refl w.heap.size w)
  go_enter Try.func47, Try.ntmps47
  go_wp2
  go_ret
  exact ⟨rfl, by repeat (first | (with_reducible first | exact HB.out | apply below_alloc | apply pw_below_drewN | apply below_drew1) | exact HB.out)⟩
set_option maxHeartbeats 8000000 in
set_option maxRecDepth 100000 in
theorem lay0S (A : Option Addr) (n c : Nat) (s0 s1 s2 s3 s4 s5 s6 s7 : Int) (w : World) :
    Calls Try.prog 46 #[.agg #[.int .i64 0, .nilFunc, .nilFunc], .slice A n c, .agg #[.int .u64 s0, .int .u64 s1, .int .u64 s2, .int .u64 s3, .int .u64 s4, .int .u64 s5, .int .u64 s6, .int .u64 s7]] w fun e w' => e = .returned (.int .i64 2) ∧ Below w.heap.size w w' := by
  have HB := Aside0.mk (Below.refl w.heap.size w)
  go_enter Try.func46, Try.ntmps46
  go_upto_region 2 with (go_at_call 79; refine (room0S _ n c _).mono ?_; rintro e wc ⟨rfl, hb⟩; have n0_ := Aside0.mk (below_step (below_alloc (below_alloc HB.out _) _) hb); clear HB hb; have HB := n0_; clear n0_)
  go_wp2
  go_ret
  exact ⟨rfl, by repeat (first | (with_reducible first | exact HB.out | apply below_alloc | apply pw_below_drewN | apply below_drew1) | exact HB.out)⟩
set_option maxHeartbeats 8000000 in
set_option maxRecDepth 100000 in
theorem edgeForm1 (w : World) :
    Calls Try.prog 35 #[.int .i64 1] w fun e w' => ∃ b1 b2, e = .returned (.tuple #[formVE 8 b1 b2, .int .i64 0]) ∧ w.heap.size ≤ b1 ∧ w.heap.size ≤ b2 ∧ HoldsE w' b1 b2 ∧ Below w.heap.size w w' := by
  have HB := Aside0.mk (below_alloc (Below.refl w.heap.size w) (.cells #[.int .i64 0, .nilFunc, .nilFunc] 73))
  have HE := Aside0.mk (heap_alloc_new w (.cells #[.int .i64 0, .nilFunc, .nilFunc] 73))
  have hst : ∀ (a : Addr) (fn : Fn) (x y : Array Value) (w : World), Sem.run Try.prog (store a (.func fn x y)) w = match w.cell? a with
      | some _ => if w.frozen? a then .halt (.unsupported (.unsafePointer "a write to bytes that a string shares")) w else .ok () (w.setCell a (.func fn x y))
      | none => match w.farStore Try.prog a (.func fn x y) (Mode.plain == .atomic) with
        | .ok (w', _) => .ok () w'
        | .error h => .halt h w := fun a fn x y w => run_store _ _ _ _ _ rfl
  go_enter Try.func35, Try.ntmps35
  go_wp2_with (go_at_call 67; refine (formE 8 _).mono ?_; rintro e wc ⟨b1, b2, rfl, hb1, hb2, hH, hb⟩; unfold formVE; have n0_ := Aside0.mk (below_step HB.out hb); have n1_ := Aside0.mk (blk_below HE.out hb); have HH := Aside0.mk hH; have HB1 := Aside0.mk hb1; have HB2 := Aside0.mk hb2; clear HB HE hb hH hb1 hb2; have HB := n0_; have HE := n1_; clear n0_ n1_; have he0 := blk_cell HE.out 0; have he1 := blk_cell HE.out 1; have he2 := blk_cell HE.out 2; have hf0 := blk_frozen HE.out 0; have hf1 := blk_frozen HE.out 1; have hf2 := blk_frozen HE.out 2)
  have hE1 := (blk_put (blk_put (blk_put HE.out 0 (.int .i64 8) rfl) 1 (.func (.func 89) #[] #[.pointer (some ⟨b1, 0, none⟩)]) rfl) 2 (.func (.func 90) #[] #[.pointer (some ⟨b2, 0, none⟩)]) rfl)
  refine bodyPost_ret (results_ct (p := 2) (u := 3) (ty := 73) rfl _ _ (w.heap.size) 73 _ (0, 0) _ rfl hE1 Try.underlying73 rfl (by kernel_rfl)) rfl ?_
  have h1 := HB1.out
  have h2 := HB2.out
  rw [World.size_alloc] at h1 h2
  refine ⟨b1, b2, rfl, by omega, by omega, ⟨?_, ?_⟩, (below_set (j := 2) (v := .func (.func 90) #[] #[.pointer (some ⟨b2, 0, none⟩)]) (below_set (j := 1) (v := .func (.func 89) #[] #[.pointer (some ⟨b1, 0, none⟩)]) (below_set (j := 0) (v := .int .i64 8) HB.out (Nat.le_refl _)) (Nat.le_refl _)) (Nat.le_refl _))⟩
  · exact (Below.heap_setCell _ _ _ _ (by simp only []; omega)).trans ((Below.heap_setCell _ _ _ _ (by simp only []; omega)).trans ((Below.heap_setCell _ _ _ _ (by simp only []; omega)).trans HH.out.put))
  · exact (Below.heap_setCell _ _ _ _ (by simp only []; omega)).trans ((Below.heap_setCell _ _ _ _ (by simp only []; omega)).trans ((Below.heap_setCell _ _ _ _ (by simp only []; omega)).trans HH.out.get))
set_option maxHeartbeats 8000000 in
set_option maxRecDepth 100000 in
theorem edgeForm2 (w : World) :
    Calls Try.prog 35 #[.int .i64 2] w fun e w' => ∃ b1 b2, e = .returned (.tuple #[formVE 12 b1 b2, .int .i64 0]) ∧ w.heap.size ≤ b1 ∧ w.heap.size ≤ b2 ∧ HoldsE w' b1 b2 ∧ Below w.heap.size w w' := by
  have HB := Aside0.mk (below_alloc (Below.refl w.heap.size w) (.cells #[.int .i64 0, .nilFunc, .nilFunc] 73))
  have HE := Aside0.mk (heap_alloc_new w (.cells #[.int .i64 0, .nilFunc, .nilFunc] 73))
  have hst : ∀ (a : Addr) (fn : Fn) (x y : Array Value) (w : World), Sem.run Try.prog (store a (.func fn x y)) w = match w.cell? a with
      | some _ => if w.frozen? a then .halt (.unsupported (.unsafePointer "a write to bytes that a string shares")) w else .ok () (w.setCell a (.func fn x y))
      | none => match w.farStore Try.prog a (.func fn x y) (Mode.plain == .atomic) with
        | .ok (w', _) => .ok () w'
        | .error h => .halt h w := fun a fn x y w => run_store _ _ _ _ _ rfl
  go_enter Try.func35, Try.ntmps35
  go_wp2_with (go_at_call 67; refine (formE 12 _).mono ?_; rintro e wc ⟨b1, b2, rfl, hb1, hb2, hH, hb⟩; unfold formVE; have n0_ := Aside0.mk (below_step HB.out hb); have n1_ := Aside0.mk (blk_below HE.out hb); have HH := Aside0.mk hH; have HB1 := Aside0.mk hb1; have HB2 := Aside0.mk hb2; clear HB HE hb hH hb1 hb2; have HB := n0_; have HE := n1_; clear n0_ n1_; have he0 := blk_cell HE.out 0; have he1 := blk_cell HE.out 1; have he2 := blk_cell HE.out 2; have hf0 := blk_frozen HE.out 0; have hf1 := blk_frozen HE.out 1; have hf2 := blk_frozen HE.out 2)
  have hE1 := (blk_put (blk_put (blk_put HE.out 0 (.int .i64 12) rfl) 1 (.func (.func 89) #[] #[.pointer (some ⟨b1, 0, none⟩)]) rfl) 2 (.func (.func 90) #[] #[.pointer (some ⟨b2, 0, none⟩)]) rfl)
  refine bodyPost_ret (results_ct (p := 2) (u := 3) (ty := 73) rfl _ _ (w.heap.size) 73 _ (0, 0) _ rfl hE1 Try.underlying73 rfl (by kernel_rfl)) rfl ?_
  have h1 := HB1.out
  have h2 := HB2.out
  rw [World.size_alloc] at h1 h2
  refine ⟨b1, b2, rfl, by omega, by omega, ⟨?_, ?_⟩, (below_set (j := 2) (v := .func (.func 90) #[] #[.pointer (some ⟨b2, 0, none⟩)]) (below_set (j := 1) (v := .func (.func 89) #[] #[.pointer (some ⟨b1, 0, none⟩)]) (below_set (j := 0) (v := .int .i64 12) HB.out (Nat.le_refl _)) (Nat.le_refl _)) (Nat.le_refl _))⟩
  · exact (Below.heap_setCell _ _ _ _ (by simp only []; omega)).trans ((Below.heap_setCell _ _ _ _ (by simp only []; omega)).trans ((Below.heap_setCell _ _ _ _ (by simp only []; omega)).trans HH.out.put))
  · exact (Below.heap_setCell _ _ _ _ (by simp only []; omega)).trans ((Below.heap_setCell _ _ _ _ (by simp only []; omega)).trans ((Below.heap_setCell _ _ _ _ (by simp only []; omega)).trans HH.out.get))
set_option maxHeartbeats 8000000 in
set_option maxRecDepth 100000 in
theorem edgeForm3 (w : World) :
    Calls Try.prog 35 #[.int .i64 3] w fun e w' => ∃ b1 b2, e = .returned (.tuple #[formVE 12 b1 b2, .int .i64 0]) ∧ w.heap.size ≤ b1 ∧ w.heap.size ≤ b2 ∧ HoldsE w' b1 b2 ∧ Below w.heap.size w w' := by
  have HB := Aside0.mk (below_alloc (Below.refl w.heap.size w) (.cells #[.int .i64 0, .nilFunc, .nilFunc] 73))
  have HE := Aside0.mk (heap_alloc_new w (.cells #[.int .i64 0, .nilFunc, .nilFunc] 73))
  have hst : ∀ (a : Addr) (fn : Fn) (x y : Array Value) (w : World), Sem.run Try.prog (store a (.func fn x y)) w = match w.cell? a with
      | some _ => if w.frozen? a then .halt (.unsupported (.unsafePointer "a write to bytes that a string shares")) w else .ok () (w.setCell a (.func fn x y))
      | none => match w.farStore Try.prog a (.func fn x y) (Mode.plain == .atomic) with
        | .ok (w', _) => .ok () w'
        | .error h => .halt h w := fun a fn x y w => run_store _ _ _ _ _ rfl
  go_enter Try.func35, Try.ntmps35
  go_wp2_with (go_at_call 67; refine (formE 12 _).mono ?_; rintro e wc ⟨b1, b2, rfl, hb1, hb2, hH, hb⟩; unfold formVE; have n0_ := Aside0.mk (below_step HB.out hb); have n1_ := Aside0.mk (blk_below HE.out hb); have HH := Aside0.mk hH; have HB1 := Aside0.mk hb1; have HB2 := Aside0.mk hb2; clear HB HE hb hH hb1 hb2; have HB := n0_; have HE := n1_; clear n0_ n1_; have he0 := blk_cell HE.out 0; have he1 := blk_cell HE.out 1; have he2 := blk_cell HE.out 2; have hf0 := blk_frozen HE.out 0; have hf1 := blk_frozen HE.out 1; have hf2 := blk_frozen HE.out 2)
  have hE1 := (blk_put (blk_put (blk_put HE.out 0 (.int .i64 12) rfl) 1 (.func (.func 89) #[] #[.pointer (some ⟨b1, 0, none⟩)]) rfl) 2 (.func (.func 90) #[] #[.pointer (some ⟨b2, 0, none⟩)]) rfl)
  refine bodyPost_ret (results_ct (p := 2) (u := 3) (ty := 73) rfl _ _ (w.heap.size) 73 _ (0, 0) _ rfl hE1 Try.underlying73 rfl (by kernel_rfl)) rfl ?_
  have h1 := HB1.out
  have h2 := HB2.out
  rw [World.size_alloc] at h1 h2
  refine ⟨b1, b2, rfl, by omega, by omega, ⟨?_, ?_⟩, (below_set (j := 2) (v := .func (.func 90) #[] #[.pointer (some ⟨b2, 0, none⟩)]) (below_set (j := 1) (v := .func (.func 89) #[] #[.pointer (some ⟨b1, 0, none⟩)]) (below_set (j := 0) (v := .int .i64 12) HB.out (Nat.le_refl _)) (Nat.le_refl _)) (Nat.le_refl _))⟩
  · exact (Below.heap_setCell _ _ _ _ (by simp only []; omega)).trans ((Below.heap_setCell _ _ _ _ (by simp only []; omega)).trans ((Below.heap_setCell _ _ _ _ (by simp only []; omega)).trans HH.out.put))
  · exact (Below.heap_setCell _ _ _ _ (by simp only []; omega)).trans ((Below.heap_setCell _ _ _ _ (by simp only []; omega)).trans ((Below.heap_setCell _ _ _ _ (by simp only []; omega)).trans HH.out.get))
set_option maxHeartbeats 8000000 in
set_option maxRecDepth 100000 in
theorem edgeForm0 (k : Int) (h1 : k ≠ 1) (h2 : k ≠ 2) (h3 : k ≠ 3) (w : World) :
    Calls Try.prog 35 #[.int .i64 k] w fun e w' => e = .returned (.tuple #[.agg #[.int .i64 0, .nilFunc, .nilFunc], .int .i64 2]) ∧ Below w.heap.size w w' := by
  have HB := Aside0.mk (below_alloc (Below.refl w.heap.size w) (.cells #[.int .i64 0, .nilFunc, .nilFunc] 73))
  have HE := Aside0.mk (heap_alloc_new w (.cells #[.int .i64 0, .nilFunc, .nilFunc] 73))
  have hst : ∀ (a : Addr) (w : World), Sem.run Try.prog (store a .nilFunc) w = match w.cell? a with
      | some _ => if w.frozen? a then .halt (.unsupported (.unsafePointer "a write to bytes that a string shares")) w else .ok () (w.setCell a .nilFunc)
      | none => match w.farStore Try.prog a .nilFunc (Mode.plain == .atomic) with
        | .ok (w', _) => .ok () w'
        | .error h => .halt h w := fun a w => run_store _ _ _ _ _ rfl
  have c1 := beq_eq_false_iff_ne.mpr h1
  have c2 := beq_eq_false_iff_ne.mpr h2
  have c3 := beq_eq_false_iff_ne.mpr h3
  clear h1 h2 h3
  go_enter Try.func35, Try.ntmps35
  have he0 := blk_cell HE.out 0
  have he1 := blk_cell HE.out 1
  have he2 := blk_cell HE.out 2
  have hf0 := blk_frozen HE.out 0
  have hf1 := blk_frozen HE.out 1
  have hf2 := blk_frozen HE.out 2
  go_wp2
  have hE1 := HE.out
  refine bodyPost_ret (results_ct (p := 2) (u := 3) (ty := 73) rfl _ _ (w.heap.size) 73 _ (0, 0) _ rfl hE1 Try.underlying73 rfl (by kernel_rfl)) rfl ?_
  exact ⟨rfl, HB.out⟩
set_option maxHeartbeats 8000000 in
set_option maxRecDepth 100000 in
theorem updForm (w : World) :
    Calls Try.prog 40 #[] w fun e w' => ∃ b1 b2, e = .returned (formVU 20 b1 b2) ∧ w.heap.size ≤ b1 ∧ w.heap.size ≤ b2 ∧ HoldsU w' b1 b2 ∧ Below w.heap.size w w' := by
  have HB := Aside0.mk (below_alloc (Below.refl w.heap.size w) (.cells #[.int .i64 0, .nilFunc, .nilFunc] 83))
  have HE := Aside0.mk (heap_alloc_new w (.cells #[.int .i64 0, .nilFunc, .nilFunc] 83))
  have hst : ∀ (a : Addr) (fn : Fn) (x y : Array Value) (w : World), Sem.run Try.prog (store a (.func fn x y)) w = match w.cell? a with
      | some _ => if w.frozen? a then .halt (.unsupported (.unsafePointer "a write to bytes that a string shares")) w else .ok () (w.setCell a (.func fn x y))
      | none => match w.farStore Try.prog a (.func fn x y) (Mode.plain == .atomic) with
        | .ok (w', _) => .ok () w'
        | .error h => .halt h w := fun a fn x y w => run_store _ _ _ _ _ rfl
  go_enter Try.func40, Try.ntmps40
  go_wp2_with (go_at_call 72; refine (formU 20 _).mono ?_; rintro e wc ⟨b1, b2, rfl, hb1, hb2, hH, hb⟩; unfold formVU; have n0_ := Aside0.mk (below_step HB.out hb); have n1_ := Aside0.mk (blk_below HE.out hb); have HH := Aside0.mk hH; have HB1 := Aside0.mk hb1; have HB2 := Aside0.mk hb2; clear HB HE hb hH hb1 hb2; have HB := n0_; have HE := n1_; clear n0_ n1_; have he0 := blk_cell HE.out 0; have he1 := blk_cell HE.out 1; have he2 := blk_cell HE.out 2; have hf0 := blk_frozen HE.out 0; have hf1 := blk_frozen HE.out 1; have hf2 := blk_frozen HE.out 2)
  have hE1 := (blk_put (blk_put (blk_put HE.out 0 (.int .i64 20) rfl) 1 (.func (.func 96) #[] #[.pointer (some ⟨b1, 0, none⟩)]) rfl) 2 (.func (.func 97) #[] #[.pointer (some ⟨b2, 0, none⟩)]) rfl)
  refine bodyPost_ret (results_cell_row (p := 0) (ty := 83) rfl _ _ (w.heap.size) 83 _ (0, 0) _ rfl hE1 Try.underlying83 rfl (by kernel_rfl)) rfl ?_
  have h1 := HB1.out
  have h2 := HB2.out
  rw [World.size_alloc] at h1 h2
  refine ⟨b1, b2, rfl, by omega, by omega, ⟨?_, ?_⟩, (below_set (j := 2) (v := .func (.func 97) #[] #[.pointer (some ⟨b2, 0, none⟩)]) (below_set (j := 1) (v := .func (.func 96) #[] #[.pointer (some ⟨b1, 0, none⟩)]) (below_set (j := 0) (v := .int .i64 20) HB.out (Nat.le_refl _)) (Nat.le_refl _)) (Nat.le_refl _))⟩
  · exact (Below.heap_setCell _ _ _ _ (by simp only []; omega)).trans ((Below.heap_setCell _ _ _ _ (by simp only []; omega)).trans ((Below.heap_setCell _ _ _ _ (by simp only []; omega)).trans HH.out.put))
  · exact (Below.heap_setCell _ _ _ _ (by simp only []; omega)).trans ((Below.heap_setCell _ _ _ _ (by simp only []; omega)).trans ((Below.heap_setCell _ _ _ _ (by simp only []; omega)).trans HH.out.get))
set_option maxHeartbeats 8000000 in
set_option maxRecDepth 100000 in
theorem stateForm (k : Int) (h1 : 1 ≤ k) (h2 : k ≤ 8) (w : World) :
    Calls Try.prog 45 #[.int .i64 k] w fun e w' => ∃ b1 b2, e = .returned (.tuple #[formVS (8 * k) b1 b2, .int .i64 0]) ∧ w.heap.size ≤ b1 ∧ w.heap.size ≤ b2 ∧ HoldsS w' b1 b2 ∧ Below w.heap.size w w' := by
  have HB := Aside0.mk (below_alloc (Below.refl w.heap.size w) (.cells #[.int .i64 0, .nilFunc, .nilFunc] 92))
  have HE := Aside0.mk (heap_alloc_new w (.cells #[.int .i64 0, .nilFunc, .nilFunc] 92))
  have hst : ∀ (a : Addr) (fn : Fn) (x y : Array Value) (w : World), Sem.run Try.prog (store a (.func fn x y)) w = match w.cell? a with
      | some _ => if w.frozen? a then .halt (.unsupported (.unsafePointer "a write to bytes that a string shares")) w else .ok () (w.setCell a (.func fn x y))
      | none => match w.farStore Try.prog a (.func fn x y) (Mode.plain == .atomic) with
        | .ok (w', _) => .ok () w'
        | .error h => .halt h w := fun a fn x y w => run_store _ _ _ _ _ rfl
  have c1 : decide (k < 1) = false := decide_eq_false (by omega)
  have c2 : decide (k > 8) = false := decide_eq_false (by omega)
  have c3 : wrap64 (8 * k) = 8 * k := by unfold wrap64; omega
  clear h1 h2
  go_enter Try.func45, Try.ntmps45
  go_wp2_with (go_at_call 76; refine (formS (8 * k) _).mono ?_; rintro e wc ⟨b1, b2, rfl, hb1, hb2, hH, hb⟩; unfold formVS; have n0_ := Aside0.mk (below_step HB.out hb); have n1_ := Aside0.mk (blk_below HE.out hb); have HH := Aside0.mk hH; have HB1 := Aside0.mk hb1; have HB2 := Aside0.mk hb2; clear HB HE hb hH hb1 hb2; have HB := n0_; have HE := n1_; clear n0_ n1_; have he0 := blk_cell HE.out 0; have he1 := blk_cell HE.out 1; have he2 := blk_cell HE.out 2; have hf0 := blk_frozen HE.out 0; have hf1 := blk_frozen HE.out 1; have hf2 := blk_frozen HE.out 2)
  have hE1 := (blk_put (blk_put (blk_put HE.out 0 (.int .i64 (8 * k)) rfl) 1 (.func (.func 100) #[] #[.pointer (some ⟨b1, 0, none⟩)]) rfl) 2 (.func (.func 101) #[] #[.pointer (some ⟨b2, 0, none⟩)]) rfl)
  refine bodyPost_ret (results_ct (p := 2) (u := 3) (ty := 92) rfl _ _ (w.heap.size) 92 _ (0, 0) _ rfl hE1 Try.underlying92 rfl (by kernel_rfl)) rfl ?_
  have h1 := HB1.out
  have h2 := HB2.out
  rw [World.size_alloc] at h1 h2
  refine ⟨b1, b2, rfl, by omega, by omega, ⟨?_, ?_⟩, (below_set (j := 2) (v := .func (.func 101) #[] #[.pointer (some ⟨b2, 0, none⟩)]) (below_set (j := 1) (v := .func (.func 100) #[] #[.pointer (some ⟨b1, 0, none⟩)]) (below_set (j := 0) (v := .int .i64 (8 * k)) HB.out (Nat.le_refl _)) (Nat.le_refl _)) (Nat.le_refl _))⟩
  · exact (Below.heap_setCell _ _ _ _ (by simp only []; omega)).trans ((Below.heap_setCell _ _ _ _ (by simp only []; omega)).trans ((Below.heap_setCell _ _ _ _ (by simp only []; omega)).trans HH.out.put))
  · exact (Below.heap_setCell _ _ _ _ (by simp only []; omega)).trans ((Below.heap_setCell _ _ _ _ (by simp only []; omega)).trans ((Below.heap_setCell _ _ _ _ (by simp only []; omega)).trans HH.out.get))
set_option maxHeartbeats 8000000 in
set_option maxRecDepth 100000 in
theorem stateForm0 (k : Int) (h1 : k < 1) (w : World) :
    Calls Try.prog 45 #[.int .i64 k] w fun e w' => e = .returned (.tuple #[.agg #[.int .i64 0, .nilFunc, .nilFunc], .int .i64 2]) ∧ Below w.heap.size w w' := by
  have HB := Aside0.mk (below_alloc (Below.refl w.heap.size w) (.cells #[.int .i64 0, .nilFunc, .nilFunc] 92))
  have HE := Aside0.mk (heap_alloc_new w (.cells #[.int .i64 0, .nilFunc, .nilFunc] 92))
  have hst : ∀ (a : Addr) (w : World), Sem.run Try.prog (store a .nilFunc) w = match w.cell? a with
      | some _ => if w.frozen? a then .halt (.unsupported (.unsafePointer "a write to bytes that a string shares")) w else .ok () (w.setCell a .nilFunc)
      | none => match w.farStore Try.prog a .nilFunc (Mode.plain == .atomic) with
        | .ok (w', _) => .ok () w'
        | .error h => .halt h w := fun a w => run_store _ _ _ _ _ rfl
  have c1 : decide (k < 1) = true := decide_eq_true h1
  clear h1
  go_enter Try.func45, Try.ntmps45
  have he0 := blk_cell HE.out 0
  have he1 := blk_cell HE.out 1
  have he2 := blk_cell HE.out 2
  have hf0 := blk_frozen HE.out 0
  have hf1 := blk_frozen HE.out 1
  have hf2 := blk_frozen HE.out 2
  go_wp2
  have hE1 := HE.out
  refine bodyPost_ret (results_ct (p := 2) (u := 3) (ty := 92) rfl _ _ (w.heap.size) 92 _ (0, 0) _ rfl hE1 Try.underlying92 rfl (by kernel_rfl)) rfl ?_
  exact ⟨rfl, HB.out⟩
set_option maxHeartbeats 8000000 in
set_option maxRecDepth 100000 in
theorem stateForm9 (k : Int) (h1 : k > 8) (w : World) :
    Calls Try.prog 45 #[.int .i64 k] w fun e w' => e = .returned (.tuple #[.agg #[.int .i64 0, .nilFunc, .nilFunc], .int .i64 2]) ∧ Below w.heap.size w w' := by
  have HB := Aside0.mk (below_alloc (Below.refl w.heap.size w) (.cells #[.int .i64 0, .nilFunc, .nilFunc] 92))
  have HE := Aside0.mk (heap_alloc_new w (.cells #[.int .i64 0, .nilFunc, .nilFunc] 92))
  have hst : ∀ (a : Addr) (w : World), Sem.run Try.prog (store a .nilFunc) w = match w.cell? a with
      | some _ => if w.frozen? a then .halt (.unsupported (.unsafePointer "a write to bytes that a string shares")) w else .ok () (w.setCell a .nilFunc)
      | none => match w.farStore Try.prog a .nilFunc (Mode.plain == .atomic) with
        | .ok (w', _) => .ok () w'
        | .error h => .halt h w := fun a w => run_store _ _ _ _ _ rfl
  have c1 : decide (k < 1) = false := decide_eq_false (by omega)
  have c2 : decide (k > 8) = true := decide_eq_true h1
  clear h1
  go_enter Try.func45, Try.ntmps45
  have he0 := blk_cell HE.out 0
  have he1 := blk_cell HE.out 1
  have he2 := blk_cell HE.out 2
  have hf0 := blk_frozen HE.out 0
  have hf1 := blk_frozen HE.out 1
  have hf2 := blk_frozen HE.out 2
  go_wp2
  have hE1 := HE.out
  refine bodyPost_ret (results_ct (p := 2) (u := 3) (ty := 92) rfl _ _ (w.heap.size) 92 _ (0, 0) _ rfl hE1 Try.underlying92 rfl (by kernel_rfl)) rfl ?_
  exact ⟨rfl, HB.out⟩
end ReelForm0
section ReelBuf
open Go.RowKit Go.Proofs.YtnmhfcfojbfikaaW.PrintWords Go.Proofs.YtnmhfcfojbfikaaW.PrintLast Go.Proofs.YtnmhfcfojbfikaaW.PrintMore
set_option linter.unusedVariables false
set_option linter.unusedSimpArgs false
def buf (i : Nat) : List Int := List.replicate i 99 ++ List.replicate (102 - i) 0
theorem buf_len (i : Nat) (h : i ≤ 102) : (buf i).length = 102 := by
  simp [buf]
  omega
theorem buf_set (i : Nat) (h : i < 102) : (buf i).set i 99 = buf (i + 1) := by
  obtain ⟨m, hm⟩ : ∃ m, 102 - i = m + 1 := ⟨101 - i, by omega⟩
  have hm2 : 102 - (i + 1) = m := by omega
  unfold buf
  rw [hm, hm2, List.set_append_right _ _ (by rw [List.length_replicate]; exact Nat.le_refl _), List.length_replicate, Nat.sub_self, List.replicate_succ, List.set_cons_zero, List.replicate_succ', List.append_assoc]
  rfl
set_option maxHeartbeats 8000000 in
set_option maxRecDepth 100000 in
theorem bufferR (w : World) :
    Calls Try.prog 25 #[.int .i64 100] w fun e w' => ∃ g, e = .returned (.slice (some ⟨g, 0, none⟩) 100 102) ∧ At8 5 w' g (List.replicate 102 99) ∧ w.heap.size ≤ g ∧ Below w.heap.size w w' := by
  have HB := Aside0.mk (Below.refl w.heap.size w)
  have hroom : sluicelaw06_room.f 100 = some 100 := by decide
  have HR := Aside0.mk hroom
  clear hroom
  have hmk : ∀ W : World, (Instr.makeSlice 44 (.int .i64 102) (.int .i64 102)).run Try.prog W = .ok (.slice (some ⟨W.heap.size, 0, none⟩) 102 102) (W.alloc (.cells (B8 (buf 0)) 5)) := by
    intro W
    obtain ⟨i5, hi5, hz, hsz, hby⟩ := info_parts info5
    rw [run_makeSlice W 44 5 i5 _ Try.underlying44 hi5 hz .i64 .i64 102 102 (by omega) (by omega) (by rw [hsz]; decide) (by rw [hby]; decide) (by omega), hsz]
    exact congrArg (fun x => Result.ok _ (W.alloc (.cells x 5 (0, 0)))) (by kernel_rfl)
  go_enter Try.func25, Try.ntmps25
  go_wp2_with (go_at_call 59; refine (sluicelaw06_room.calls 100 100 _ HR.out).mono ?_; rintro e w1 ⟨rfl, hb⟩; have n_ := Aside0.mk (below_step HB.out hb); clear hb HB; have HB := n_; clear n_)
  have HG := Aside0.mk (show At8 5 (w1.alloc (.cells (B8 (buf 0)) 5)) w1.heap.size (buf 0) from heap_alloc_new w1 _)
  have HGE := Aside0.mk (show w.heap.size ≤ w1.heap.size from HB.out.size)
  have n_ := Aside0.mk (below_alloc HB.out (.cells (B8 (buf 0)) 5))
  clear HB
  have HB := n_
  clear n_ hmk
  generalize w1.heap.size = g at *
  go_loopg [4] 102 (fun kq v4 w' => ∃ i : Nat, v4 = .int .i64 (i : Int) ∧ Aside0 (kq + i = 102) ∧ Aside0 (At8 5 w' g (buf i)) ∧ Aside0 (Below w.heap.size w w'))
  case atStart => exact ⟨0, rfl, ⟨rfl⟩, HG, HB⟩
  case round =>
    clear HG HB
    obtain ⟨i, rfl, HI, HG, HB⟩ := hrel
    by_cases h1 : i < 102
    · have c1 : decide ((i : Int) < 102) = true := decide_eq_true (by omega)
      have H1 := Aside0.mk h1
      have hcell := HG.out.cell i (by rw [buf_len i (by omega)]; exact h1)
      have hfz := HG.out.frozen i
      have q1 := eq_true h1
      have q2 := eq_true (show 0 ≤ (i : Int) by omega)
      have q3 := eq_true (show (i : Int) < 102 by omega)
      clear h1
      go_wp2
      have hwr : wrap64 ((i : Int) + 1) = ((i + 1 : Nat) : Int) := by
        have := H1.out
        unfold wrap64
        omega
      rw [hwr]
      obtain ⟨k1, rfl⟩ : ∃ k1, gk = k1 + 1 := ⟨gk - 1, by have := HI.out; have := H1.out; omega⟩
      go_roundg k1
      case measure => omega
      case rel => exact ⟨i + 1, rfl, ⟨by have := HI.out; omega⟩, ⟨by rw [← buf_set i H1.out]; exact HG.out.set i 99⟩, ⟨below_set HB.out HGE.out⟩⟩
    · have c1 : decide ((i : Int) < 102) = false := decide_eq_false (by omega)
      have H1 := Aside0.mk (by have := HI.out; omega : i = 102)
      clear h1
      go_wp2_with (go_at_call 59; refine (sluicelaw06_room.calls 100 100 _ HR.out).mono ?_; rintro e w2 ⟨rfl, hb⟩; have n0_ := Aside0.mk (below_step HB.out hb); have n1_ := Aside0.mk (HG.out.below hb); clear hb HB HG; have HB := n0_; have HG := n1_; clear n0_ n1_)
      go_ret
      exact ⟨g, rfl, by have h := HG.out; rw [H1.out] at h; exact h, HGE.out, HB.out⟩
end ReelBuf
section ReelPlain
open Go.RowKit Go.Proofs.YtnmhfcfojbfikaaW.PrintWords Go.Proofs.YtnmhfcfojbfikaaW.PrintLast Go.Proofs.YtnmhfcfojbfikaaW.PrintMore
open Go.Proofs.Ytnmhfcfojbfikaa.Num
open QPut (bits_Len64.j0 bits_Len64.f grain_lay.go grain_lay.step grain_lay.len grain_Put.f)
open QGet (grain_Get.go)
set_option linter.unusedVariables false
set_option linter.unusedSimpArgs false
theorem p_lt {p m n : Nat} (hlo : 2 ^ p ≤ m) (h : m < 2 ^ n) : p < n := (Nat.pow_lt_pow_iff_right (by decide : 1 < 2)).mp (Nat.lt_of_le_of_lt hlo h)
/-! ### The length of a number in bits -/
def len8 : ByteArray := ⟨#[0, 1, 2, 2, 3, 3, 3, 3, 4, 4, 4, 4, 4, 4, 4, 4, 5, 5, 5, 5, 5, 5, 5, 5, 5, 5, 5, 5, 5, 5, 5, 5, 6, 6, 6, 6, 6, 6, 6, 6, 6, 6, 6, 6, 6, 6, 6, 6, 6, 6, 6, 6, 6, 6, 6, 6, 6, 6, 6, 6, 6, 6, 6, 6, 7, 7, 7, 7, 7, 7, 7, 7, 7, 7, 7, 7, 7, 7, 7, 7, 7, 7, 7, 7, 7, 7, 7, 7, 7, 7, 7, 7, 7, 7, 7, 7, 7, 7, 7, 7, 7, 7, 7, 7, 7, 7, 7, 7, 7, 7, 7, 7, 7, 7, 7, 7, 7, 7, 7, 7, 7, 7, 7, 7, 7, 7, 7, 7, 8, 8, 8, 8, 8, 8, 8, 8, 8, 8, 8, 8, 8, 8, 8, 8, 8, 8, 8, 8, 8, 8, 8, 8, 8, 8, 8, 8, 8, 8, 8, 8, 8, 8, 8, 8, 8, 8, 8, 8, 8, 8, 8, 8, 8, 8, 8, 8, 8, 8, 8, 8, 8, 8, 8, 8, 8, 8, 8, 8, 8, 8, 8, 8, 8, 8, 8, 8, 8, 8, 8, 8, 8, 8, 8, 8, 8, 8, 8, 8, 8, 8, 8, 8, 8, 8, 8, 8, 8, 8, 8, 8, 8, 8, 8, 8, 8, 8, 8, 8, 8, 8, 8, 8, 8, 8, 8, 8, 8, 8, 8, 8, 8, 8, 8, 8, 8, 8, 8, 8, 8, 8, 8, 8, 8, 8, 8, 8]⟩
theorem len_j0 (k : Nat) (x0 x2 : Int) : bits_Len64.j0 (k + 1) x0 x2 = if x0 ≥ 65536 then (if (x0 / 65536) ≥ 256 then (if 0 ≤ (((x0 / 65536) / 256) % 256) then (if (((x0 / 65536) / 256) % 256) < 256 then (some (wrap64 ((wrap64 ((wrap64 (x2 + 16)) + 8)) + (wrap64 (bt len8 (((x0 / 65536) / 256) % 256)))))) else (none)) else (none)) else (if 0 ≤ ((x0 / 65536) % 256) then (if ((x0 / 65536) % 256) < 256 then (some (wrap64 ((wrap64 (x2 + 16)) + (wrap64 (bt len8 ((x0 / 65536) % 256)))))) else (none)) else (none))) else (if x0 ≥ 256 then (if 0 ≤ ((x0 / 256) % 256) then (if ((x0 / 256) % 256) < 256 then (some (wrap64 ((wrap64 (x2 + 8)) + (wrap64 (bt len8 ((x0 / 256) % 256)))))) else (none)) else (none)) else (if 0 ≤ ((x0) % 256) then (if ((x0) % 256) < 256 then (some (wrap64 (x2 + (wrap64 (bt len8 ((x0) % 256)))))) else (none)) else (none))) := rfl

theorem len8_ok : ∀ i : Nat, i < 256 → 0 < i → bt len8 (i : Int) = ((Nat.log2 i + 1 : Nat) : Int) := by decide +kernel
theorem log_of {p m : Nat} (hlo : 2 ^ p ≤ m) (hhi : m < 2 ^ (p + 1)) : Nat.log2 m = p := by
  have h0 : m ≠ 0 := by have := Nat.one_le_two_pow (n := p); omega
  exact (Nat.log2_eq_iff h0).mpr ⟨hlo, hhi⟩
theorem len_step {p m : Nat} (hlo : 2 ^ p ≤ m) (hhi : m < 2 ^ (p + 1)) (j : Nat) (hj : j ≤ p) (h : m / 2 ^ j < 256) : bt len8 ((m / 2 ^ j : Nat) : Int) = ((p - j + 1 : Nat) : Int) := by
  have h1 : 2 ^ (p - j) ≤ m / 2 ^ j := by
    rw [Nat.le_div_iff_mul_le (Nat.two_pow_pos _), ← Nat.pow_add]
    have : p - j + j = p := by omega
    rw [this]; exact hlo
  have h2 : m / 2 ^ j < 2 ^ (p - j + 1) := by
    rw [Nat.div_lt_iff_lt_mul (Nat.two_pow_pos _), ← Nat.pow_add]
    have : p - j + 1 + j = p + 1 := by omega
    rw [this]; exact hhi
  have h3 : 0 < m / 2 ^ j := Nat.lt_of_lt_of_le (Nat.two_pow_pos _) h1
  rw [len8_ok _ h h3, log_of h1 h2]
theorem p_ge {p m n : Nat} (hhi : m < 2 ^ (p + 1)) (h : 2 ^ n ≤ m) : n ≤ p := by
  have := (Nat.pow_lt_pow_iff_right (by decide : 1 < 2)).mp (Nat.lt_of_le_of_lt h hhi)
  omega
theorem len_low {p x : Nat} (hlo : 2 ^ p ≤ x) (hhi : x < 2 ^ (p + 1)) (hx : x < 4294967296) (n : Int) (hn : 0 ≤ n) (hn' : n ≤ 32) (k : Nat) :
    bits_Len64.j0 (k + 1) (x : Int) n = some (n + p + 1) := by
  rw [len_j0]
  have e8 : (2 : Nat) ^ 8 = 256 := by decide
  have e16 : (2 : Nat) ^ 16 = 65536 := by decide
  have e24 : (2 : Nat) ^ 24 = 16777216 := by decide
  have e32 : (2 : Nat) ^ 32 = 4294967296 := by decide
  have hp : p < 32 := p_lt hlo (by omega)
  have st : ∀ j : Nat, j ≤ p → x / 2 ^ j < 256 → ∀ y : Int, y = ((x / 2 ^ j : Nat) : Int) → wrap64 (bt len8 y) = p - j + 1 := by
    intro j hj h y hy
    rw [hy, len_step hlo hhi j hj h, w64_id (by omega) (by omega)]
    omega
  by_cases c1 : (x : Int) ≥ 65536
  · rw [if_pos c1]
    have g16 : 16 ≤ p := p_ge hhi (by omega)
    by_cases c2 : ((x : Int) / 65536) ≥ 256
    · rw [if_pos c2]
      have g24 : 24 ≤ p := p_ge hhi (by omega)
      rw [if_pos (by omega), if_pos (by omega), st 24 g24 (by omega) _ (by rw [e24]; omega)]
      congr 1
      simp only [wrap64]; omega
    · rw [if_neg c2, if_pos (by omega), if_pos (by omega), st 16 g16 (by omega) _ (by rw [e16]; omega)]
      congr 1
      simp only [wrap64]; omega
  · rw [if_neg c1]
    by_cases c2 : (x : Int) ≥ 256
    · rw [if_pos c2]
      have g8 : 8 ≤ p := p_ge hhi (by omega)
      rw [if_pos (by omega), if_pos (by omega), st 8 g8 (by omega) _ (by rw [e8]; omega)]
      congr 1
      simp only [wrap64]; omega
    · rw [if_neg c2, if_pos (by omega), if_pos (by omega), st 0 (by omega) (by simp; omega) _ (by simp; omega)]
      congr 1
      simp only [wrap64]; omega
theorem len_eq {p m : Nat} (hlo : 2 ^ p ≤ m) (hhi : m < 2 ^ (p + 1)) (hm : m < 18446744073709551616) (k : Nat) : bits_Len64.f (k + 1) (m : Int) = some ((p : Int) + 1) := by
  unfold bits_Len64.f
  have e32 : (2 : Nat) ^ 32 = 4294967296 := by decide
  by_cases c : (m : Int) ≥ 4294967296
  · rw [if_pos c]
    have g : 32 ≤ p := p_ge hhi (by omega)
    have h1 : 2 ^ (p - 32) ≤ m / 4294967296 := by
      rw [← e32, Nat.le_div_iff_mul_le (Nat.two_pow_pos _), ← Nat.pow_add]
      have : p - 32 + 32 = p := by omega
      rw [this]; exact hlo
    have h2 : m / 4294967296 < 2 ^ (p - 32 + 1) := by
      rw [← e32, Nat.div_lt_iff_lt_mul (Nat.two_pow_pos _), ← Nat.pow_add]
      have : p - 32 + 1 + 32 = p + 1 := by omega
      rw [this]; exact hhi
    have e : (m : Int) / 4294967296 = ((m / 4294967296 : Nat) : Int) := by omega
    rw [e, len_low h1 h2 (by omega) 32 (by decide) (by decide) k]
    congr 1; omega
  · rw [if_neg c, len_low hlo hhi (by omega) 0 (by decide) (by decide) k]
    congr 1; omega

theorem len_zero (k : Nat) : bits_Len64.f (k + 1) 0 = some 0 := by
  unfold bits_Len64.f
  rw [if_neg (by decide), len_j0, if_neg (by decide), if_neg (by decide), if_pos (by decide), if_pos (by decide)]
  have e0 : bt len8 0 = 0 := by decide +kernel
  show some (wrap64 (0 + wrap64 (bt len8 0))) = _
  rw [e0]
  simp [wrap64]
theorem pow_cast (m : Nat) : (2 : Int) ^ m = ((2 ^ m : Nat) : Int) := by
  rw [Int.natCast_pow]; rfl
theorem len64_ok (v : Int) (h0 : 0 ≤ v) (h1 : v < 18446744073709551616) : ∃ kL L, bits_Len64.f kL v = some L ∧ ∀ m : Nat, L ≤ (m : Int) ↔ v < 2 ^ m := by
  obtain ⟨n, rfl⟩ : ∃ n : Nat, v = n := ⟨v.toNat, by omega⟩
  by_cases hz : n = 0
  · subst hz
    refine ⟨1, 0, len_zero 0, fun m => ?_⟩
    have := Nat.two_pow_pos m
    rw [pow_cast]
    omega
  · have hlo : 2 ^ Nat.log2 n ≤ n := (Nat.le_log2 hz).mp (Nat.le_refl _)
    have hhi : n < 2 ^ (Nat.log2 n + 1) := (Nat.log2_lt hz).mp (Nat.lt_succ_self _)
    refine ⟨1, _, len_eq hlo hhi (by omega) 0, fun m => ?_⟩
    rw [pow_cast]
    constructor
    · intro h
      have h2 : Nat.log2 n + 1 ≤ m := by omega
      have := Nat.pow_le_pow_right (by decide : 0 < 2) h2
      omega
    · intro h
      have h2 : n < 2 ^ m := by omega
      have := (Nat.pow_lt_pow_iff_right (by decide : 1 < 2)).mp (Nat.lt_of_le_of_lt hlo h2)
      omega
/-! ### Put -/
def BytesL (l : List Int) : Prop := ∀ c ∈ l, 0 ≤ c ∧ c < 256
theorem rd_nat (l : List Int) (i : Nat) (h : i < l.length) : rd l (i : Int) = l[i] := by
  show l.getD (i : Int).toNat 0 = _
  rw [Int.toNat_natCast, List.getD_eq_getElem?_getD, List.getElem?_eq_getElem h]
  rfl
theorem rd_bytes (l : List Int) (hl : BytesL l) (i : Int) (h0 : 0 ≤ i) (h : i < l.length) : 0 ≤ rd l i ∧ rd l i < 256 := by
  obtain ⟨n, rfl⟩ : ∃ n : Nat, i = n := ⟨i.toNat, by omega⟩
  rw [rd_nat l n (by omega)]
  exact hl _ (List.getElem_mem _)
theorem lay_bytes (a : Nat) (v : Int) (B : List Int) (hB : BytesL B) : ∀ i, BytesL (grain_lay.go a v B i)
  | 0 => hB
  | i + 1 => fun c hc => by
    rcases List.mem_or_eq_of_mem_set hc with h | h
    · exact lay_bytes a v B hB i c h
    · rw [h]; omega
theorem shr64 (v : Int) (j : Nat) (hj : j ≤ 64) : shr .u64 v (j : Int) = v / 2 ^ j := by
  unfold shr
  rw [Int.toNat_natCast, show IntKind.u64.bits = 64 from rfl, Nat.min_eq_left hj]
theorem rput_l0 (B : List Int) (hL : B.length < 140737488355328) (at_ w v : Int) : ∀ (n k i : Nat), n + i = B.length → sluiceref01_Put.l0 (k + n) B at_ w v (B.take i) (i : Int) = sluiceref01_Put.l0 k B at_ w v B (B.length : Int) := by
  intro n
  induction n with
  | zero =>
    intro k i hi
    obtain rfl : i = B.length := by omega
    rw [List.take_length, Nat.add_zero]
  | succ n ih =>
    intro k i hi
    have hlt : i < B.length := by omega
    rw [show k + (n + 1) = (k + n) + 1 from by omega]
    conv => lhs; rw [sluiceref01_Put.l0]
    rw [if_pos (by omega), if_pos (by omega), if_pos (by rw [List.length_take]; omega), rd_nat B i hlt, ← List.take_succ_eq_append_getElem hlt, w64_id (by omega) (by omega), show (i : Int) + 1 = ((i + 1 : Nat) : Int) from by omega]
    exact ih k (i + 1) (by omega)
theorem rput_l1 (B : List Int) (hL : B.length < 140737488355328) (a m : Nat) (hm : a + m ≤ B.length) (hm8 : m ≤ 8) (v : Int) : ∀ (n k i : Nat), n + i = m → sluiceref01_Put.l1 (k + 1 + n) (a : Int) (m : Int) v (grain_lay.go a v B i) (i : Int) = some (grain_lay.go a v B m, 0) := by
  intro n
  induction n with
  | zero =>
    intro k i hi
    obtain rfl : i = m := by omega
    rw [Nat.add_zero, sluiceref01_Put.l1, if_neg (by omega)]
  | succ n ih =>
    intro k i hi
    rw [show k + 1 + (n + 1) = (k + 1 + n) + 1 from by omega, sluiceref01_Put.l1, w64_id (n := 8 * (i : Int)) (by omega) (by omega), w64_id (n := (a : Int) + (i : Int)) (by omega) (by omega), w64_id (n := (i : Int) + 1) (by omega) (by omega)]
    rw [if_pos (by omega), if_pos (by omega), if_pos (by omega), if_pos (by rw [grain_lay.len]; omega), show 8 * (i : Int) = ((8 * i : Nat) : Int) from by omega, shr64 v (8 * i) (by omega), show ((a : Int) + (i : Int)).toNat = a + i from by omega, show (i : Int) + 1 = ((i + 1 : Nat) : Int) from by omega]
    exact ih k (i + 1) (by omega)
theorem there_val (n at_ w : Int) (h0 : 0 ≤ n) (h1 : n < 4611686018427387904) : sluiceref01_there.f n at_ w = some (decide (0 ≤ at_ ∧ at_ ≤ n ∧ w ≤ n - at_)) := by
  unfold sluiceref01_there.f
  by_cases c1 : at_ ≥ 0
  · rw [if_pos c1]
    by_cases c2 : at_ ≤ n
    · rw [if_pos c2, w64_id (by omega) (by omega)]
      congr 1
      by_cases c3 : w ≤ n - at_
      · rw [decide_eq_true (by omega), decide_eq_true ⟨by omega, c2, c3⟩]
      · rw [decide_eq_false (by omega), decide_eq_false (fun h => c3 h.2.2)]
    · rw [if_neg c2, decide_eq_false (fun h => c2 h.2.1)]
  · rw [if_neg c1, decide_eq_false (fun h => c1 h.1)]
theorem div0 (v p : Int) (hp : 0 < p) : v / p = 0 ↔ (0 ≤ v ∧ v < p) := by
  constructor
  · intro h
    have h1 := Int.emod_add_mul_ediv v p
    have h2 := Int.emod_nonneg v (Int.ne_of_gt hp)
    have h3 := Int.emod_lt_of_pos v hp
    rw [h, Int.mul_zero] at h1
    omega
  · rintro ⟨h1, h2⟩
    exact Int.ediv_eq_zero_of_lt h1 h2
theorem rput_val (B : List Int) (hL : B.length < 140737488355328) (at_ w v : Int) (h0 : 0 ≤ v) (h1 : v < 18446744073709551616) (k : Nat) (hk : B.length + 20 ≤ k) : sluiceref01_Put.f k B at_ w v = some (grain_Put.f B at_ w v) := by
  obtain ⟨k, rfl⟩ : ∃ k', k = (k' + 13) + B.length := ⟨k - B.length - 13, by omega⟩
  have e := rput_l0 B hL at_ w v B.length (k + 13) 0 (by omega)
  rw [List.take_zero] at e
  show sluiceref01_Put.l0 (k + 13 + B.length) B at_ w v [] ((0 : Nat) : Int) = _
  rw [e, sluiceref01_Put.l0, if_neg (by omega)]
  unfold grain_Put.f
  have j1t : sluiceref01_Put.j1 (k + 12) B at_ w v B true = some (B, 11) := by
    rw [sluiceref01_Put.j1, if_pos rfl]
  by_cases c1 : 1 ≤ w ∧ w ≤ 8
  · rw [if_pos c1, if_neg (by omega), decide_eq_false (by omega), sluiceref01_Put.j1, if_neg (by decide), there_val _ _ _ (by omega) (by omega), Option.bind_some]
    by_cases c2 : 0 ≤ at_ ∧ at_ ≤ (B.length : Int) ∧ w ≤ (B.length : Int) - at_
    · rw [if_pos c2, if_pos (decide_eq_true c2)]
      obtain ⟨m, rfl⟩ : ∃ m : Nat, w = m := ⟨w.toNat, by omega⟩
      obtain ⟨a, rfl⟩ : ∃ a : Nat, at_ = a := ⟨at_.toNat, by omega⟩
      rw [Int.toNat_natCast, Int.toNat_natCast]
      have go : ∀ b : Bool, (b = true ↔ ¬ v < 2 ^ (8 * m)) → sluiceref01_Put.j2 (k + 11) (a : Int) (m : Int) v B b = some (if v < 2 ^ (8 * m) then (grain_lay.go a v B m, 0) else (B, 12)) := by
        intro b hb
        rw [sluiceref01_Put.j2]
        by_cases c3 : v < 2 ^ (8 * m)
        · rw [if_neg (fun h => (hb.mp h) c3), if_pos c3]
          have := rput_l1 B hL a m (by omega) (by omega) v m (k + 10 - 1 - m) 0 (by omega)
          rw [show k + 10 - 1 - m + 1 + m = k + 10 from by omega] at this
          exact this
        · rw [if_pos (hb.mpr c3), if_neg c3]
      by_cases c4 : (m : Int) < 8
      · rw [if_pos c4, w64_id (n := 8 * (m : Int)) (by omega) (by omega), if_pos (by omega), show 8 * (m : Int) = ((8 * m : Nat) : Int) from by omega, shr64 v (8 * m) (by omega)]
        refine go _ ?_
        have hp : (0 : Int) < 2 ^ (8 * m) := Int.pow_pos (by decide)
        rw [bne_iff_ne, Ne, div0 v _ hp]
        omega
      · rw [if_neg c4]
        obtain rfl : m = 8 := by omega
        refine go false ?_
        have e8 : (2 : Int) ^ (8 * 8) = 18446744073709551616 := by decide
        constructor
        · intro h
          cases h
        · intro h
          omega
    · rw [if_neg c2, if_neg (by rw [decide_eq_false c2]; decide)]
  · rw [if_neg c1]
    by_cases c5 : w < 1
    · rw [if_pos c5, j1t]
    · rw [if_neg c5, decide_eq_true (by omega), j1t]
/-! ### Get -/
/-- The number that i bytes from a on make. -/
def gval (l : List Int) (a : Int) : Nat → Int
  | 0 => 0
  | i + 1 => gval l a i + 2 ^ (8 * i) * rd l (a + i)
theorem p8 (i : Nat) : (2 : Int) ^ (8 * (i + 1)) = 2 ^ (8 * i) * 256 := by
  rw [show 8 * (i + 1) = 8 * i + 8 from by omega, Int.pow_add]
  rfl
theorem p8_pos (i : Nat) : (0 : Int) < 2 ^ (8 * i) := Int.pow_pos (by decide)
theorem p8_le (i : Nat) (h : i ≤ 8) : (2 : Int) ^ (8 * i) ≤ 18446744073709551616 := by
  rw [pow_cast]
  have := Nat.pow_le_pow_right (by decide : 0 < 2) (show 8 * i ≤ 64 by omega)
  have e : 2 ^ 64 = 18446744073709551616 := by decide
  omega
theorem gval_lt (l : List Int) (hl : BytesL l) (a : Nat) : ∀ i, a + i ≤ l.length → 0 ≤ gval l a i ∧ gval l a i < 2 ^ (8 * i)
  | 0, _ => by rw [gval]; decide
  | i + 1, h => by
    obtain ⟨h0, h1⟩ := gval_lt l hl a i (by omega)
    obtain ⟨b0, b1⟩ := rd_bytes l hl ((a : Int) + i) (by omega) (by omega)
    have hp := p8_pos i
    rw [gval, p8]
    generalize rd l ((a : Int) + i) = b at b0 b1
    generalize (2 : Int) ^ (8 * i) = p at h1 hp
    generalize gval l (a : Int) i = g at h0 h1
    have m0 : 0 ≤ p * b := Int.mul_nonneg (by omega) b0
    have m1 : p * b ≤ p * 255 := Int.mul_le_mul_of_nonneg_left (by omega) (by omega)
    omega
theorem or_comm64 (x y : Int) (hx : 0 ≤ x) (hx' : x < 18446744073709551616) (hy : 0 ≤ y) (hy' : y < 18446744073709551616) : Go.bits .or .u64 x y = Go.bits .or .u64 y x := by
  have h1 := n64_or x.toNat y.toNat (by omega) (by omega)
  have h2 := n64_or y.toNat x.toNat (by omega) (by omega)
  rw [Nat.or_comm] at h2
  rw [show ((x.toNat : Nat) : Int) = x from by omega, show ((y.toNat : Nat) : Int) = y from by omega] at h1 h2
  rw [h1, h2]
theorem go_gval (l : List Int) (hl : BytesL l) (a : Nat) : ∀ i, i ≤ 8 → a + i ≤ l.length → grain_Get.go l (a : Int) i = gval l (a : Int) i
  | 0, _, _ => rfl
  | i + 1, h8, h => by
    obtain ⟨h0, h1⟩ := gval_lt l hl a i (by omega)
    obtain ⟨b0, b1⟩ := rd_bytes l hl ((a : Int) + i) (by omega) (by omega)
    have hp := p8_pos i
    have hq := p8_le (i + 1) h8
    have hq0 := p8_le i (by omega)
    rw [p8] at hq
    show Go.bits .or .u64 (grain_Get.go l (a : Int) i) (IntKind.u64.wrap (IntKind.u64.wrap (rd l ((a : Int) + i)) * 2 ^ (8 * i))) = gval l (a : Int) i + 2 ^ (8 * i) * rd l ((a : Int) + i)
    rw [go_gval l hl a i (by omega) (by omega)]
    have hmod : rd l ((a : Int) + i) * 2 ^ (8 * i) % 2 ^ (8 * i) = 0 := Int.mul_emod_left _ _
    have m0 : 0 ≤ rd l ((a : Int) + i) * 2 ^ (8 * i) := Int.mul_nonneg b0 (by omega)
    have m1 : rd l ((a : Int) + i) * 2 ^ (8 * i) ≤ 255 * 2 ^ (8 * i) := Int.mul_le_mul_of_nonneg_right (by omega) (by omega)
    have hlt : rd l ((a : Int) + i) * 2 ^ (8 * i) < 18446744073709551616 := by
      generalize rd l ((a : Int) + i) * 2 ^ (8 * i) = z at m0 m1
      generalize (2 : Int) ^ (8 * i) = p at *
      omega
    rw [u64_id (n := rd l _) (by omega) (by omega), u64_id m0 hlt, or_comm64 _ _ h0 (Int.lt_of_lt_of_le h1 hq0) m0 hlt, u64_join (8 * i) _ _ m0 hmod hlt h0 h1 (Int.lt_of_lt_of_le h1 hq0), Int.add_comm, Int.mul_comm]
theorem laid_l0 (a : List Int) (r : Nat) (h : a.length + r ≤ 4096) : ∀ (d i k : Nat), i + d = a.length + r → d < k →
    sluicelaw06_laid.l0 k (a ++ List.replicate r 99) a (i : Int) = some true
  | d, i, 0, _, hk => by omega
  | 0, i, k + 1, hi, _ => by
    unfold sluicelaw06_laid.l0
    rw [List.length_append, List.length_replicate, if_neg (by omega), decide_eq_true (by omega)]
  | d + 1, i, k + 1, hi, hk => by
    have ih := laid_l0 a r h d (i + 1) k (by omega) (by omega)
    unfold sluicelaw06_laid.l0
    rw [List.length_append, List.length_replicate, if_pos (by omega)]
    have e : wrap64 ((i : Int) + 1) = ((i + 1 : Nat) : Int) := by rw [w64_id (by omega) (by omega)]; omega
    by_cases c : i < a.length
    · rw [if_pos (by omega), if_pos (by omega)]
      have hrd : rd (a ++ List.replicate r 99) (i : Int) = rd a (i : Int) := by
        unfold rd
        rw [Int.toNat_natCast, List.getD_eq_getElem?_getD, List.getD_eq_getElem?_getD, List.getElem?_append_left c]
      rw [if_pos hrd, e]
      exact ih
    · rw [if_neg (by omega), if_pos (by omega)]
      have hrd : rd (a ++ List.replicate r 99) (i : Int) = 99 := by
        unfold rd
        rw [Int.toNat_natCast, List.getD_eq_getElem?_getD, List.getElem?_append_right (by omega), List.getElem?_replicate, if_pos (by omega)]
        rfl
      rw [if_pos hrd, e]
      exact ih

theorem lenOk : LenOk := fun v h0 h1 => len64_ok v h0 h1
/-! ### Bytes of a number -/
def leB (v : Int) (m : Nat) : List Int := (List.range m).map (fun j => v / 2 ^ (8 * j) % 256)
theorem leB_len (v : Int) (m : Nat) : (leB v m).length = m := by simp [leB]
theorem leB_bytes (v : Int) (m : Nat) : BytesL (leB v m) := by
  intro c hc
  obtain ⟨j, _, rfl⟩ := List.mem_map.mp hc
  omega
theorem leB_get (v : Int) (m j : Nat) (h : j < m) : (leB v m)[j]? = some (v / 2 ^ (8 * j) % 256) := by
  simp [leB, h]
theorem lay_get (a : Nat) (v : Int) (ys : List Int) : ∀ (m j : Nat), a + m ≤ ys.length → (grain_lay.go a v ys m)[j]? = if a ≤ j ∧ j < a + m then some (v / 2 ^ (8 * (j - a)) % 256) else ys[j]?
  | 0, j, h => by
    rw [if_neg (by omega)]
    rfl
  | m + 1, j, h => by
    show ((grain_lay.go a v ys m).set (a + m) (v / 2 ^ (8 * m) % 256))[j]? = _
    rw [List.getElem?_set]
    by_cases h1 : a + m = j
    · subst h1
      rw [if_pos rfl, if_pos (by rw [grain_lay.len]; omega), if_pos (by omega), show a + m - a = m from by omega]
    · rw [if_neg h1, lay_get a v ys m j (by omega)]
      by_cases h2 : a ≤ j ∧ j < a + m
      · rw [if_pos h2, if_pos (by omega)]
      · rw [if_neg h2, if_neg (by omega)]
theorem lay_split (v : Int) (m : Nat) (A B C : List Int) (hB : B.length = m) : grain_lay.go A.length v (A ++ B ++ C) m = A ++ leB v m ++ C := by
  refine List.ext_getElem? (fun j => ?_)
  rw [lay_get _ _ _ _ _ (by simp only [List.length_append]; omega)]
  simp only [List.getElem?_append, List.length_append, leB_len, hB]
  by_cases h1 : j < A.length
  · rw [if_neg (by omega), if_pos (by omega), if_pos h1, if_pos (by omega), if_pos h1]
  · by_cases h2 : j < A.length + m
    · rw [if_pos (by omega), if_pos h2, if_neg h1, leB_get _ _ _ (by omega)]
    · rw [if_neg (by omega), if_neg h2, if_neg h2]
theorem lay_at (a : Nat) (v : Int) (m : Nat) (A B C ys : List Int) (ha : A.length = a) (hB : B.length = m) (hy : ys = A ++ B ++ C) : grain_lay.go a v ys m = A ++ leB v m ++ C := by
  subst ha hy
  exact lay_split v m A B C hB
theorem mod_step (v : Int) (i : Nat) : v % 2 ^ (8 * i) + 2 ^ (8 * i) * (v / 2 ^ (8 * i) % 256) = v % 2 ^ (8 * (i + 1)) := by
  rw [p8]
  have hp := p8_pos i
  generalize (2 : Int) ^ (8 * i) = p at *
  have h1 := Int.emod_add_mul_ediv v p
  have h2 := Int.emod_add_mul_ediv (v / p) 256
  have h3 := Int.emod_lt_of_pos v hp
  have h4 := Int.emod_nonneg v (show p ≠ 0 by omega)
  have h5 := Int.emod_lt_of_pos (v / p) (show (0 : Int) < 256 by decide)
  have h6 := Int.emod_nonneg (v / p) (show (256 : Int) ≠ 0 by decide)
  have e : v = (v % p + p * (v / p % 256)) + (p * 256) * (v / p / 256) := by
    rw [Int.mul_assoc, Int.add_assoc, ← Int.mul_add, h2, h1]
  conv => rhs; rw [e]
  rw [Int.add_mul_emod_self_left]
  refine (Int.emod_eq_of_lt ?_ ?_).symm
  · exact Int.add_nonneg h4 (Int.mul_nonneg (by omega) h6)
  · have : p * (v / p % 256) ≤ p * 255 := Int.mul_le_mul_of_nonneg_left (by omega) (by omega)
    omega
theorem gval_leB (v : Int) (m : Nat) (A C : List Int) : ∀ i, i ≤ m → gval (A ++ leB v m ++ C) (A.length : Int) i = v % 2 ^ (8 * i)
  | 0, _ => by
    rw [gval]
    simp
  | i + 1, h => by
    rw [gval, gval_leB v m A C i (by omega), ← mod_step]
    congr 2
    show (A ++ leB v m ++ C).getD ((A.length : Int) + (i : Int)).toNat 0 = _
    rw [show ((A.length : Int) + (i : Int)).toNat = A.length + i from by omega, List.getD_eq_getElem?_getD]
    rw [List.append_assoc, List.getElem?_append_right (by omega), show A.length + i - A.length = i from by omega, List.getElem?_append_left (by rw [leB_len]; omega), leB_get _ _ _ (by omega)]
    rfl
/-- What Get reads where Put has laid. -/
theorem get_back (a : Nat) (v : Int) (m : Nat) (A C l : List Int) (ha : A.length = a) (hA : BytesL A) (hC : BytesL C) (hm : m ≤ 8) (hl : l = A ++ leB v m ++ C) (h0 : 0 ≤ v) (h1 : v < 2 ^ (8 * m)) : grain_Get.go l (a : Int) m = v := by
  subst ha hl
  rw [go_gval _ (by
    intro c hc
    rcases List.mem_append.mp hc with h | h
    · rcases List.mem_append.mp h with h | h
      · exact hA c h
      · exact leB_bytes _ _ c h
    · exact hC c h) _ _ hm (by simp only [List.length_append, leB_len]; omega), gval_leB v m A C m (Nat.le_refl _)]
  exact Int.emod_eq_of_lt h0 h1
/-- What the document's le answers. -/
theorem le_val (v : Int) (m : Nat) (hm : 1 ≤ m ∧ m ≤ 8) (h0 : 0 ≤ v) (h1 : v < 18446744073709551616) (h2 : v < 2 ^ (8 * m)) (k : Nat) (hk : 100 ≤ k) : sluiceref06_le.f k v (m : Int) = some (leB v m) := by
  unfold sluiceref06_le.f
  rw [if_pos (by omega), if_pos (by omega), Int.toNat_natCast, rput_val _ (by rw [List.length_replicate]; omega) _ _ _ h0 h1 k (by rw [List.length_replicate]; omega)]
  unfold grain_Put.f
  rw [if_pos (by omega), if_pos (by rw [List.length_replicate]; omega), Int.toNat_natCast, if_pos h2]
  show some (grain_lay.go 0 v (List.replicate m 0) m) = _
  rw [lay_at 0 v m [] (List.replicate m 0) [] _ rfl List.length_replicate (by simp)]
  simp
end ReelPlain
section ReelVals
open Go.RowKit Go.Proofs.YtnmhfcfojbfikaaW.PrintWords Go.Proofs.YtnmhfcfojbfikaaW.PrintLast Go.Proofs.YtnmhfcfojbfikaaW.PrintMore
open Go.Proofs.Ytnmhfcfojbfikaa.Num
open QPut (grain_lay.go)
open QGet (grain_Get.go)
set_option linter.unusedVariables false
set_option linter.unusedSimpArgs false
def rest (n : Nat) : List Int := List.replicate (102 - n) 99
def eW (n : Nat) (s d u : Int) : List Int := if n = 8 then leB s 4 ++ leB d 4 else leB s 4 ++ leB d 4 ++ leB u 4
def uW (s d u : Int) : List Int := leB s 4 ++ leB d 8 ++ leB u 8
def sW (vs : List Int) : Nat → List Int
  | 0 => []
  | k + 1 => sW vs k ++ leB (vs.getD k 0) 8
theorem sW_len (vs : List Int) : ∀ k, (sW vs k).length = 8 * k
  | 0 => rfl
  | k + 1 => by
    rw [sW, List.length_append, leB_len, sW_len vs k]
    omega
theorem bytes_app {a b : List Int} (ha : BytesL a) (hb : BytesL b) : BytesL (a ++ b) := by
  intro c hc
  rcases List.mem_append.mp hc with h | h
  · exact ha c h
  · exact hb c h
theorem bytes_rest (n : Nat) : BytesL (rest n) := by
  intro c hc
  rw [rest, List.mem_replicate] at hc
  omega
theorem bytes_nil : BytesL [] := fun _ h => by cases h
theorem sW_bytes (vs : List Int) : ∀ k, BytesL (sW vs k)
  | 0 => bytes_nil
  | k + 1 => bytes_app (sW_bytes vs k) (leB_bytes _ _)
theorem rep_split (n m : Nat) (h : n + m ≤ 102) : rest n = List.replicate m 99 ++ rest (n + m) := by
  unfold rest
  rw [List.replicate_append_replicate]
  congr 1
  omega
theorem rep_all : (List.replicate 102 99 : List Int) = rest 0 := rfl
theorem edgeB_val (n : Nat) (hn : n = 8 ∨ n = 12) (s d u : Int) : edgeB n s d u (List.replicate 102 99) = eW n s d u ++ rest n := by
  have e1 : grain_lay.go 0 s (List.replicate 102 99) 4 = leB s 4 ++ rest 4 := by
    rw [lay_at 0 s 4 [] (List.replicate 4 99) (rest 4) _ rfl List.length_replicate (by rw [rep_all, rep_split 0 4 (by omega)]; rfl)]
    rfl
  have e2 : grain_lay.go 4 d (leB s 4 ++ rest 4) 4 = leB s 4 ++ leB d 4 ++ rest 8 :=
    lay_at 4 d 4 (leB s 4) (List.replicate 4 99) (rest 8) _ (leB_len _ _) List.length_replicate (by rw [rep_split 4 4 (by omega), List.append_assoc])
  have e3 : grain_lay.go 8 u (leB s 4 ++ leB d 4 ++ rest 8) 4 = leB s 4 ++ leB d 4 ++ leB u 4 ++ rest 12 :=
    lay_at 8 u 4 (leB s 4 ++ leB d 4) (List.replicate 4 99) (rest 12) _ (by rw [List.length_append, leB_len, leB_len]) List.length_replicate (by rw [rep_split 8 4 (by omega), List.append_assoc _ (List.replicate 4 99)])
  unfold edgeB eW
  rw [e1, e2, e3]
  rcases hn with rfl | rfl
  · rw [if_pos rfl, if_pos rfl]
  · rw [if_neg (by decide), if_neg (by decide)]
theorem updB_val (s d u : Int) : updB s d u (List.replicate 102 99) = uW s d u ++ rest 20 := by
  have e1 : grain_lay.go 0 s (List.replicate 102 99) 4 = leB s 4 ++ rest 4 := by
    rw [lay_at 0 s 4 [] (List.replicate 4 99) (rest 4) _ rfl List.length_replicate (by rw [rep_all, rep_split 0 4 (by omega)]; rfl)]
    rfl
  have e2 : grain_lay.go 4 d (leB s 4 ++ rest 4) 8 = leB s 4 ++ leB d 8 ++ rest 12 :=
    lay_at 4 d 8 (leB s 4) (List.replicate 8 99) (rest 12) _ (leB_len _ _) List.length_replicate (by rw [rep_split 4 8 (by omega), List.append_assoc])
  have e3 : grain_lay.go 12 u (leB s 4 ++ leB d 8 ++ rest 12) 8 = leB s 4 ++ leB d 8 ++ leB u 8 ++ rest 20 :=
    lay_at 12 u 8 (leB s 4 ++ leB d 8) (List.replicate 8 99) (rest 20) _ (by rw [List.length_append, leB_len, leB_len]) List.length_replicate (by rw [rep_split 12 8 (by omega), List.append_assoc _ (List.replicate 8 99)])
  unfold updB uW
  rw [e1, e2, e3]
theorem stB_val (vs : List Int) : ∀ k, k ≤ 8 → stB k vs (List.replicate 102 99) = sW vs k ++ rest (8 * k)
  | 0, _ => rfl
  | k + 1, h => by
    rw [stB, stB_val vs k (by omega), sW]
    exact lay_at (8 * k) (vs.getD k 0) 8 (sW vs k) (List.replicate 8 99) (rest (8 * (k + 1))) _ (sW_len vs k) List.length_replicate (by rw [rep_split (8 * k) 8 (by omega), List.append_assoc]; rfl)
/-! ### what is read -/
theorem take_all (a b : List Int) (n : Nat) (h : a.length = n) : (a ++ b).take n = a := by
  subst h
  exact List.take_left
theorem eW_len (n : Nat) (hn : n = 8 ∨ n = 12) (s d u : Int) : (eW n s d u).length = n := by
  rcases hn with rfl | rfl <;> simp [eW, leB_len]
theorem uW_len (s d u : Int) : (uW s d u).length = 20 := by simp [uW, leB_len]
theorem edge_get (n : Nat) (hn : n = 8 ∨ n = 12) (s d u : Int) (s0 : 0 ≤ s) (s1 : s < 4294967296) (d0 : 0 ≤ d) (d1 : d < 4294967296) (u0 : 0 ≤ u) (u1 : u < 4294967296) :
    grain_Get.go ((eW n s d u ++ rest n).take n) 0 4 = s ∧ grain_Get.go ((eW n s d u ++ rest n).take n) 4 4 = d ∧ (n = 12 → grain_Get.go ((eW n s d u ++ rest n).take n) 8 4 = u) := by
  rw [take_all _ _ _ (eW_len n hn s d u)]
  have p : (2 : Int) ^ (8 * 4) = 4294967296 := by decide
  rcases hn with rfl | rfl
  · refine ⟨get_back 0 s 4 [] (leB d 4) _ rfl bytes_nil (leB_bytes _ _) (by decide) rfl s0 (by rw [p]; exact s1), get_back 4 d 4 (leB s 4) [] _ (leB_len _ _) (leB_bytes _ _) bytes_nil (by decide) (by rw [List.append_nil]; rfl) d0 (by rw [p]; exact d1), fun h => absurd h (by decide)⟩
  · refine ⟨get_back 0 s 4 [] (leB d 4 ++ leB u 4) _ rfl bytes_nil (bytes_app (leB_bytes _ _) (leB_bytes _ _)) (by decide) (by rw [List.nil_append, ← List.append_assoc]; rfl) s0 (by rw [p]; exact s1), get_back 4 d 4 (leB s 4) (leB u 4) _ (leB_len _ _) (leB_bytes _ _) (leB_bytes _ _) (by decide) rfl d0 (by rw [p]; exact d1), fun _ => get_back 8 u 4 (leB s 4 ++ leB d 4) [] _ (by rw [List.length_append, leB_len, leB_len]) (bytes_app (leB_bytes _ _) (leB_bytes _ _)) bytes_nil (by decide) (by rw [List.append_nil]; rfl) u0 (by rw [p]; exact u1)⟩
theorem upd_get (s d u : Int) (s0 : 0 ≤ s) (s1 : s < 4294967296) (d0 : 0 ≤ d) (d1 : d < 18446744073709551616) (u0 : 0 ≤ u) (u1 : u < 18446744073709551616) :
    grain_Get.go ((uW s d u ++ rest 20).take 20) 0 4 = s ∧ grain_Get.go ((uW s d u ++ rest 20).take 20) 4 8 = d ∧ grain_Get.go ((uW s d u ++ rest 20).take 20) 12 8 = u := by
  rw [take_all _ _ _ (uW_len s d u)]
  have p : (2 : Int) ^ (8 * 4) = 4294967296 := by decide
  have q : (2 : Int) ^ (8 * 8) = 18446744073709551616 := by decide
  refine ⟨get_back 0 s 4 [] (leB d 8 ++ leB u 8) _ rfl bytes_nil (bytes_app (leB_bytes _ _) (leB_bytes _ _)) (by decide) (by rw [List.nil_append, ← List.append_assoc]; rfl) s0 (by rw [p]; exact s1), get_back 4 d 8 (leB s 4) (leB u 8) _ (leB_len _ _) (leB_bytes _ _) (leB_bytes _ _) (by decide) rfl d0 (by rw [q]; exact d1), get_back 12 u 8 (leB s 4 ++ leB d 8) [] _ (by rw [List.length_append, leB_len, leB_len]) (bytes_app (leB_bytes _ _) (leB_bytes _ _)) bytes_nil (by decide) (by rw [List.append_nil]; rfl) u0 (by rw [q]; exact u1)⟩
theorem sW_split (vs : List Int) (j : Nat) : ∀ k, j < k → ∃ C, BytesL C ∧ sW vs k = sW vs j ++ leB (vs.getD j 0) 8 ++ C
  | 0, h => by omega
  | k + 1, h => by
    by_cases e : j = k
    · subst e
      exact ⟨[], bytes_nil, by rw [List.append_nil]; rfl⟩
    · obtain ⟨C, hC, hs⟩ := sW_split vs j k (by omega)
      exact ⟨C ++ leB (vs.getD k 0) 8, bytes_app hC (leB_bytes _ _), by rw [sW, hs]; simp only [List.append_assoc]⟩
theorem state_get (vs : List Int) (hv : ∀ i, i < 8 → 0 ≤ vs.getD i 0 ∧ vs.getD i 0 < 18446744073709551616) (n words j : Nat) (hn : n = 8 * words) (hw : words ≤ 8) (hj : j < 8) : bk n (sW vs words ++ rest (8 * words)) words j = if j < words then vs.getD j 0 else 0 := by
  subst hn
  unfold bk
  by_cases h : j < words
  · rw [if_pos h, if_pos h, take_all _ _ _ (sW_len vs words)]
    obtain ⟨C, hC, hs⟩ := sW_split vs j words h
    have q : (2 : Int) ^ (8 * 8) = 18446744073709551616 := by decide
    exact get_back (8 * j) _ 8 (sW vs j) C _ (sW_len vs j) (sW_bytes vs j) hC (by decide) hs (hv j hj).1 (by rw [q]; exact (hv j hj).2)
  · rw [if_neg h, if_neg h]
/-! ### the document's bytes -/
theorem edgeBytes_val (kind : Int) (n : Nat) (hk : (kind = 1 ∧ n = 8) ∨ (kind ≠ 1 ∧ n = 12)) (s d u : Int) (s0 : 0 ≤ s) (s1 : s < 4294967296) (d0 : 0 ≤ d) (d1 : d < 4294967296) (u0 : 0 ≤ u) (u1 : u < 4294967296) : sluiceref06_EdgeBytes.f 100 kind s d u = some (eW n s d u) := by
  have p : (2 : Int) ^ (8 * 4) = 4294967296 := by decide
  have le4 : ∀ v : Int, 0 ≤ v → v < 4294967296 → sluiceref06_le.f 100 (IntKind.u64.wrap v) 4 = some (leB v 4) := fun v h0 h1 => by
    rw [u64_id (by omega) (by omega)]
    exact le_val v 4 (by decide) h0 (by omega) (by rw [p]; exact h1) 100 (Nat.le_refl _)
  unfold sluiceref06_EdgeBytes.f
  rw [le4 s s0 s1, Option.bind_some, le4 d d0 d1, Option.bind_some, if_pos (by rw [leB_len, leB_len]; omega), Option.bind_some]
  rcases hk with ⟨rfl, rfl⟩ | ⟨hk, rfl⟩
  · rw [if_pos rfl, eW, if_pos rfl]
  · rw [if_neg hk, le4 u u0 u1, Option.bind_some, if_pos (by rw [List.length_append, leB_len, leB_len, leB_len]; omega), eW, if_neg (by decide)]
theorem updateBytes_val (s d u : Int) (s0 : 0 ≤ s) (s1 : s < 4294967296) (d0 : 0 ≤ d) (d1 : d < 18446744073709551616) (u0 : 0 ≤ u) (u1 : u < 18446744073709551616) : sluiceref06_UpdateBytes.f 100 s d u = some (uW s d u) := by
  have p : (2 : Int) ^ (8 * 4) = 4294967296 := by decide
  have q : (2 : Int) ^ (8 * 8) = 18446744073709551616 := by decide
  have e1 : sluiceref06_le.f 100 (IntKind.u64.wrap s) 4 = some (leB s 4) := by
    rw [u64_id (by omega) (by omega)]
    exact le_val s 4 (by decide) s0 (by omega) (by rw [p]; exact s1) 100 (Nat.le_refl _)
  have le8 : ∀ v : Int, 0 ≤ v → v < 18446744073709551616 → sluiceref06_le.f 100 v 8 = some (leB v 8) := fun v h0 h1 => le_val v 8 (by decide) h0 h1 (by rw [q]; exact h1) 100 (Nat.le_refl _)
  unfold sluiceref06_UpdateBytes.f
  rw [e1, Option.bind_some, le8 d d0 d1, Option.bind_some, if_pos (by rw [leB_len, leB_len]; omega), Option.bind_some, le8 u u0 u1, Option.bind_some, if_pos (by rw [List.length_append, leB_len, leB_len, leB_len]; omega)]
  rfl
/-- laid: the buffer of 100 bytes. -/
theorem laid_val (a : List Int) (n : Nat) (ha : a.length = n) (hn : n ≤ 100) : sluicelaw06_laid.f 200 ((a ++ rest n).take 100) a = some true := by
  subst ha
  have e : (a ++ rest a.length).take 100 = a ++ List.replicate (100 - a.length) 99 := by
    rw [List.take_append, List.take_of_length_le (by omega), rest, List.take_replicate]
    congr 2
    omega
  rw [e]
  exact laid_l0 a (100 - a.length) (by omega) 100 0 200 (by omega) (by omega)
set_option maxRecDepth 100000 in
theorem items65 (d : Nat) (w : World) (xs : Array Value) : ∀ is : List Nat, (∀ i ∈ is, ∃ x, xs[i]? = some (.int .u64 x)) → (Op.eqItems (d + 1) 65 1 xs xs is).run Try.prog w = .ok true w
  | [], _ => by simp [Op.eqItems]
  | i :: is, h => by
    obtain ⟨x, hx⟩ := h i (List.mem_cons_self)
    have hp : (part 65 xs (i * 1)).run Try.prog w = .ok (.int .u64 x) w := run_part_plain w (by kernel_rfl) (by rw [Nat.mul_one]; exact hx)
    have he : (Op.equalIn (d + 1) 65 (.int .u64 x) (.int .u64 x)).run Try.prog w = .ok true w := by
      rw [run_equalIn_int w d 65 .u64 .u64 x x Try.underlying65]
      simp
    simp only [Op.eqItems, Sem.run_bind, hp, he, Result.andThen_ok, Bool.not_true, Bool.false_eq_true, if_false]
    exact items65 d w xs is (fun j hj => h j (List.mem_cons_of_mem _ hj))
set_option maxRecDepth 100000 in
theorem eq69 (d : Nat) (w : World) (x0 x1 x2 x3 x4 x5 x6 x7 : Int) : (Op.equalIn (d + 2) 69 (.agg #[.int .u64 x0, .int .u64 x1, .int .u64 x2, .int .u64 x3, .int .u64 x4, .int .u64 x5, .int .u64 x6, .int .u64 x7]) (.agg #[.int .u64 x0, .int .u64 x1, .int .u64 x2, .int .u64 x3, .int .u64 x4, .int .u64 x5, .int .u64 x6, .int .u64 x7])).run Try.prog w = .ok true w := by
  have hi : (Try.prog.info? 65).isSome = true := by kernel_rfl
  obtain ⟨i, hi⟩ := Option.isSome_iff_exists.mp hi
  have hc : Try.prog.cellsOf 65 = 1 := by kernel_rfl
  rw [run_equalIn_array w (d + 1) _ _ Try.underlying69 hi, hc]
  refine items65 d w _ _ (fun j hj => ?_)
  have hj8 : j < 8 := List.mem_range.mp hj
  have : j = 0 ∨ j = 1 ∨ j = 2 ∨ j = 3 ∨ j = 4 ∨ j = 5 ∨ j = 6 ∨ j = 7 := by omega
  rcases this with rfl | rfl | rfl | rfl | rfl | rfl | rfl | rfl <;> exact ⟨_, rfl⟩
theorem eq64 (d : Nat) (w : World) (x0 x1 x2 : Int) : (Op.equalIn (d + 2) 64 (.agg #[.int .u32 x0, .int .u32 x1, .int .u32 x2]) (.agg #[.int .u32 x0, .int .u32 x1, .int .u32 x2])).run Try.prog w = .ok true w := by
  have h0 : (Op.equalIn (d + 1) 53 (.int .u32 x0) (.int .u32 x0)).run Try.prog w = .ok true w := by
    rw [run_equalIn_int w d _ .u32 .u32 x0 x0 Try.underlying53]
    simp
  have h1 : (Op.equalIn (d + 1) 53 (.int .u32 x1) (.int .u32 x1)).run Try.prog w = .ok true w := by
    rw [run_equalIn_int w d _ .u32 .u32 x1 x1 Try.underlying53]
    simp
  have h2 : (Op.equalIn (d + 1) 53 (.int .u32 x2) (.int .u32 x2)).run Try.prog w = .ok true w := by
    rw [run_equalIn_int w d _ .u32 .u32 x2 x2 Try.underlying53]
    simp
  refine eqA_of Try.underlying64 (by kernel_rfl) ?_
  refine eqf_cons (r := true) (s := true) (by rfl) (run_part_plain w (by kernel_rfl) rfl) (run_part_plain w (by kernel_rfl) rfl) h0 ?_
  refine eqf_cons (r := true) (s := true) (by rfl) (run_part_plain w (by kernel_rfl) rfl) (run_part_plain w (by kernel_rfl) rfl) h1 ?_
  exact eqf_last (by rfl) (run_part_plain w (by kernel_rfl) rfl) (run_part_plain w (by kernel_rfl) rfl) h2
theorem eq67 (d : Nat) (w : World) (x0 x1 x2 : Int) : (Op.equalIn (d + 2) 67 (.agg #[.int .u32 x0, .int .u64 x1, .int .u64 x2]) (.agg #[.int .u32 x0, .int .u64 x1, .int .u64 x2])).run Try.prog w = .ok true w := by
  have h0 : (Op.equalIn (d + 1) 53 (.int .u32 x0) (.int .u32 x0)).run Try.prog w = .ok true w := by
    rw [run_equalIn_int w d _ .u32 .u32 x0 x0 Try.underlying53]
    simp
  have h1 : (Op.equalIn (d + 1) 65 (.int .u64 x1) (.int .u64 x1)).run Try.prog w = .ok true w := by
    rw [run_equalIn_int w d _ .u64 .u64 x1 x1 Try.underlying65]
    simp
  have h2 : (Op.equalIn (d + 1) 65 (.int .u64 x2) (.int .u64 x2)).run Try.prog w = .ok true w := by
    rw [run_equalIn_int w d _ .u64 .u64 x2 x2 Try.underlying65]
    simp
  refine eqA_of Try.underlying67 (by kernel_rfl) ?_
  refine eqf_cons (r := true) (s := true) (by rfl) (run_part_plain w (by kernel_rfl) rfl) (run_part_plain w (by kernel_rfl) rfl) h0 ?_
  refine eqf_cons (r := true) (s := true) (by rfl) (run_part_plain w (by kernel_rfl) rfl) (run_part_plain w (by kernel_rfl) rfl) h1 ?_
  exact eqf_last (by rfl) (run_part_plain w (by kernel_rfl) rfl) (run_part_plain w (by kernel_rfl) rfl) h2
end ReelVals
section ReelBytesS
open Go.RowKit Go.Proofs.YtnmhfcfojbfikaaW.PrintWords Go.Proofs.YtnmhfcfojbfikaaW.PrintLast Go.Proofs.YtnmhfcfojbfikaaW.PrintMore
set_option linter.unusedVariables false
set_option linter.unusedSimpArgs false
set_option maxHeartbeats 8000000 in
set_option maxRecDepth 100000 in
theorem stateBytesR (words : Nat) (s0 s1 s2 s3 s4 s5 s6 s7 : Int) (w : World) (hw8 : words ≤ 8) (hv : ∀ i, i < 8 → 0 ≤ [s0, s1, s2, s3, s4, s5, s6, s7].getD i 0 ∧ [s0, s1, s2, s3, s4, s5, s6, s7].getD i 0 < 18446744073709551616) :
    Calls Try.prog 49 #[.int .i64 (words : Int), .agg #[.int .u64 s0, .int .u64 s1, .int .u64 s2, .int .u64 s3, .int .u64 s4, .int .u64 s5, .int .u64 s6, .int .u64 s7]] w fun e w' => ∃ v0, e = .returned v0 ∧ Kd.R (Kd.int .u8) 5 w' w.heap.size (fun _ => True) v0 (sW [s0, s1, s2, s3, s4, s5, s6, s7] words) ∧ Below w.heap.size w w' := by
  have HW8 := Aside0.mk hw8
  have HV := Aside0.mk hv
  have HE := Aside0.mk (heap_alloc_new w (.cells #[.int .u64 s0, .int .u64 s1, .int .u64 s2, .int .u64 s3, .int .u64 s4, .int .u64 s5, .int .u64 s6, .int .u64 s7] 69))
  have HB := Aside0.mk (below_alloc (Below.refl w.heap.size w) (.cells #[.int .u64 s0, .int .u64 s1, .int .u64 s2, .int .u64 s3, .int .u64 s4, .int .u64 s5, .int .u64 s6, .int .u64 s7] 69))
  clear hw8 hv
  go_enter Try.func49, Try.ntmps49
  go_wp2
  go_loopg [5, 6] words (fun kq v5 v6 w' => ∃ i : Nat, v6 = .int .i64 (i : Int) ∧ Aside0 (kq + i = words) ∧ Aside0 (Kd.R (Kd.int .u8) 5 w' w.heap.size (fun _ => True) v5 (sW [s0, s1, s2, s3, s4, s5, s6, s7] i)) ∧ Aside0 (w'.heap[w.heap.size]? = some (.cells #[.int .u64 s0, .int .u64 s1, .int .u64 s2, .int .u64 s3, .int .u64 s4, .int .u64 s5, .int .u64 s6, .int .u64 s7] 69 (0, 0))) ∧ Aside0 (Below w.heap.size w w'))
  case atStart => exact ⟨0, rfl, ⟨rfl⟩, ⟨Kd.R_nil _ _ _ _ _⟩, HE, HB⟩
  case round =>
    clear HE HB
    obtain ⟨i, rfl, HI, HO, HE, HB⟩ := hrel
    by_cases h1 : i < words
    · have c1 : decide (i < words) = true := decide_eq_true h1
      have hi8 : i < 8 := by have := HW8.out; omega
      obtain ⟨v, hvv⟩ : ∃ v, v = [s0, s1, s2, s3, s4, s5, s6, s7].getD i 0 := ⟨_, rfl⟩
      have hs0 := st_cell HE.out i hi8
      rw [← hvv] at hs0
      have hv0 := HV.out i hi8
      rw [← hvv] at hv0
      have HLE := Aside0.mk (le_val v 8 (by decide) hv0.1 hv0.2 (by have q : (2 : Int) ^ (8 * 8) = 18446744073709551616 := (by decide); rw [q]; exact hv0.2) 100 (Nat.le_refl _))
      have HVV := Aside0.mk hvv
      have HI8 := Aside0.mk hi8
      have H1 := Aside0.mk h1
      clear h1 hv0 hvv
      have hq8 := eq_true hi8
      have hp8 := eq_true (show 0 ≤ (i : Int) by omega)
      have hq9 := eq_true (show (i : Int) < 8 by omega)
      clear hi8
      go_wp2_with (first | ((with_reducible refine gate_callee (f := 71) rfl ?_); refine goesL_ (some 16) rfl rfl Try.func71 (by kernel_rfl) rfl #[.int .u64 v, .int .i64 8] rfl (by (try simp only [List.map_toArray, List.map_cons, List.map_nil]); first | done | rfl) ?_; (with_reducible refine (sluiceref06_le.calls 100 v 8 _ _ HLE.out).mono ?_); rintro e w14 ⟨vn, rfl, ho0, hb⟩; refine ⟨_, rfl, ?_⟩; have n0_ := Aside0.mk (Kd.R_mono (Kd.R_elder' (by (with_reducible repeat (first | apply Kd.R_alloc | apply Kd.R_drewN | apply Kd.R_drew)); exact HO.out) (Kd.R_base ho0) hb) (ok' := fun _ => True) (fun _ _ => trivial)); have n2_ := Aside0.mk (Kd.R_lower ho0 (below_size (by repeat (first | (with_reducible first | exact HB.out | apply below_alloc | apply pw_below_drewN | apply below_drew1) | exact HB.out)))); have n3_ := Aside0.mk (blk_below (g := w.heap.size) HE.out hb); have n4_ := Aside0.mk (below_step (by repeat (first | (with_reducible first | exact HB.out | apply below_alloc | apply pw_below_drewN | apply below_drew1) | exact HB.out)) hb); clear HO HE HB hs0; have HO := n0_; have HN := n2_; have HE := n3_; have HB := n4_; clear n0_ n2_ n3_ n4_ hb ho0; obtain ⟨Ao, co, eo⟩ := Kd.R_slice HN.out; subst eo) | ((with_reducible refine gate_builtin (b := .append) (xs := #[.tmp 12, .tmp 16]) rfl ?_); at_builtin; refine Kd.R_append_rows (Kd.int .u8) (w0 := w) w.heap.size rfl (.tmp 12) (.tmp 16) 44 5 (.int .u8 0) 1 rfl Try.underlying44 info5 rfl (by decide) (by omega) u5 (sW [s0, s1, s2, s3, s4, s5, s6, s7] i) (leB v 8) _ _ _ (fun _ => True) (fun _ => False) rfl rfl ?aO ?aR (fun _ _ h => h) (fun _ h => h.elim) ?aF ?aB ?aS ?aL ?_; (case aR => exact (Kd.R_reads' HN.out).2.2); (case aB => exact (by repeat (first | (with_reducible first | exact HB.out | apply below_alloc | apply pw_below_drewN | apply below_drew1) | exact HB.out))); (case aF => exact (fun k_ hk => trivial)); (case aO => exact (by (with_reducible repeat (first | apply Kd.R_alloc | apply Kd.R_drewN | apply Kd.R_drew)); exact HO.out)); (case aS => exact (below_size (by repeat (first | (with_reducible first | exact HB.out | apply below_alloc | apply pw_below_drewN | apply below_drew1) | exact HB.out)))); (case aL => rw [sW_len, leB_len]; have := HI8.out; omega); intro v156 w15 ho hb hg hat; have n0_ := Aside0.mk (blk_grown (g := w.heap.size) HE.out hg (Kd.R_ne HO.out HE.out (by decide))); clear HO HE HB HN; have HE := n0_; have HO := Aside0.mk ho; have HB := Aside0.mk hb; clear n0_ ho hb hg hat))
      have hwr : wrap64 ((i : Int) + 1) = ((i + 1 : Nat) : Int) := by
        have := HI8.out
        unfold wrap64
        omega
      rw [hwr]
      obtain ⟨k1, rfl⟩ : ∃ k1, gk = k1 + 1 := ⟨gk - 1, by have := HI.out; have := H1.out; omega⟩
      go_roundg k1
      case measure => omega
      case rel => exact ⟨i + 1, rfl, ⟨by have := HI.out; omega⟩, ⟨by rw [sW, ← HVV.out]; exact HO.out⟩, HE, HB⟩
    · have c1 : decide (i < words) = false := decide_eq_false h1
      have H1 := Aside0.mk (by have := HI.out; omega : i = words)
      clear h1
      go_wp2
      go_ret
      exact ⟨_, rfl, by rw [← H1.out]; exact HO.out, HB.out⟩
end ReelBytesS
section ReelKept
open Go.RowKit Go.Proofs.YtnmhfcfojbfikaaW.PrintWords Go.Proofs.YtnmhfcfojbfikaaW.PrintLast Go.Proofs.YtnmhfcfojbfikaaW.PrintMore
set_option linter.unusedVariables false
/-- These blocks hold these objects. -/
def Kept (W : World) : List (Nat × Obj) → Prop
  | [] => True
  | p :: l => W.heap[p.1]? = some p.2 ∧ Kept W l
theorem Kept.at {W : World} : ∀ {l : List (Nat × Obj)} (_ : Kept W l) (i : Nat) {k : Nat} {o : Obj} (_ : l[i]? = some (k, o)), W.heap[k]? = some o
  | [], _, i, k, o, e => by cases i <;> cases e
  | p :: l, h, 0, k, o, e => by
    cases e
    exact h.1
  | p :: l, h, i + 1, k, o, e => Kept.at h.2 i (by simpa using e)
theorem Kept.map {W W' : World} : ∀ {l : List (Nat × Obj)} (_ : Kept W l) (_ : ∀ p, p ∈ l → W.heap[p.1]? = some p.2 → W'.heap[p.1]? = some p.2), Kept W' l
  | [], _, _ => trivial
  | p :: l, h, f => ⟨f p List.mem_cons_self h.1, Kept.map h.2 (fun q hq => f q (List.mem_cons_of_mem _ hq))⟩
theorem Kept.below {W W' : World} {l : List (Nat × Obj)} (h : Kept W l) (hb : Below W.heap.size W W') : Kept W' l := h.map (fun p _ e => blk_below e hb)
theorem Kept.alloc {W : World} {l : List (Nat × Obj)} (h : Kept W l) (o : Obj) : Kept (W.alloc o) l := h.below (below_alloc (Below.refl _ _) o)
theorem Kept.drewN {W : World} {l : List (Nat × Obj)} (h : Kept W l) (n : Nat) : Kept (W.drewN n) l := h.map (fun _ _ e => e)
theorem Kept.drew {W : World} {l : List (Nat × Obj)} (h : Kept W l) : Kept W.drew l := h.map (fun _ _ e => e)
/-- None of the blocks is this one. -/
def Off (g : Nat) (l : List (Nat × Obj)) : Prop := ∀ p, p ∈ l → p.1 ≠ g
theorem Kept.onl {W W' : World} {l : List (Nat × Obj)} {g : Nat} (h : Kept W l) (ho : Onl (fun k => k = g) W W') (hg : Off g l) : Kept W' l := h.map (fun p hp e => (ho.block p.1 (blk_lt e) (hg p hp)).trans e)
theorem Kept.far {W : World} {l : List (Nat × Obj)} {g : Nat} (h : Kept W l) (hg : Off g l) (i : Nat) (u : Value) : Kept (W.setCell ⟨g, i, none⟩ u) l := h.map (fun p hp e => (Below.heap_setCell W ⟨g, i, none⟩ u p.1 (hg p hp)).trans e)
theorem Kept.off {W : World} {l : List (Nat × Obj)} {g : Nat} (h : Kept W l) (hg : W.heap.size ≤ g) : Off g l := by
  induction l with
  | nil => exact fun _ hp => by cases hp
  | cons p l ih =>
    intro q hq
    rcases List.mem_cons.mp hq with rfl | hq
    · have := blk_lt h.1
      omega
    · exact ih h.2 q hq
theorem Off.cons {g k : Nat} {o : Obj} {l : List (Nat × Obj)} (h : Off g l) (hk : k ≠ g) : Off g ((k, o) :: l) := by
  intro q hq
  rcases List.mem_cons.mp hq with rfl | hq
  · exact hk
  · exact h q hq
theorem Off.nil {g : Nat} : Off g [] := fun _ hp => by cases hp
theorem Kept.more {W : World} {l : List (Nat × Obj)} {k : Nat} {o : Obj} (h : Kept W l) (hk : W.heap[k]? = some o) : Kept W ((k, o) :: l) := ⟨hk, h⟩
end ReelKept
section ReelTakes
open Go.RowKit Go.Proofs.YtnmhfcfojbfikaaW.PrintWords Go.Proofs.YtnmhfcfojbfikaaW.PrintLast Go.Proofs.YtnmhfcfojbfikaaW.PrintMore
set_option linter.unusedVariables false
set_option linter.unusedSimpArgs false
theorem u32_mod (x : Int) (h0 : 0 ≤ x) (h1 : x < 4294967296) : x % 4294967296 = x := Int.emod_eq_of_lt h0 h1
theorem u32_wrap (x : Int) (h0 : 0 ≤ x) (h1 : x < 4294967296) : IntKind.u32.wrap x = x := by
  show x % _ = x
  exact Int.emod_eq_of_lt h0 h1
theorem takeE8v (b1 b2 g : Nat) (s d u : Int) (w : World) (hg : At8 5 w g (eW 8 s d u ++ rest 8)) (hb : w.heap[b2]? = some (.cells #[.func (.func 69) #[] #[]] 122 (0, 0))) (s0 : 0 ≤ s) (s1 : s < 4294967296) (d0 : 0 ≤ d) (d1 : d < 4294967296) (u0 : 0 ≤ u) (u1 : u < 4294967296) :
    Calls Try.prog 38 #[formVE 8 b1 b2, .slice (some ⟨g, 0, none⟩) 100 102] w fun e w' => e = .returned (.tuple #[.agg #[.int .u32 s, .int .u32 d, .int .u32 0], .int .i64 0]) ∧ Below w.heap.size w w' := by
  refine takeE 8 b1 b2 g 100 102 s d 0 w (by decide) (by decide) (fun w1 h1 => ?_)
  have hl : (eW 8 s d u ++ rest 8).length = 102 := by rw [List.length_append, eW_len 8 (by omega)]; rfl
  have h := getE8 g 8 b2 _ w1 (hg.below h1) (blk_below hb h1) (by omega) (by omega) (Nat.le_refl _)
  obtain ⟨e1, e2, _⟩ := edge_get 8 (by omega) s d u s0 s1 d0 d1 u0 u1
  rw [e1, e2, u32_mod s s0 s1, u32_mod d d0 d1] at h
  exact h
theorem takeE12v (b1 b2 g : Nat) (s d u : Int) (w : World) (hg : At8 5 w g (eW 12 s d u ++ rest 12)) (hb : w.heap[b2]? = some (.cells #[.func (.func 69) #[] #[]] 122 (0, 0))) (s0 : 0 ≤ s) (s1 : s < 4294967296) (d0 : 0 ≤ d) (d1 : d < 4294967296) (u0 : 0 ≤ u) (u1 : u < 4294967296) :
    Calls Try.prog 38 #[formVE 12 b1 b2, .slice (some ⟨g, 0, none⟩) 100 102] w fun e w' => e = .returned (.tuple #[.agg #[.int .u32 s, .int .u32 d, .int .u32 u], .int .i64 0]) ∧ Below w.heap.size w w' := by
  refine takeE 12 b1 b2 g 100 102 s d u w (by decide) (by decide) (fun w1 h1 => ?_)
  have hl : (eW 12 s d u ++ rest 12).length = 102 := by rw [List.length_append, eW_len 12 (by omega)]; rfl
  have h := getE12 g 12 b2 _ w1 (hg.below h1) (blk_below hb h1) (by omega) (by omega) (Nat.le_refl _)
  obtain ⟨e1, e2, e3⟩ := edge_get 12 (by omega) s d u s0 s1 d0 d1 u0 u1
  rw [e1, e2, e3 rfl, u32_mod s s0 s1, u32_mod d d0 d1, u32_mod u u0 u1] at h
  exact h
theorem takeUv (b1 b2 g : Nat) (s d u : Int) (w : World) (hg : At8 5 w g (uW s d u ++ rest 20)) (hb : w.heap[b2]? = some (.cells #[.func (.func 74) #[] #[]] 128 (0, 0))) (s0 : 0 ≤ s) (s1 : s < 4294967296) (d0 : 0 ≤ d) (d1 : d < 18446744073709551616) (u0 : 0 ≤ u) (u1 : u < 18446744073709551616) :
    Calls Try.prog 42 #[formVU 20 b1 b2, .slice (some ⟨g, 0, none⟩) 100 102] w fun e w' => e = .returned (.tuple #[.agg #[.int .u32 s, .int .u64 d, .int .u64 u], .int .i64 0]) ∧ Below w.heap.size w w' := by
  refine takeU 20 b1 b2 g 100 102 s d u w (by decide) (by decide) (fun w1 h1 => ?_)
  have hl : (uW s d u ++ rest 20).length = 102 := by rw [List.length_append, uW_len]; rfl
  have h := getU g 20 b2 _ w1 (hg.below h1) (blk_below hb h1) (by omega) (by omega) (Nat.le_refl _)
  obtain ⟨e1, e2, e3⟩ := upd_get s d u s0 s1 d0 d1 u0 u1
  rw [e1, e2, e3, u32_wrap s s0 s1] at h
  exact h
theorem takeSv (words b1 b2 g : Nat) (s0 s1 s2 s3 s4 s5 s6 s7 : Int) (w : World) (hw0 : 1 ≤ words) (hw8 : words ≤ 8) (hg : At8 5 w g (sW [s0, s1, s2, s3, s4, s5, s6, s7] words ++ rest (8 * words))) (hb : w.heap[b2]? = some (.cells #[.func (.func 78) #[] #[]] 133 (0, 0))) (hv : ∀ i, i < 8 → 0 ≤ [s0, s1, s2, s3, s4, s5, s6, s7].getD i 0 ∧ [s0, s1, s2, s3, s4, s5, s6, s7].getD i 0 < 18446744073709551616) :
    Calls Try.prog 48 #[formVS (8 * (words : Int)) b1 b2, .slice (some ⟨g, 0, none⟩) 100 102] w fun e w' => e = .returned (.tuple #[.agg #[.int .u64 (if 0 < words then s0 else 0), .int .u64 (if 1 < words then s1 else 0), .int .u64 (if 2 < words then s2 else 0), .int .u64 (if 3 < words then s3 else 0), .int .u64 (if 4 < words then s4 else 0), .int .u64 (if 5 < words then s5 else 0), .int .u64 (if 6 < words then s6 else 0), .int .u64 (if 7 < words then s7 else 0)], .int .i64 0]) ∧ Below w.heap.size w w' := by
  refine takeS (8 * (words : Int)) b1 b2 g 100 102 (if 0 < words then s0 else 0) (if 1 < words then s1 else 0) (if 2 < words then s2 else 0) (if 3 < words then s3 else 0) (if 4 < words then s4 else 0) (if 5 < words then s5 else 0) (if 6 < words then s6 else 0) (if 7 < words then s7 else 0) w (by decide) (by unfold roomFS; rw [if_neg (by omega), if_neg (by omega)]) (fun w1 h1 => ?_)
  have hl : (sW [s0, s1, s2, s3, s4, s5, s6, s7] words ++ rest (8 * words)).length = 102 := by rw [List.length_append, sW_len, rest, List.length_replicate]; omega
  have hn : (8 * (words : Int)).toNat = 8 * words := by omega
  rw [hn]
  have h := getS g (8 * words) (8 * words) words b2 _ w1 (hg.below h1) (blk_below hb h1) rfl hw8 (by omega) (by omega) (Nat.le_refl _)
  have e0 := state_get [s0, s1, s2, s3, s4, s5, s6, s7] hv (8 * words) words 0 rfl hw8 (by decide)
  have e1 := state_get [s0, s1, s2, s3, s4, s5, s6, s7] hv (8 * words) words 1 rfl hw8 (by decide)
  have e2 := state_get [s0, s1, s2, s3, s4, s5, s6, s7] hv (8 * words) words 2 rfl hw8 (by decide)
  have e3 := state_get [s0, s1, s2, s3, s4, s5, s6, s7] hv (8 * words) words 3 rfl hw8 (by decide)
  have e4 := state_get [s0, s1, s2, s3, s4, s5, s6, s7] hv (8 * words) words 4 rfl hw8 (by decide)
  have e5 := state_get [s0, s1, s2, s3, s4, s5, s6, s7] hv (8 * words) words 5 rfl hw8 (by decide)
  have e6 := state_get [s0, s1, s2, s3, s4, s5, s6, s7] hv (8 * words) words 6 rfl hw8 (by decide)
  have e7 := state_get [s0, s1, s2, s3, s4, s5, s6, s7] hv (8 * words) words 7 rfl hw8 (by decide)
  rw [e0, e1, e2, e3, e4, e5, e6, e7] at h
  exact h
theorem laidR (g n c1 : Nat) (A1 : Option Addr) (a : List Int) (w : World) (hg : At8 5 w g (a ++ rest n)) (ha : a.length = n) (hn : n ≤ 100) (hC : (Kd.int .u8).C w A1 a.length a) (hc : a.length ≤ c1) :
    Calls Try.prog 29 #[.slice (some ⟨g, 0, none⟩) 100 102, .slice A1 a.length c1] w fun e w' => e = .returned (.bool true) ∧ Drawn0 w w' := by
  have hl : (a ++ rest n).length = 102 := by rw [List.length_append, rest, List.length_replicate]; omega
  have hl2 : ((a ++ rest n).take 100).length = 100 := by rw [List.length_take]; omega
  have h := sluicelaw06_laid.calls 200 (some ⟨g, 0, none⟩) 102 ((a ++ rest n).take 100) A1 c1 a true w (by rw [hl2]; exact hg.row 100 (by omega) (by omega)) (by omega) hC hc (laid_val a n ha hn)
  rw [hl2] at h
  exact h
theorem neq64 (s d u : Int) (w : World) : (binOp .neq 64 (.agg #[.int .u32 s, .int .u32 d, .int .u32 u]) (.agg #[.int .u32 s, .int .u32 d, .int .u32 u])).run Try.prog w = .ok (.bool false) w := by
  simp only [binOp]
  simp [Op.equal, Op.maxDepth, eq64 9998]
theorem neq67 (s d u : Int) (w : World) : (binOp .neq 67 (.agg #[.int .u32 s, .int .u64 d, .int .u64 u]) (.agg #[.int .u32 s, .int .u64 d, .int .u64 u])).run Try.prog w = .ok (.bool false) w := by
  simp only [binOp]
  simp [Op.equal, Op.maxDepth, eq67 9998]
theorem eql69 (s0 s1 s2 s3 s4 s5 s6 s7 : Int) (w : World) : (binOp .eql 69 (.agg #[.int .u64 s0, .int .u64 s1, .int .u64 s2, .int .u64 s3, .int .u64 s4, .int .u64 s5, .int .u64 s6, .int .u64 s7]) (.agg #[.int .u64 s0, .int .u64 s1, .int .u64 s2, .int .u64 s3, .int .u64 s4, .int .u64 s5, .int .u64 s6, .int .u64 s7])).run Try.prog w = .ok (.bool true) w := by
  simp only [binOp]
  simp [Op.equal, Op.maxDepth, eq69 9998]
end ReelTakes
end Go.Proofs.Ytnmhfcfojbfikaa.QReelForms
