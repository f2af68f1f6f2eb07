/- LoomChecks: WalkP Walk. Conditions: as each theorem says. -/
import Derived.Deep.RegionHeld3
import Derived.Test.YtcpcpmojallcdaaLcQ
import Derived.Test.YtcpcpmojallcdaaLcGI
import Derived.Test.YtcpcpmojallcdaaLcGG
import Derived.Test.YtcpcpmojallcdaaLcGH
namespace Go.Proofs.Ytcpcpmojallcdaa.QLoomChecks
open Go.RowKit Go.Proofs.YtcpcpmojallcdaaW.PrintWords Go.Proofs.YtcpcpmojallcdaaW.PrintLast Go.Proofs.YtcpcpmojallcdaaW.PrintMore
set_option linter.unusedVariables false
set_option linter.unusedSimpArgs false
section WalkP
/-- Is a handler among those of a number of bits? -/
def handB (h : Int) (hand : Nat) : Bool := (h / 2 ^ hand) % 2 != 0
/-- May an instruction be there? -/
def insOkB (st ag ct : List Int) (n hand : Nat) (x : S42) : Bool :=
 decide (0 ≤ x.f0) && (decide (x.f0 < 69) && (handB (tabH x.f0.toNat) hand && mayB st ag ct n (tabA x.f0.toNat) x.f1))
def aftOf (res st ag ct : List Int) (L : List S42) (i : Nat) (s lo : List Int) : Option (List Int × List Int) :=
 afterP res st ag ct (kindsOf (tabP (L.getD i z42).f0.toNat)) (kindsOf (tabQ (L.getD i z42).f0.toNat)) (tabS (L.getD i z42).f0.toNat) (L.getD i z42).f0.toNat (L.getD i z42).f1.toNat s lo
def nxOf (L : List S42) (i : Nat) : List Nat := nxP (L.getD i z42).f0.toNat (L.getD i z42).f1.toNat i
def sg0 (n : Nat) : List Sg := ⟨true, true, [], [0, 0, 0, 0, 0, 0, 0, 0]⟩ :: List.replicate n Sg.zero
def walkIn (st ag ct : List Int) (ma mb : Int) (hand : Nat) (L : List S42) : Int :=
 match L.findIdx? (fun x => !(insOkB st ag ct L.length hand x)) with
  | some i => (i : Int)
  | none => runW L.length (aftOf (resP (hand : Int) ma mb) st ag ct L) (nxOf L) (18 * (L.length + 1) + 2) (sg0 L.length)
def walkP (st ag ct : List Int) (ma mb : Int) (hand : Nat) (L : List S42) : Int :=
 if L.length < 1 then 0 else if 512 < L.length then 512 else walkIn st ag ct ma mb hand L
theorem walkIn_bad {st ag ct : List Int} {ma mb : Int} {hand : Nat} {L : List S42} {i : Nat} (h : L.findIdx? (fun x => !(insOkB st ag ct L.length hand x)) = some i) : walkIn st ag ct ma mb hand L = (i : Int) := by
 unfold walkIn
 rw [h]
theorem walkIn_go {st ag ct : List Int} {ma mb : Int} {hand : Nat} {L : List S42} (h : L.findIdx? (fun x => !(insOkB st ag ct L.length hand x)) = none) : walkIn st ag ct ma mb hand L = runW L.length (aftOf (resP (hand : Int) ma mb) st ag ct L) (nxOf L) (18 * (L.length + 1) + 2) (sg0 L.length) := by
 unfold walkIn
 rw [h]
theorem tabA_at : ∀ op : Nat, op < 69 → (op = 0 ∨ (4 ≤ op ∧ op ≤ 6) → tabA op = 0) ∧ (op = 7 → tabA op = 4) ∧ (op = 8 ∨ op = 9 → tabA op = 5) ∧ (op = 10 ∨ op = 11 → tabA op = 6) ∧ (op = 12 ∨ op = 13 → tabA op = 7) ∧ (op = 14 ∨ op = 15 → tabA op = 8) ∧ (66 ≤ op → tabA op = 11) := by decide +kernel
theorem below_bd {a m : Int} (h : belowB a m = true) : 0 ≤ a ∧ a < m := by
 unfold belowB at h
 rw [Bool.and_eq_true, decide_eq_true_eq, decide_eq_true_eq] at h
 exact h
theorem insOk_of {st ag ct : List Int} {n hand : Nat} {x : S42} (h : insOkB st ag ct n hand x = true) : InsOk n x x.f0.toNat x.f1.toNat := by
 unfold insOkB at h
 rw [Bool.and_eq_true, Bool.and_eq_true, Bool.and_eq_true, decide_eq_true_eq, decide_eq_true_eq] at h
 obtain ⟨h0, h1, _, hm⟩ := h
 obtain ⟨op, hop⟩ : ∃ op : Nat, x.f0 = (op : Int) := ⟨x.f0.toNat, by omega⟩
 rw [hop, Int.toNat_natCast] at hm ⊢
 have hlt : op < 69 := by omega
 obtain ⟨t0, t7, t8, t10, t12, t14, t66⟩ := tabA_at op hlt
 have k0 : tabA op = 0 → x.f1 = 0 := fun e => by rw [e] at hm; exact eq_of_beq hm
 have k4 : tabA op = 4 → 0 ≤ x.f1 ∧ x.f1 < 32 := fun e => by rw [e] at hm; exact below_bd hm
 have k5 : tabA op = 5 → 0 ≤ x.f1 ∧ x.f1 < 8 := fun e => by rw [e] at hm; exact below_bd hm
 have k6 : tabA op = 6 → 0 ≤ x.f1 ∧ x.f1 < 8 := fun e => by rw [e] at hm; exact below_bd (Bool.and_eq_true _ _ ▸ hm : _ ∧ _).1
 have k7 : tabA op = 7 → 0 ≤ x.f1 ∧ x.f1 < 8 := fun e => by rw [e] at hm; exact below_bd (Bool.and_eq_true _ _ ▸ hm : _ ∧ _).1
 have k8 : tabA op = 8 → 0 ≤ x.f1 ∧ x.f1 < 4 := fun e => by rw [e] at hm; exact below_bd (Bool.and_eq_true _ _ ▸ hm : _ ∧ _).1
 have k11 : tabA op = 11 → 0 ≤ x.f1 ∧ x.f1 < (n : Int) := fun e => by rw [e] at hm; exact below_bd hm
 refine ⟨hop, hlt, fun h => ?_, fun h => ?_, fun h => ?_, fun h h' => ?_, fun h h' => ?_, fun h => ?_⟩
 ·have : 0 ≤ x.f1 := by
   by_cases e0 : op = 0 ∨ (4 ≤ op ∧ op ≤ 6)
   ·rw [k0 (t0 e0)]; omega
   by_cases e7 : op = 7
   ·exact (k4 (t7 e7)).1
   by_cases e8 : op = 8 ∨ op = 9
   ·exact (k5 (t8 e8)).1
   by_cases e10 : op = 10 ∨ op = 11
   ·exact (k6 (t10 e10)).1
   by_cases e12 : op = 12 ∨ op = 13
   ·exact (k7 (t12 e12)).1
   exact (k8 (t14 (by omega))).1
  omega
 ·have := k4 (t7 h); omega
 ·have := k5 (t8 h); omega
 ·by_cases e10 : op = 10 ∨ op = 11
  ·have := k6 (t10 e10); omega
  have := k7 (t12 (by omega)); omega
 ·have := k8 (t14 (by omega)); omega
 have := k11 (t66 h); omega
theorem aft_ok {res st ag ct : List Int} {hand : Nat} {L : List S42} (h : ∀ i, i < L.length → insOkB st ag ct L.length hand (L.getD i z42) = true) : AftOk L.length (aftOf res st ag ct L) (nxOf L) := by
 refine ⟨fun i s lo s' lo' hl hs ha => ?_, fun i hi => (nx_lt (insOk_of (h i hi)) hi).1⟩
 have := after_len hs ha
 exact ⟨by rw [this.2, hl], this.1⟩
theorem sg0_ok (n : Nat) : AllOk (sg0 n) := by
 intro s hs
 rcases List.mem_cons.1 hs with h | h
 ·rw [h]; exact ⟨rfl, by simp, fun _ => rfl⟩
 rw [(List.mem_replicate.1 h).2]; exact ⟨rfl, by decide, fun h => by cases h⟩
theorem sg0_len (n : Nat) : (sg0 n).length = n + 1 := by simp [sg0]
theorem sg0_mu (n : Nat) : mu (sg0 n) < 18 * (n + 1) + 2 := by
 have : mu (List.replicate n Sg.zero) = 18 * n := by
  induction n with
  | zero => rfl
  | succ n ih =>
   rw [List.replicate_succ]
   show Sg.mu Sg.zero + mu (List.replicate n Sg.zero) = _
   rw [ih]
   show 18 + 18 * n = 18 * (n + 1)
   omega
 show Sg.mu ⟨true, true, [], [0, 0, 0, 0, 0, 0, 0, 0]⟩ + mu (List.replicate n Sg.zero) < _
 rw [this]
 show 2 * nz [0, 0, 0, 0, 0, 0, 0, 0] + 1 + 18 * n < _
 rw [show nz [0, 0, 0, 0, 0, 0, 0, 0] = 0 from rfl]
 omega
theorem bad_first {st ag ct : List Int} {n hand : Nat} {L : List S42} {i : Nat} (hi : i < L.length) (hb : insOkB st ag ct n hand (L.getD i z42) = false) (hn : ∀ j, j < i → insOkB st ag ct n hand (L.getD j z42) = true) : L.findIdx? (fun x => !(insOkB st ag ct n hand x)) = some i := by
 rw [List.findIdx?_eq_some_iff_getElem]
 refine ⟨hi, ?_, fun j hj => ?_⟩
 ·rw [List.getD_eq_getElem?_getD, List.getElem?_eq_getElem hi] at hb
  simpa using hb
 have := hn j hj
 rw [List.getD_eq_getElem?_getD, List.getElem?_eq_getElem (by omega)] at this
 simpa using this
theorem bad_none {st ag ct : List Int} {n hand : Nat} {L : List S42} (hn : ∀ j, j < L.length → insOkB st ag ct n hand (L.getD j z42) = true) : L.findIdx? (fun x => !(insOkB st ag ct n hand x)) = none := by
 rw [List.findIdx?_eq_none_iff]
 intro x hx
 obtain ⟨j, hj, rfl⟩ := List.getElem_of_mem hx
 have := hn j hj
 rw [List.getD_eq_getElem?_getD, List.getElem?_eq_getElem hj] at this
 simpa using this
theorem run_fault {n : Nat} {aft : Nat → List Int → List Int → Option (List Int × List Int)} {nx : Nat → List Nat} {k : Nat} {ss : List Sg} {i : Nat} (hd : dueAt ss = some i) (h : i = n ∨ lookP aft nx i ss = none) : runW n aft nx (k + 1) ss = (i : Int) := by
 unfold runW
 rw [hd]
 by_cases e : i = n
 ·simp only [e, if_true]
 rcases h with h | h
 ·exact absurd h e
 simp only [e, if_false, h]
theorem run_next {n : Nat} {aft : Nat → List Int → List Int → Option (List Int × List Int)} {nx : Nat → List Nat} {k : Nat} {ss ss' : List Sg} {i : Nat} (hd : dueAt ss = some i) (hi : i ≠ n) (h : lookP aft nx i ss = some ss') : runW n aft nx (k + 1) ss = runW n aft nx k ss' := by
 conv => lhs; unfold runW
 rw [hd]
 simp only [hi, if_false, h]
theorem run_done {n : Nat} {aft : Nat → List Int → List Int → Option (List Int × List Int)} {nx : Nat → List Nat} {k : Nat} {ss : List Sg} (hd : dueAt ss = none) : runW n aft nx (k + 1) ss = -1 := by
 unfold runW
 rw [hd]
theorem due_at {ss : List Sg} {i : Nat} (h : dueAt ss = some i) : i < ss.length ∧ (ss.getD i Sg.zero).due = true := by
 unfold dueAt at h
 rw [List.findIdx?_eq_some_iff_getElem] at h
 obtain ⟨h1, h2, _⟩ := h
 refine ⟨h1, ?_⟩
 rw [List.getD_eq_getElem?_getD, List.getElem?_eq_getElem h1]
 exact h2
theorem shl1 (hand : Nat) (h : hand < 5) (W : World) : (binOp .shl 3 (.int .i64 1) (.int .i64 (hand : Int))).run Try.prog W = .ok (.int .i64 (2 ^ hand)) W := by
 have : hand = 0 ∨ hand = 1 ∨ hand = 2 ∨ hand = 3 ∨ hand = 4 := by omega
 rcases this with rfl | rfl | rfl | rfl | rfl <;> rfl
theorem tabH_range : ∀ op : Nat, op < 69 → 0 ≤ tabH op ∧ tabH op < 32 := by decide +kernel
theorem bits_ok : ∀ k : Fin 32, ∀ j : Fin 5, (bits BinOp.and IntKind.i64 (k.val : Int) (wrap64 (2 ^ j.val)) == 0) = !(handB (k.val : Int) j.val) := by decide +kernel
theorem bits_hand (h : Int) (h0 : 0 ≤ h) (h1 : h < 32) (hand : Nat) (hh : hand < 5) : (bits BinOp.and IntKind.i64 h (wrap64 (2 ^ hand)) == 0) = !(handB h hand) := by
 have := bits_ok ⟨h.toNat, by omega⟩ ⟨hand, hh⟩
 simp only at this
 rw [show ((h.toNat : Nat) : Int) = h by omega] at this
 exact this
end WalkP
section Walk
theorem make11 (t e : TypeId) (ht : Try.prog.underlying t = some (.slice e)) (hinfo : (Try.prog.info? e).map (fun i => (i.zero, i.size, i.bytes)) = some (some (.agg #[.bool false, .bool false, .slice none 0 0, .int .i64 0, .int .i64 0, .int .i64 0, .int .i64 0, .int .i64 0, .int .i64 0, .int .i64 0, .int .i64 0]), 11, 96)) (m : Nat) (hm : m ≤ 1000) (W : World) :
  (Instr.makeSlice t (.int .i64 (m : Int)) (.int .i64 (m : Int))).run Try.prog W = .ok (.slice (some ⟨W.heap.size, 0, none⟩) m m) (W.alloc (.cells (madeCells #[.bool false, .bool false, .slice none 0 0, .int .i64 0, .int .i64 0, .int .i64 0, .int .i64 0, .int .i64 0, .int .i64 0, .int .i64 0, .int .i64 0] (m * 11)) e)) := by
 obtain ⟨i0, hi, hzz⟩ := Option.map_eq_some_iff.1 hinfo
 simp only [Prod.mk.injEq] at hzz
 obtain ⟨hz0, hz1, hz2⟩ := hzz
 have h := run_make (P := Try.prog) W t e i0 (.agg #[.bool false, .bool false, .slice none 0 0, .int .i64 0, .int .i64 0, .int .i64 0, .int .i64 0, .int .i64 0, .int .i64 0, .int .i64 0, .int .i64 0]) ht hi hz0 .i64 .i64 (m : Int) (m : Int) (by omega) (Int.le_refl _) (by rw [hz2]; omega) (by omega)
 rw [hz1, Int.toNat_natCast] at h
 exact h
theorem made_get (m i k : Nat) (hi : i < m) (hk : k < 11) : (madeCells #[.bool false, .bool false, .slice none 0 0, .int .i64 0, .int .i64 0, .int .i64 0, .int .i64 0, .int .i64 0, .int .i64 0, .int .i64 0, .int .i64 0] (m * 11))[i * 11 + k]? = (#[.bool false, .bool false, .slice none 0 0, .int .i64 0, .int .i64 0, .int .i64 0, .int .i64 0, .int .i64 0, .int .i64 0, .int .i64 0, .int .i64 0] : Array Value)[k]? := by
 have hlt : i * 11 + k < m * 11 := by omega
 rw [madeCells, Array.getElem?_map, Array.getElem?_range, if_pos hlt]
 have : (i * 11 + k) % (#[.bool false, .bool false, .slice none 0 0, .int .i64 0, .int .i64 0, .int .i64 0, .int .i64 0, .int .i64 0, .int .i64 0, .int .i64 0, .int .i64 0] : Array Value).size = k := by
  show (i * 11 + k) % 11 = k
  omega
 simp only [Option.map_some, this]
 have : k = 0 ∨ k = 1 ∨ k = 2 ∨ k = 3 ∨ k = 4 ∨ k = 5 ∨ k = 6 ∨ k = 7 ∨ k = 8 ∨ k = 9 ∨ k = 10 := by omega
 rcases this with rfl | rfl | rfl | rfl | rfl | rfl | rfl | rfl | rfl | rfl | rfl <;> rfl
theorem made_sights (t : Nat) (m : Nat) (W : World) : SgAt t W.heap.size (W.alloc (.cells (madeCells #[.bool false, .bool false, .slice none 0 0, .int .i64 0, .int .i64 0, .int .i64 0, .int .i64 0, .int .i64 0, .int .i64 0, .int .i64 0, .int .i64 0] (m * 11)) t)) (List.replicate m Sg.zero) := by
 refine ⟨_, heap_alloc_new W _, by rw [size_madeCells, List.length_replicate], fun i hi => ?_⟩
 rw [List.length_replicate] at hi
 have hg : (List.replicate m Sg.zero).getD i Sg.zero = Sg.zero := by
  rw [List.getD_eq_getElem?_getD, List.getElem?_replicate, if_pos hi]
  rfl
 rw [hg]
 refine ⟨made_get m i 0 hi (by omega), made_get m i 1 hi (by omega), ⟨_, made_get m i 2 hi (by omega), (StkV.nil 0 _ none).read⟩, rfl, fun j hj => ?_⟩
 have h := made_get m i (3 + j) hi (by omega)
 rw [← Nat.add_assoc] at h
 rw [h]
 have : j = 0 ∨ j = 1 ∨ j = 2 ∨ j = 3 ∨ j = 4 ∨ j = 5 ∨ j = 6 ∨ j = 7 := by omega
 rcases this with rfl | rfl | rfl | rfl | rfl | rfl | rfl | rfl <;> rfl
theorem below_trans {B : Nat} {w w1 w2 : World} (h : Below B w w1) (k : Below B w1 w2) : Below B w w2 := ⟨k.os.trans h.os, k.tape.trans h.tape, k.output.trans h.output, Nat.le_trans h.size k.size, fun i hi => (k.block i hi).trans (h.block i hi)⟩
theorem below_less {B M : Nat} {w w1 : World} (h : Below B w w1) (hM : M ≤ B) : Below M w w1 := ⟨h.os, h.tape, h.output, h.size, fun i hi => h.block i (by omega)⟩
theorem lookBad (words s0 s1 s2 s3 s4 s5 s6 s7 g0 g1 g2 g3 g4 g5 g6 g7 t0 t1 t2 t3 ma mb sa na sb nb : Int) (both : Bool) (h0 h1 h2 h3 h4 : Value) (cb wb g B n c cap : Nat) (hand at0 l0 l1 l2 l3 l4 l5 l6 l7 : Int) (kv0 : Value) (A : Option Addr) (L : List S42) (ss : List Sg) (i op a : Nat) (w : World) (hcB : cb < B) (hbB : B ≤ wb) (hgB : B ≤ g) (hw : w.heap[wb]? = some (.cells #[.pointer (some ⟨cb, 0, none⟩), .int .i64 hand, (.slice A n c), (.slice (some ⟨g, 0, none⟩) ss.length cap), .int .i64 at0, kv0, .int .i64 l0, .int .i64 l1, .int .i64 l2, .int .i64 l3, .int .i64 l4, .int .i64 l5, .int .i64 l6, .int .i64 l7] 65 (0, 0))) (hc : w.heap[cb]? = some (.cells #[.int .i64 words, .int .i64 s0, .int .i64 s1, .int .i64 s2, .int .i64 s3, .int .i64 s4, .int .i64 s5, .int .i64 s6, .int .i64 s7, .int .i64 g0, .int .i64 g1, .int .i64 g2, .int .i64 g3, .int .i64 g4, .int .i64 g5, .int .i64 g6, .int .i64 g7, .int .i64 t0, .int .i64 t1, .int .i64 t2, .int .i64 t3, .int .i64 ma, .int .i64 mb, .int .i64 sa, .int .i64 na, .int .i64 sb, .int .i64 nb, .bool both, h0, h1, h2, h3, h4] 31 (0, 0))) (hs : SgAt 67 g w ss) (hok : AllOk ss) (hL : L.length = n) (hn : ss.length = n + 1) (hn5 : n ≤ 512) (hi : i < n + 1) (hins : InsAt B w A L) (hx : i < n → InsOk n (L.getD i z42) op a) (hf : i = n ∨ ((afterP (resP hand ma mb) [s0, s1, s2, s3, s4, s5, s6, s7] [g0, g1, g2, g3, g4, g5, g6, g7] [t0, t1, t2, t3] (kindsOf (tabP op)) (kindsOf (tabQ op)) (tabS op) op a (ss.getD i Sg.zero).stack (ss.getD i Sg.zero).locals).bind fun x => reachAll x.1 x.2 (nxP op a i) (ss.set i { ss.getD i Sg.zero with due := false })) = none) :
  Calls Try.prog 23 #[.pointer (some ⟨wb, 0, none⟩), .int .i64 (i : Int)] w fun e w' => e = .panicked [{ v := .iface 44 (.agg #[.int .i64 hand, .int .i64 (i : Int)]), recovered := false }] ∧ Holds w.heap.size wb g w w' :=
 (lookR words s0 s1 s2 s3 s4 s5 s6 s7 g0 g1 g2 g3 g4 g5 g6 g7 t0 t1 t2 t3 ma mb sa na sb nb both h0 h1 h2 h3 h4 cb wb g B n c cap hand at0 l0 l1 l2 l3 l4 l5 l6 l7 kv0 A L ss i op a w hcB hbB hgB hw hc hs hok hL hn hn5 hi hins hx).mono fun e w' h => by
  rcases h with ⟨_, h⟩ | ⟨ss', kv', m0, m1, m2, m3, m4, m5, m6, m7, h1, h2, _⟩
  ·exact h
  rcases hf with hf | hf
  ·exact absurd hf h1
  rw [hf] at h2; cases h2
theorem lookGood (words s0 s1 s2 s3 s4 s5 s6 s7 g0 g1 g2 g3 g4 g5 g6 g7 t0 t1 t2 t3 ma mb sa na sb nb : Int) (both : Bool) (h0 h1 h2 h3 h4 : Value) (cb wb g B n c cap : Nat) (hand at0 l0 l1 l2 l3 l4 l5 l6 l7 : Int) (kv0 : Value) (A : Option Addr) (L : List S42) (ss ss' : List Sg) (i op a : Nat) (w : World) (hcB : cb < B) (hbB : B ≤ wb) (hgB : B ≤ g) (hw : w.heap[wb]? = some (.cells #[.pointer (some ⟨cb, 0, none⟩), .int .i64 hand, (.slice A n c), (.slice (some ⟨g, 0, none⟩) ss.length cap), .int .i64 at0, kv0, .int .i64 l0, .int .i64 l1, .int .i64 l2, .int .i64 l3, .int .i64 l4, .int .i64 l5, .int .i64 l6, .int .i64 l7] 65 (0, 0))) (hc : w.heap[cb]? = some (.cells #[.int .i64 words, .int .i64 s0, .int .i64 s1, .int .i64 s2, .int .i64 s3, .int .i64 s4, .int .i64 s5, .int .i64 s6, .int .i64 s7, .int .i64 g0, .int .i64 g1, .int .i64 g2, .int .i64 g3, .int .i64 g4, .int .i64 g5, .int .i64 g6, .int .i64 g7, .int .i64 t0, .int .i64 t1, .int .i64 t2, .int .i64 t3, .int .i64 ma, .int .i64 mb, .int .i64 sa, .int .i64 na, .int .i64 sb, .int .i64 nb, .bool both, h0, h1, h2, h3, h4] 31 (0, 0))) (hs : SgAt 67 g w ss) (hok : AllOk ss) (hL : L.length = n) (hn : ss.length = n + 1) (hn5 : n ≤ 512) (hi : i < n + 1) (hins : InsAt B w A L) (hx : i < n → InsOk n (L.getD i z42) op a) (hne : i ≠ n) (hg : ((afterP (resP hand ma mb) [s0, s1, s2, s3, s4, s5, s6, s7] [g0, g1, g2, g3, g4, g5, g6, g7] [t0, t1, t2, t3] (kindsOf (tabP op)) (kindsOf (tabQ op)) (tabS op) op a (ss.getD i Sg.zero).stack (ss.getD i Sg.zero).locals).bind fun x => reachAll x.1 x.2 (nxP op a i) (ss.set i { ss.getD i Sg.zero with due := false })) = some ss') :
  Calls Try.prog 23 #[.pointer (some ⟨wb, 0, none⟩), .int .i64 (i : Int)] w fun e w' => e = .returned (.tuple #[]) ∧ (∃ kv' m0 m1 m2 m3 m4 m5 m6 m7, w'.heap[wb]? = some (.cells #[.pointer (some ⟨cb, 0, none⟩), .int .i64 hand, (.slice A n c), (.slice (some ⟨g, 0, none⟩) ss.length cap), .int .i64 (i : Int), kv', .int .i64 m0, .int .i64 m1, .int .i64 m2, .int .i64 m3, .int .i64 m4, .int .i64 m5, .int .i64 m6, .int .i64 m7] 65 (0, 0))) ∧ SgAt 67 g w' ss' ∧ Holds w.heap.size wb g w w' :=
 (lookR words s0 s1 s2 s3 s4 s5 s6 s7 g0 g1 g2 g3 g4 g5 g6 g7 t0 t1 t2 t3 ma mb sa na sb nb both h0 h1 h2 h3 h4 cb wb g B n c cap hand at0 l0 l1 l2 l3 l4 l5 l6 l7 kv0 A L ss i op a w hcB hbB hgB hw hc hs hok hL hn hn5 hi hins hx).mono fun e w' h => by
  rcases h with ⟨h1, _⟩ | ⟨s2, kv', m0, m1, m2, m3, m4, m5, m6, m7, _, h2, h3, h4, h5, h6⟩
  ·rcases h1 with h1 | h1
   ·exact absurd h1 hne
   rw [hg] at h1; cases h1
  rw [hg] at h2
  injection h2 with h2
  subst h2
  exact ⟨h3, ⟨kv', m0, m1, m2, m3, m4, m5, m6, m7, h4⟩, h5, h6⟩
theorem insAt_of {w : World} {A : Option Addr} {L : List S42} (h : Kd.C k42 w A L.length L) : InsAt w.heap.size w A L := by
 intro i hi
 obtain ⟨ad, h1, h2, h3⟩ := at_T42 h (i : Int) (by omega) (by omega)
 rw [Int.toNat_natCast] at h2 h3
 refine ⟨ad, h1, ?_, h2, h3⟩
 have := World.block_lt_of_cell? _ _ h2
 rw [add_block] at this
 exact this
set_option maxHeartbeats 8000000 in
set_option maxRecDepth 100000 in
theorem walkR (words s0 s1 s2 s3 s4 s5 s6 s7 g0 g1 g2 g3 g4 g5 g6 g7 t0 t1 t2 t3 ma mb sa na sb nb : Int) (both : Bool) (h0 h1 h2 h3 h4 : Value) (cb hand c : Nat) (hh : hand < 5) (A : Option Addr) (L : List S42) (w : World) (hc : w.heap[cb]? = some (.cells #[.int .i64 words, .int .i64 s0, .int .i64 s1, .int .i64 s2, .int .i64 s3, .int .i64 s4, .int .i64 s5, .int .i64 s6, .int .i64 s7, .int .i64 g0, .int .i64 g1, .int .i64 g2, .int .i64 g3, .int .i64 g4, .int .i64 g5, .int .i64 g6, .int .i64 g7, .int .i64 t0, .int .i64 t1, .int .i64 t2, .int .i64 t3, .int .i64 ma, .int .i64 mb, .int .i64 sa, .int .i64 na, .int .i64 sb, .int .i64 nb, .bool both, h0, h1, h2, h3, h4] 31 (0, 0))) (hH : w.cell? ⟨cb, 28 + hand, none⟩ = some (.slice A L.length c)) (hL : Kd.C k42 w A L.length L) (hlc : L.length ≤ c) (hlm : L.length ≤ 9223372036854775807) :
  Calls Try.prog 11 #[.pointer (some ⟨cb, 0, none⟩), .int .i64 (hand : Int)] w fun e w' => (walkP [s0, s1, s2, s3, s4, s5, s6, s7] [g0, g1, g2, g3, g4, g5, g6, g7] [t0, t1, t2, t3] ma mb hand L = -1 ∧ (∃ v, e = .returned v) ∧ Below w.heap.size w w') ∨ (0 ≤ walkP [s0, s1, s2, s3, s4, s5, s6, s7] [g0, g1, g2, g3, g4, g5, g6, g7] [t0, t1, t2, t3] ma mb hand L ∧ e = .panicked [{ v := .iface 44 (.agg #[.int .i64 (hand : Int), .int .i64 (walkP [s0, s1, s2, s3, s4, s5, s6, s7] [g0, g1, g2, g3, g4, g5, g6, g7] [t0, t1, t2, t3] ma mb hand L)]), recovered := false }] ∧ Below w.heap.size w w') := by
 have HI := Aside0.mk (insAt_of hL)
 have HC := Aside0.mk hc
 have HH := Aside0.mk hH
 obtain ⟨R, hR⟩ : ∃ R, R = walkP [s0, s1, s2, s3, s4, s5, s6, s7] [g0, g1, g2, g3, g4, g5, g6, g7] [t0, t1, t2, t3] ma mb hand L := ⟨_, rfl⟩
 rw [← hR]
 have HR := Aside0.mk hR
 have HB := Aside0.mk (Below.refl w.heap.size w)
 have HHD := Aside0.mk hh
 clear hL hc hR hlc
 have q1 : 0 ≤ (hand : Int) ∧ (hand : Int) < 5 := by omega
 go_enter Try.func11, Try.ntmps11
 by_cases e1 : L.length < 1
 ·have HR1 := Aside0.mk (HR.out.trans (show _ = (0 : Int) by unfold walkP; rw [if_pos e1]))
  have d1 : decide ((L.length : Int) < 1) = true := decide_eq_true (by omega)
  have d2 : decide (L.length < 1) = true := decide_eq_true e1
  go_wp2
  exact ⟨rfl, .inr ⟨by rw [HR1.out]; decide, by rw [HR1.out], HB.out⟩⟩
 have HR1 := Aside0.mk (HR.out.trans (show _ = (if 512 < L.length then (512 : Int) else walkIn [s0, s1, s2, s3, s4, s5, s6, s7] [g0, g1, g2, g3, g4, g5, g6, g7] [t0, t1, t2, t3] ma mb hand L) by unfold walkP; rw [if_neg e1]))
 have d1 : decide ((L.length : Int) < 1) = false := decide_eq_false (by omega)
 have d2 : decide (L.length < 1) = false := decide_eq_false e1
 by_cases e2 : 512 < L.length
 ·have HR2 := Aside0.mk (HR1.out.trans (if_pos e2))
  have d3 : decide ((L.length : Int) > 512) = true := decide_eq_true (by omega)
  have d4 : decide (512 < L.length) = true := decide_eq_true e2
  go_wp2
  exact ⟨rfl, .inr ⟨by rw [HR2.out]; decide, by rw [HR2.out], HB.out⟩⟩
 have HR2 := Aside0.mk (HR1.out.trans (if_neg e2))
 have d3 : decide ((L.length : Int) > 512) = false := decide_eq_false (by omega)
 have d4 : decide (512 < L.length) = false := decide_eq_false e2
 have HN5 := Aside0.mk (show L.length ≤ 512 by omega)
 clear e1 e2 HR1
 go_wp2
 clear d1 d2 d3 d4
 go_loopg [30] L.length (fun kq v30 w' => ∃ i : Nat, v30 = .int .i64 (i : Int) ∧ Aside0 (kq + i = L.length) ∧ Aside0 (∀ j, j < i → insOkB [s0, s1, s2, s3, s4, s5, s6, s7] [g0, g1, g2, g3, g4, g5, g6, g7] [t0, t1, t2, t3] L.length hand (L.getD j z42) = true) ∧ Aside0 (Below w.heap.size w w'))
 case atStart => exact ⟨0, rfl, ⟨rfl⟩, ⟨fun j hj => by omega⟩, HB⟩
 case round =>
  clear HB
  obtain ⟨i, rfl, HJ, HQ, HB⟩ := hrel
  by_cases hi : i < L.length
  ·have d1 : decide ((i : Int) < (L.length : Int)) = true := decide_eq_true (by omega)
   have d2 : decide (i < L.length) = true := decide_eq_true hi
   have q2 : 0 ≤ (i : Int) ∧ (i : Int) < (L.length : Int) := ⟨Int.natCast_nonneg i, Int.ofNat_lt.mpr hi⟩
   obtain ⟨ad, hA, hab, hi0, hi1⟩ := (HI.out.move HB.out.block) i hi
   subst hA
   have HIL := Aside0.mk hi
   obtain ⟨x, hx⟩ : ∃ x, x = L.getD i z42 := ⟨_, rfl⟩
   rw [← hx] at hi0 hi1
   have HXE := Aside0.mk hx
   have HCC := Aside0.mk ((HB.out.block cb (blk_lt HC.out)).trans HC.out)
   have HWR := Aside0.mk (show wrap64 ((i : Int) + 1) = ((i + 1 : Nat) : Int) by
    have := HN5.out
    unfold wrap64
    omega)
   clear hx hab hi
   go_upto_region 9 with (fail)
   have HX := Aside0.mk (heap_alloc_new wr (.cells #[.int .i64 x.f0, .int .i64 x.f1] 42))
   have n0_ := Aside0.mk ((Below.heap_alloc wr (.cells #[.int .i64 x.f0, .int .i64 x.f1] 42) cb (blk_lt HCC.out)).trans HCC.out)
   have n1_ := Aside0.mk (HB.out.alloc HB.out.size (.cells #[.int .i64 x.f0, .int .i64 x.f1] 42))
   clear HCC HB
   have HCC := n0_
   have HB := n1_
   clear n0_ n1_
   generalize wr.alloc (.cells #[.int .i64 x.f0, .int .i64 x.f1] 42) = w2 at HX HCC HB ⊢
   generalize wr.heap.size = xb at HX ⊢
   have hx0 : _ = some (Value.int .i64 x.f0) := blk_cell HX.out 0
   have hx1 : _ = some (Value.int .i64 x.f1) := blk_cell HX.out 1
   obtain ⟨k1_, rfl⟩ : ∃ k1_, gk = k1_ + 1 := ⟨gk - 1, by have := HJ.out; have := HIL.out; omega⟩
   by_cases c1 : x.f0 < 0
   ·have gg1 : decide (x.f0 < 0) = true := decide_eq_true c1
    have HRB := Aside0.mk (HR2.out.trans (walkIn_bad (bad_first HIL.out (by rw [← HXE.out]; unfold insOkB; rw [decide_eq_false (show ¬ 0 ≤ x.f0 by omega), Bool.false_and]) HQ.out)))
    clear c1
    go_big_quiet (fail)
    go_wp2
    exact ⟨rfl, .inr ⟨by rw [HRB.out]; exact Int.natCast_nonneg i, by rw [HRB.out], pw_below_drewN HB.out _⟩⟩
   have gg1 : decide (x.f0 < 0) = false := decide_eq_false c1
   by_cases c2 : x.f0 ≥ 69
   ·have gg2 : decide (x.f0 ≥ 69) = true := decide_eq_true c2
    have HRB := Aside0.mk (HR2.out.trans (walkIn_bad (bad_first HIL.out (by rw [← HXE.out]; unfold insOkB; rw [decide_eq_false (show ¬ x.f0 < 69 by omega), Bool.false_and, Bool.and_false]) HQ.out)))
    clear c1 c2
    go_big_quiet (fail)
    go_wp2
    exact ⟨rfl, .inr ⟨by rw [HRB.out]; exact Int.natCast_nonneg i, by rw [HRB.out], pw_below_drewN HB.out _⟩⟩
   have gg2 : decide (x.f0 ≥ 69) = false := decide_eq_false c2
   obtain ⟨op, hop⟩ : ∃ op : Nat, x.f0 = (op : Int) := ⟨x.f0.toNat, by omega⟩
   have hlt : op < 69 := by omega
   have HOP := Aside0.mk hop
   rw [hop] at hx0 gg1 gg2
   have HTB := Aside0.mk (table_ok op hlt).1
   have hfl := field59h
   have hsh := shl1 hand HHD.out
   have HLH := Aside0.mk (bits_hand (tabH op) (tabH_range op hlt).1 (tabH_range op hlt).2 hand HHD.out)
   have HIK := Aside0.mk (show insOkB [s0, s1, s2, s3, s4, s5, s6, s7] [g0, g1, g2, g3, g4, g5, g6, g7] [t0, t1, t2, t3] L.length hand (L.getD i z42) = (handB (tabH op) hand && mayB [s0, s1, s2, s3, s4, s5, s6, s7] [g0, g1, g2, g3, g4, g5, g6, g7] [t0, t1, t2, t3] L.length (tabA op) x.f1) by
    rw [← HXE.out]
    unfold insOkB
    rw [HOP.out, decide_eq_true (show (0 : Int) ≤ (op : Int) by omega), decide_eq_true (show (op : Int) < 69 by omega), Bool.true_and, Bool.true_and, Int.toNat_natCast])
   have HMY := Aside0.mk (show ∀ W, Below w2.heap.size w2 W → Calls Try.prog 20 #[.pointer (some ⟨cb, 0, none⟩), .agg #[.int .i64 (op : Int), .int .i64 x.f1], .int .i64 (L.length : Int)] W fun e w' => e = .returned (.bool (mayB [s0, s1, s2, s3, s4, s5, s6, s7] [g0, g1, g2, g3, g4, g5, g6, g7] [t0, t1, t2, t3] L.length (tabA op) x.f1)) ∧ Below W.heap.size W w' from fun W hb => argMayR words s0 s1 s2 s3 s4 s5 s6 s7 g0 g1 g2 g3 g4 g5 g6 g7 t0 t1 t2 t3 ma mb sa na sb nb both h0 h1 h2 h3 h4 cb op L.length x.f1 W hlt ((hb.block cb (blk_lt HCC.out)).trans HCC.out))
   generalize mayB [s0, s1, s2, s3, s4, s5, s6, s7] [g0, g1, g2, g3, g4, g5, g6, g7] [t0, t1, t2, t3] L.length (tabA op) x.f1 = mz at HIK HMY
   generalize handB (tabH op) hand = hz at HIK HLH
   have h00 : Aside0 (Below w2.heap.size w2 w2) := ⟨Below.refl _ _⟩
   have HSK : Aside0 (∀ W, Below w2.heap.size w2 W → W.cell? ⟨xb, 0, none⟩ = some (Value.int .i64 (op : Int)) ∧ W.cell? ⟨xb, 1, none⟩ = some (Value.int .i64 x.f1) ∧ Below w2.heap.size w2 W) := ⟨fun W h => ⟨pw_cell_below h hx0, pw_cell_below h hx1, h⟩⟩
   clear c1 c2 hop hlt
   rcases hz with _ | _
   ·have gg3 : (bits BinOp.and IntKind.i64 (tabH op) (wrap64 (2 ^ hand)) == 0) = true := HLH.out
    have HRB := Aside0.mk (HR2.out.trans (walkIn_bad (bad_first HIL.out (by rw [HIK.out, Bool.false_and]) HQ.out)))
    refine start_ (n := 26) (S := fun w' => w'.cell? ⟨xb, 0, none⟩ = some (.int .i64 (op : Int)) ∧ w'.cell? ⟨xb, 1, none⟩ = some (.int .i64 x.f1) ∧ Below w2.heap.size w2 w') (ds := []) #[false, false, false, false, false, false, false, false, false, false, false, false, false, false, false, false, false, false, false, false, false, false, false, false, false, false] (by kernel_rfl) rfl rfl ⟨(pw_cell_below (below_drew h00.out) hx0), (pw_cell_below (below_drew h00.out) hx1), (below_drew h00.out)⟩ (fun hHeld => ?_)
    refine pure_ (i := 0) (N := some 35) (v := ?_) (a' := ?_) #[true, false, false, false, false, false, false, false, false, false, false, false, false, false, false, false, false, false, false, false, false, false, false, false, false, false] rfl rfl (by kernel_rfl) (fun _ _ _ h => h) (Or.inl ⟨by rfl, ?_⟩) ?_ ?_
    rotate_left
    ·intro w'
     go_simp
     with_reducible rfl
    rotate_left
    ·simp only [Act.put, List.setIfInBounds_toArray, List.set_cons_zero, List.set_cons_succ, i64_w]
     rfl
    refine take_ (i := 1) (N := some 36) (v := ?_) (a' := ?_) #[true, true, false, false, false, false, false, false, false, false, false, false, false, false, false, false, false, false, false, false, false, false, false, false, false, false] rfl rfl (by kernel_rfl) (fun _ _ _ h => h) (Or.inl ⟨by rfl, ?_⟩) hHeld ?_ ?_
    rotate_left
    ·rintro w' ⟨s0, s1, s2⟩
     go_simp
     with_reducible rfl
    rotate_left
    ·simp only [Act.put, List.setIfInBounds_toArray, List.set_cons_zero, List.set_cons_succ, i64_w]
     rfl
    refine pure_ (i := 2) (N := some 37) (v := ?_) (a' := ?_) #[true, true, true, false, false, false, false, false, false, false, false, false, false, false, false, false, false, false, false, false, false, false, false, false, false, false] rfl rfl (by kernel_rfl) (fun _ _ _ h => h) (Or.inl ⟨by rfl, ?_⟩) ?_ ?_
    rotate_left
    ·intro w'
     go_simp
     with_reducible rfl
    rotate_left
    ·simp only [Act.put, List.setIfInBounds_toArray, List.set_cons_zero, List.set_cons_succ, i64_w]
     rfl
    refine pure_ (i := 3) (N := some 38) (v := ?_) (a' := ?_) #[true, true, true, true, false, false, false, false, false, false, false, false, false, false, false, false, false, false, false, false, false, false, false, false, false, false] rfl rfl (by kernel_rfl) (fun _ _ _ h => h) (Or.inl ⟨by rfl, ?_⟩) ?_ ?_
    rotate_left
    ·intro w'
     go_simp
     with_reducible rfl
    rotate_left
    ·simp only [Act.put, List.setIfInBounds_toArray, List.set_cons_zero, List.set_cons_succ, i64_w]
     rfl
    refine pure_ (i := 4) (N := some 39) (v := ?_) (a' := ?_) #[true, true, true, true, true, false, false, false, false, false, false, false, false, false, false, false, false, false, false, false, false, false, false, false, false, false] rfl rfl (by kernel_rfl) (fun _ _ _ h => h) (Or.inl ⟨by rfl, ?_⟩) ?_ ?_
    rotate_left
    ·intro w'
     go_simp
     with_reducible rfl
    rotate_left
    ·simp only [Act.put, List.setIfInBounds_toArray, List.set_cons_zero, List.set_cons_succ, i64_w]
     rfl
    refine take_ (i := 5) (N := some 40) (v := ?_) (a' := ?_) #[true, true, true, true, true, true, false, false, false, false, false, false, false, false, false, false, false, false, false, false, false, false, false, false, false, false] rfl rfl (by kernel_rfl) (fun _ _ _ h => h) (Or.inl ⟨by rfl, ?_⟩) hHeld ?_ ?_
    rotate_left
    ·rintro w' ⟨s0, s1, s2⟩
     go_simp
     with_reducible rfl
    rotate_left
    ·simp only [Act.put, List.setIfInBounds_toArray, List.set_cons_zero, List.set_cons_succ, i64_w]
     rfl
    refine pure_ (i := 6) (N := some 41) (v := ?_) (a' := ?_) #[true, true, true, true, true, true, true, false, false, false, false, false, false, false, false, false, false, false, false, false, false, false, false, false, false, false] rfl rfl (by kernel_rfl) (fun _ _ _ h => h) (Or.inl ⟨by rfl, ?_⟩) ?_ ?_
    rotate_left
    ·intro w'
     go_simp
     with_reducible rfl
    rotate_left
    ·simp only [Act.put, List.setIfInBounds_toArray, List.set_cons_zero, List.set_cons_succ, i64_w]
     rfl
    refine pure_ (i := 7) (N := some 42) (v := ?_) (a' := ?_) #[true, true, true, true, true, true, true, true, false, false, false, false, false, false, false, false, false, false, false, false, false, false, false, false, false, false] rfl rfl (by kernel_rfl) (fun _ _ _ h => h) (Or.inl ⟨by rfl, ?_⟩) ?_ ?_
    rotate_left
    ·intro w'
     go_simp
     with_reducible rfl
    rotate_left
    ·simp only [Act.put, List.setIfInBounds_toArray, List.set_cons_zero, List.set_cons_succ, i64_w]
     rfl
    refine pure_ (i := 8) (N := some 43) (v := ?_) (a' := ?_) #[true, true, true, true, true, true, true, true, true, false, false, false, false, false, false, false, false, false, false, false, false, false, false, false, false, false] rfl rfl (by kernel_rfl) (fun _ _ _ h => h) (Or.inl ⟨by rfl, ?_⟩) ?_ ?_
    rotate_left
    ·intro w'
     go_simp
     with_reducible rfl
    rotate_left
    ·simp only [Act.put, List.setIfInBounds_toArray, List.set_cons_zero, List.set_cons_succ, i64_w]
     rfl
    refine pure_ (i := 9) (N := some 44) (v := ?_) (a' := ?_) #[true, true, true, true, true, true, true, true, true, true, false, false, false, false, false, false, false, false, false, false, false, false, false, false, false, false] rfl rfl (by kernel_rfl) (fun _ _ _ h => h) (Or.inl ⟨by rfl, ?_⟩) ?_ ?_
    rotate_left
    ·intro w'
     go_simp
     with_reducible rfl
    rotate_left
    ·simp only [Act.put, List.setIfInBounds_toArray, List.set_cons_zero, List.set_cons_succ, i64_w]
     rfl
    refine pure_ (i := 13) (N := some 48) (v := ?_) (a' := ?_) #[true, true, true, true, true, true, true, true, true, true, false, false, false, true, false, false, false, false, false, false, false, false, false, false, false, false] rfl rfl (by kernel_rfl) (fun _ _ _ h => h) (Or.inl ⟨by rfl, ?_⟩) ?_ ?_
    rotate_left
    ·intro w'
     go_simp
     with_reducible rfl
    rotate_left
    ·simp only [Act.put, List.setIfInBounds_toArray, List.set_cons_zero, List.set_cons_succ, i64_w]
     rfl
    refine pure_ (i := 14) (N := some 49) (v := ?_) (a' := ?_) #[true, true, true, true, true, true, true, true, true, true, false, false, false, true, true, false, false, false, false, false, false, false, false, false, false, false] rfl rfl (by kernel_rfl) (fun _ _ _ h => h) (Or.inl ⟨by rfl, ?_⟩) ?_ ?_
    rotate_left
    ·intro w'
     go_simp
     with_reducible rfl
    rotate_left
    ·simp only [Act.put, List.setIfInBounds_toArray, List.set_cons_zero, List.set_cons_succ, i64_w]
     rfl
    refine take_ (i := 10) (N := some 45) (v := ?_) (a' := ?_) #[true, true, true, true, true, true, true, true, true, true, true, false, false, true, true, false, false, false, false, false, false, false, false, false, false, false] rfl rfl (by kernel_rfl) (fun _ _ _ h => h) (Or.inl ⟨by rfl, ?_⟩) hHeld ?_ ?_
    rotate_left
    ·rintro w' ⟨s0, s1, s2⟩
     go_simp
     with_reducible rfl
    rotate_left
    ·simp only [Act.put, List.setIfInBounds_toArray, List.set_cons_zero, List.set_cons_succ, i64_w]
     rfl
    refine one_ (i := 11) (N := some 46) #[true, true, true, true, true, true, true, true, true, true, true, true, false, true, true, false, false, false, false, false, false, false, false, false, false, false] rfl rfl (by kernel_rfl) (by decide) (fun K hK => ?_)
    refine goes_ Try.func19 (by kernel_rfl) rfl #[.int .i64 (op : Int)] (by rfl) rfl rfl (by simp only [List.map_toArray, List.map_cons, List.map_nil]; rfl) ?_
    with_reducible refine ((loom_specs.calls _ _ _ _ _ _ _ _ HTB.out)).mono ?_
    rintro e w3 ⟨rfl, hb⟩
    refine ⟨_, rfl, ?_⟩
    have HB3 := below_step (below_drew h00.out) hb
    refine hK.out _ _ ⟨(pw_cell_below HB3 hx0), (pw_cell_below HB3 hx1), HB3⟩ (fun hHeld => ?_)
    clear hK K
    refine norm_ (a' := ?_) ?_ ?_
    rotate_left
    ·show Act.put _ (some 46) _ = _
     simp only [Act.put, List.setIfInBounds_toArray, List.set_cons_zero, List.set_cons_succ, i64_w]
     rfl
    refine pure_ (i := 12) (N := some 47) (v := ?_) (a' := ?_) #[true, true, true, true, true, true, true, true, true, true, true, true, true, true, true, false, false, false, false, false, false, false, false, false, false, false] rfl rfl (by kernel_rfl) (fun _ _ _ h => h) (Or.inl ⟨by rfl, ?_⟩) ?_ ?_
    rotate_left
    ·intro w'
     go_simp
     with_reducible rfl
    rotate_left
    ·simp only [Act.put, List.setIfInBounds_toArray, List.set_cons_zero, List.set_cons_succ, i64_w]
     rfl
    refine pure_ (i := 15) (N := some 50) (v := ?_) (a' := ?_) #[true, true, true, true, true, true, true, true, true, true, true, true, true, true, true, true, false, false, false, false, false, false, false, false, false, false] rfl rfl (by kernel_rfl) (fun _ _ _ h => h) (Or.inl ⟨by rfl, ?_⟩) ?_ ?_
    rotate_left
    ·intro w'
     go_simp
     with_reducible rfl
    rotate_left
    ·simp only [Act.put, List.setIfInBounds_toArray, List.set_cons_zero, List.set_cons_succ, i64_w]
     rfl
    refine pure_ (i := 16) (N := some 51) (v := ?_) (a' := ?_) #[true, true, true, true, true, true, true, true, true, true, true, true, true, true, true, true, true, false, false, false, false, false, false, false, false, false] rfl rfl (by kernel_rfl) (fun _ _ _ h => h) (Or.inl ⟨by rfl, ?_⟩) ?_ ?_
    rotate_left
    ·intro w'
     go_simp
     with_reducible rfl
    rotate_left
    ·simp only [Act.put, List.setIfInBounds_toArray, List.set_cons_zero, List.set_cons_succ, i64_w]
     rfl
    refine pure_ (i := 17) (N := some 52) (v := ?_) (a' := ?_) #[true, true, true, true, true, true, true, true, true, true, true, true, true, true, true, true, true, true, false, false, false, false, false, false, false, false] rfl rfl (by kernel_rfl) (fun _ _ _ h => h) (Or.inl ⟨by rfl, ?_⟩) ?_ ?_
    rotate_left
    ·intro w'
     go_simp
     with_reducible rfl
    rotate_left
    ·simp only [Act.put, List.setIfInBounds_toArray, List.set_cons_zero, List.set_cons_succ, i64_w]
     rfl
    refine pure_ (i := 18) (N := some 53) (v := ?_) (a' := ?_) #[true, true, true, true, true, true, true, true, true, true, true, true, true, true, true, true, true, true, true, false, false, false, false, false, false, false] rfl rfl (by kernel_rfl) (fun _ _ _ h => h) (Or.inl ⟨by rfl, ?_⟩) ?_ ?_
    rotate_left
    ·intro w'
     go_simp
     with_reducible rfl
    rotate_left
    ·simp only [Act.put, List.setIfInBounds_toArray, List.set_cons_zero, List.set_cons_succ, i64_w]
     rfl
    refine pure_ (i := 19) (N := some 54) (v := undef) (a' := ?_) #[true, true, true, true, true, true, true, true, true, true, true, true, true, true, true, true, true, true, true, true, false, false, false, false, false, false] rfl rfl (by kernel_rfl) (fun _ _ _ h => h) (Or.inr ⟨by rfl, rfl⟩) ?_ ?_
    rotate_left
    ·simp only [Act.put, List.setIfInBounds_toArray, List.set_cons_zero, List.set_cons_succ, i64_w]
     rfl
    refine pure_ (i := 20) (N := some 55) (v := undef) (a' := ?_) #[true, true, true, true, true, true, true, true, true, true, true, true, true, true, true, true, true, true, true, true, true, false, false, false, false, false] rfl rfl (by kernel_rfl) (fun _ _ _ h => h) (Or.inr ⟨by rfl, rfl⟩) ?_ ?_
    rotate_left
    ·simp only [Act.put, List.setIfInBounds_toArray, List.set_cons_zero, List.set_cons_succ, i64_w]
     rfl
    refine pure_ (i := 21) (N := some 56) (v := undef) (a' := ?_) #[true, true, true, true, true, true, true, true, true, true, true, true, true, true, true, true, true, true, true, true, true, true, false, false, false, false] rfl rfl (by kernel_rfl) (fun _ _ _ h => h) (Or.inr ⟨by rfl, rfl⟩) ?_ ?_
    rotate_left
    ·simp only [Act.put, List.setIfInBounds_toArray, List.set_cons_zero, List.set_cons_succ, i64_w]
     rfl
    refine pure_ (i := 22) (N := some 57) (v := undef) (a' := ?_) #[true, true, true, true, true, true, true, true, true, true, true, true, true, true, true, true, true, true, true, true, true, true, true, false, false, false] rfl rfl (by kernel_rfl) (fun _ _ _ h => h) (Or.inr ⟨by rfl, rfl⟩) ?_ ?_
    rotate_left
    ·simp only [Act.put, List.setIfInBounds_toArray, List.set_cons_zero, List.set_cons_succ, i64_w]
     rfl
    refine pure_ (i := 23) (N := some 58) (v := undef) (a' := ?_) #[true, true, true, true, true, true, true, true, true, true, true, true, true, true, true, true, true, true, true, true, true, true, true, true, false, false] rfl rfl (by kernel_rfl) (fun _ _ _ h => h) (Or.inr ⟨by rfl, rfl⟩) ?_ ?_
    rotate_left
    ·simp only [Act.put, List.setIfInBounds_toArray, List.set_cons_zero, List.set_cons_succ, i64_w]
     rfl
    refine pure_ (i := 24) (N := some 59) (v := undef) (a' := ?_) #[true, true, true, true, true, true, true, true, true, true, true, true, true, true, true, true, true, true, true, true, true, true, true, true, true, false] rfl rfl (by kernel_rfl) (fun _ _ _ h => h) (Or.inr ⟨by rfl, rfl⟩) ?_ ?_
    rotate_left
    ·simp only [Act.put, List.setIfInBounds_toArray, List.set_cons_zero, List.set_cons_succ, i64_w]
     rfl
    refine pure_ (i := 25) (N := some 60) (v := ?_) (a' := ?_) #[true, true, true, true, true, true, true, true, true, true, true, true, true, true, true, true, true, true, true, true, true, true, true, true, true, true] rfl rfl (by kernel_rfl) (fun _ _ _ h => h) (Or.inl ⟨by rfl, ?_⟩) ?_ ?_
    rotate_left
    ·intro w'
     go_simp
     with_reducible rfl
    rotate_left
    ·simp only [Act.put, List.setIfInBounds_toArray, List.set_cons_zero, List.set_cons_succ, i64_w]
     rfl
    refine done_ (by kernel_rfl) ?_
    have HB4 := Aside0.mk (below_then HB.out HB.out.size HB3)
    go_wp2
    exact ⟨rfl, .inr ⟨by rw [HRB.out]; exact Int.natCast_nonneg i, by rw [HRB.out], HB4.out⟩⟩
   have gg3 : (bits BinOp.and IntKind.i64 (tabH op) (wrap64 (2 ^ hand)) == 0) = false := HLH.out
   refine start_ (n := 26) (S := fun w' => w'.cell? ⟨xb, 0, none⟩ = some (.int .i64 (op : Int)) ∧ w'.cell? ⟨xb, 1, none⟩ = some (.int .i64 x.f1) ∧ Below w2.heap.size w2 w') (ds := []) #[false, false, false, false, false, false, false, false, false, false, false, false, false, false, false, false, false, false, false, false, false, false, false, false, false, false] (by kernel_rfl) rfl rfl ⟨(pw_cell_below (below_drew h00.out) hx0), (pw_cell_below (below_drew h00.out) hx1), (below_drew h00.out)⟩ (fun hHeld => ?_)
   refine pure_ (i := 0) (N := some 35) (v := ?_) (a' := ?_) #[true, false, false, false, false, false, false, false, false, false, false, false, false, false, false, false, false, false, false, false, false, false, false, false, false, false] rfl rfl (by kernel_rfl) (fun _ _ _ h => h) (Or.inl ⟨by rfl, ?_⟩) ?_ ?_
   rotate_left
   ·intro w'
    go_simp
    with_reducible rfl
   rotate_left
   ·simp only [Act.put, List.setIfInBounds_toArray, List.set_cons_zero, List.set_cons_succ, i64_w]
    rfl
   refine take_ (i := 1) (N := some 36) (v := ?_) (a' := ?_) #[true, true, false, false, false, false, false, false, false, false, false, false, false, false, false, false, false, false, false, false, false, false, false, false, false, false] rfl rfl (by kernel_rfl) (fun _ _ _ h => h) (Or.inl ⟨by rfl, ?_⟩) hHeld ?_ ?_
   rotate_left
   ·rintro w' ⟨s0, s1, s2⟩
    go_simp
    with_reducible rfl
   rotate_left
   ·simp only [Act.put, List.setIfInBounds_toArray, List.set_cons_zero, List.set_cons_succ, i64_w]
    rfl
   refine pure_ (i := 2) (N := some 37) (v := ?_) (a' := ?_) #[true, true, true, false, false, false, false, false, false, false, false, false, false, false, false, false, false, false, false, false, false, false, false, false, false, false] rfl rfl (by kernel_rfl) (fun _ _ _ h => h) (Or.inl ⟨by rfl, ?_⟩) ?_ ?_
   rotate_left
   ·intro w'
    go_simp
    with_reducible rfl
   rotate_left
   ·simp only [Act.put, List.setIfInBounds_toArray, List.set_cons_zero, List.set_cons_succ, i64_w]
    rfl
   refine pure_ (i := 3) (N := some 38) (v := ?_) (a' := ?_) #[true, true, true, true, false, false, false, false, false, false, false, false, false, false, false, false, false, false, false, false, false, false, false, false, false, false] rfl rfl (by kernel_rfl) (fun _ _ _ h => h) (Or.inl ⟨by rfl, ?_⟩) ?_ ?_
   rotate_left
   ·intro w'
    go_simp
    with_reducible rfl
   rotate_left
   ·simp only [Act.put, List.setIfInBounds_toArray, List.set_cons_zero, List.set_cons_succ, i64_w]
    rfl
   refine pure_ (i := 4) (N := some 39) (v := ?_) (a' := ?_) #[true, true, true, true, true, false, false, false, false, false, false, false, false, false, false, false, false, false, false, false, false, false, false, false, false, false] rfl rfl (by kernel_rfl) (fun _ _ _ h => h) (Or.inl ⟨by rfl, ?_⟩) ?_ ?_
   rotate_left
   ·intro w'
    go_simp
    with_reducible rfl
   rotate_left
   ·simp only [Act.put, List.setIfInBounds_toArray, List.set_cons_zero, List.set_cons_succ, i64_w]
    rfl
   refine take_ (i := 5) (N := some 40) (v := ?_) (a' := ?_) #[true, true, true, true, true, true, false, false, false, false, false, false, false, false, false, false, false, false, false, false, false, false, false, false, false, false] rfl rfl (by kernel_rfl) (fun _ _ _ h => h) (Or.inl ⟨by rfl, ?_⟩) hHeld ?_ ?_
   rotate_left
   ·rintro w' ⟨s0, s1, s2⟩
    go_simp
    with_reducible rfl
   rotate_left
   ·simp only [Act.put, List.setIfInBounds_toArray, List.set_cons_zero, List.set_cons_succ, i64_w]
    rfl
   refine pure_ (i := 6) (N := some 41) (v := ?_) (a' := ?_) #[true, true, true, true, true, true, true, false, false, false, false, false, false, false, false, false, false, false, false, false, false, false, false, false, false, false] rfl rfl (by kernel_rfl) (fun _ _ _ h => h) (Or.inl ⟨by rfl, ?_⟩) ?_ ?_
   rotate_left
   ·intro w'
    go_simp
    with_reducible rfl
   rotate_left
   ·simp only [Act.put, List.setIfInBounds_toArray, List.set_cons_zero, List.set_cons_succ, i64_w]
    rfl
   refine pure_ (i := 7) (N := some 42) (v := ?_) (a' := ?_) #[true, true, true, true, true, true, true, true, false, false, false, false, false, false, false, false, false, false, false, false, false, false, false, false, false, false] rfl rfl (by kernel_rfl) (fun _ _ _ h => h) (Or.inl ⟨by rfl, ?_⟩) ?_ ?_
   rotate_left
   ·intro w'
    go_simp
    with_reducible rfl
   rotate_left
   ·simp only [Act.put, List.setIfInBounds_toArray, List.set_cons_zero, List.set_cons_succ, i64_w]
    rfl
   refine pure_ (i := 8) (N := some 43) (v := ?_) (a' := ?_) #[true, true, true, true, true, true, true, true, true, false, false, false, false, false, false, false, false, false, false, false, false, false, false, false, false, false] rfl rfl (by kernel_rfl) (fun _ _ _ h => h) (Or.inl ⟨by rfl, ?_⟩) ?_ ?_
   rotate_left
   ·intro w'
    go_simp
    with_reducible rfl
   rotate_left
   ·simp only [Act.put, List.setIfInBounds_toArray, List.set_cons_zero, List.set_cons_succ, i64_w]
    rfl
   refine pure_ (i := 9) (N := some 44) (v := ?_) (a' := ?_) #[true, true, true, true, true, true, true, true, true, true, false, false, false, false, false, false, false, false, false, false, false, false, false, false, false, false] rfl rfl (by kernel_rfl) (fun _ _ _ h => h) (Or.inl ⟨by rfl, ?_⟩) ?_ ?_
   rotate_left
   ·intro w'
    go_simp
    with_reducible rfl
   rotate_left
   ·simp only [Act.put, List.setIfInBounds_toArray, List.set_cons_zero, List.set_cons_succ, i64_w]
    rfl
   refine pure_ (i := 13) (N := some 48) (v := ?_) (a' := ?_) #[true, true, true, true, true, true, true, true, true, true, false, false, false, true, false, false, false, false, false, false, false, false, false, false, false, false] rfl rfl (by kernel_rfl) (fun _ _ _ h => h) (Or.inl ⟨by rfl, ?_⟩) ?_ ?_
   rotate_left
   ·intro w'
    go_simp
    with_reducible rfl
   rotate_left
   ·simp only [Act.put, List.setIfInBounds_toArray, List.set_cons_zero, List.set_cons_succ, i64_w]
    rfl
   refine pure_ (i := 14) (N := some 49) (v := ?_) (a' := ?_) #[true, true, true, true, true, true, true, true, true, true, false, false, false, true, true, false, false, false, false, false, false, false, false, false, false, false] rfl rfl (by kernel_rfl) (fun _ _ _ h => h) (Or.inl ⟨by rfl, ?_⟩) ?_ ?_
   rotate_left
   ·intro w'
    go_simp
    with_reducible rfl
   rotate_left
   ·simp only [Act.put, List.setIfInBounds_toArray, List.set_cons_zero, List.set_cons_succ, i64_w]
    rfl
   refine take_ (i := 10) (N := some 45) (v := ?_) (a' := ?_) #[true, true, true, true, true, true, true, true, true, true, true, false, false, true, true, false, false, false, false, false, false, false, false, false, false, false] rfl rfl (by kernel_rfl) (fun _ _ _ h => h) (Or.inl ⟨by rfl, ?_⟩) hHeld ?_ ?_
   rotate_left
   ·rintro w' ⟨s0, s1, s2⟩
    go_simp
    with_reducible rfl
   rotate_left
   ·simp only [Act.put, List.setIfInBounds_toArray, List.set_cons_zero, List.set_cons_succ, i64_w]
    rfl
   refine one_ (i := 11) (N := some 46) #[true, true, true, true, true, true, true, true, true, true, true, true, false, true, true, false, false, false, false, false, false, false, false, false, false, false] rfl rfl (by kernel_rfl) (by decide) (fun K hK => ?_)
   refine goes_ Try.func19 (by kernel_rfl) rfl #[.int .i64 (op : Int)] (by rfl) rfl rfl (by simp only [List.map_toArray, List.map_cons, List.map_nil]; rfl) ?_
   with_reducible refine ((loom_specs.calls _ _ _ _ _ _ _ _ HTB.out)).mono ?_
   rintro e w3 ⟨rfl, hb⟩
   refine ⟨_, rfl, ?_⟩
   have HB3 := below_step (below_drew h00.out) hb
   refine hK.out _ _ ⟨(pw_cell_below HB3 hx0), (pw_cell_below HB3 hx1), HB3⟩ (fun hHeld => ?_)
   clear hK K
   refine norm_ (a' := ?_) ?_ ?_
   rotate_left
   ·show Act.put _ (some 46) _ = _
    simp only [Act.put, List.setIfInBounds_toArray, List.set_cons_zero, List.set_cons_succ, i64_w]
    rfl
   refine pure_ (i := 12) (N := some 47) (v := ?_) (a' := ?_) #[true, true, true, true, true, true, true, true, true, true, true, true, true, true, true, false, false, false, false, false, false, false, false, false, false, false] rfl rfl (by kernel_rfl) (fun _ _ _ h => h) (Or.inl ⟨by rfl, ?_⟩) ?_ ?_
   rotate_left
   ·intro w'
    go_simp
    with_reducible rfl
   rotate_left
   ·simp only [Act.put, List.setIfInBounds_toArray, List.set_cons_zero, List.set_cons_succ, i64_w]
    rfl
   refine pure_ (i := 15) (N := some 50) (v := ?_) (a' := ?_) #[true, true, true, true, true, true, true, true, true, true, true, true, true, true, true, true, false, false, false, false, false, false, false, false, false, false] rfl rfl (by kernel_rfl) (fun _ _ _ h => h) (Or.inl ⟨by rfl, ?_⟩) ?_ ?_
   rotate_left
   ·intro w'
    go_simp
    with_reducible rfl
   rotate_left
   ·simp only [Act.put, List.setIfInBounds_toArray, List.set_cons_zero, List.set_cons_succ, i64_w]
    rfl
   refine pure_ (i := 16) (N := some 51) (v := ?_) (a' := ?_) #[true, true, true, true, true, true, true, true, true, true, true, true, true, true, true, true, true, false, false, false, false, false, false, false, false, false] rfl rfl (by kernel_rfl) (fun _ _ _ h => h) (Or.inl ⟨by rfl, ?_⟩) ?_ ?_
   rotate_left
   ·intro w'
    go_simp
    with_reducible rfl
   rotate_left
   ·simp only [Act.put, List.setIfInBounds_toArray, List.set_cons_zero, List.set_cons_succ, i64_w]
    rfl
   refine pure_ (i := 17) (N := some 52) (v := ?_) (a' := ?_) #[true, true, true, true, true, true, true, true, true, true, true, true, true, true, true, true, true, true, false, false, false, false, false, false, false, false] rfl rfl (by kernel_rfl) (fun _ _ _ h => h) (Or.inl ⟨by rfl, ?_⟩) ?_ ?_
   rotate_left
   ·intro w'
    go_simp
    with_reducible rfl
   rotate_left
   ·simp only [Act.put, List.setIfInBounds_toArray, List.set_cons_zero, List.set_cons_succ, i64_w]
    rfl
   refine pure_ (i := 18) (N := some 53) (v := ?_) (a' := ?_) #[true, true, true, true, true, true, true, true, true, true, true, true, true, true, true, true, true, true, true, false, false, false, false, false, false, false] rfl rfl (by kernel_rfl) (fun _ _ _ h => h) (Or.inl ⟨by rfl, ?_⟩) ?_ ?_
   rotate_left
   ·intro w'
    go_simp
    with_reducible rfl
   rotate_left
   ·simp only [Act.put, List.setIfInBounds_toArray, List.set_cons_zero, List.set_cons_succ, i64_w]
    rfl
   refine pure_ (i := 19) (N := some 54) (v := ?_) (a' := ?_) #[true, true, true, true, true, true, true, true, true, true, true, true, true, true, true, true, true, true, true, true, false, false, false, false, false, false] rfl rfl (by kernel_rfl) (fun _ _ _ h => h) (Or.inl ⟨by rfl, ?_⟩) ?_ ?_
   rotate_left
   ·intro w'
    go_simp
    with_reducible rfl
   rotate_left
   ·simp only [Act.put, List.setIfInBounds_toArray, List.set_cons_zero, List.set_cons_succ, i64_w]
    rfl
   refine pure_ (i := 21) (N := some 56) (v := ?_) (a' := ?_) #[true, true, true, true, true, true, true, true, true, true, true, true, true, true, true, true, true, true, true, true, false, true, false, false, false, false] rfl rfl (by kernel_rfl) (fun _ _ _ h => h) (Or.inl ⟨by rfl, ?_⟩) ?_ ?_
   rotate_left
   ·intro w'
    go_simp
    with_reducible rfl
   rotate_left
   ·simp only [Act.put, List.setIfInBounds_toArray, List.set_cons_zero, List.set_cons_succ, i64_w]
    rfl
   refine pure_ (i := 22) (N := some 57) (v := ?_) (a' := ?_) #[true, true, true, true, true, true, true, true, true, true, true, true, true, true, true, true, true, true, true, true, false, true, true, false, false, false] rfl rfl (by kernel_rfl) (fun _ _ _ h => h) (Or.inl ⟨by rfl, ?_⟩) ?_ ?_
   rotate_left
   ·intro w'
    go_simp
    with_reducible rfl
   rotate_left
   ·simp only [Act.put, List.setIfInBounds_toArray, List.set_cons_zero, List.set_cons_succ, i64_w]
    rfl
   refine take_ (i := 20) (N := some 55) (v := ?_) (a' := ?_) #[true, true, true, true, true, true, true, true, true, true, true, true, true, true, true, true, true, true, true, true, true, true, true, false, false, false] rfl rfl (by kernel_rfl) (fun _ _ _ h => h) (Or.inl ⟨by rfl, ?_⟩) hHeld ?_ ?_
   rotate_left
   ·rintro w' ⟨s0, s1, s2⟩
    go_simp
    with_reducible rfl
   rotate_left
   ·simp only [Act.put, List.setIfInBounds_toArray, List.set_cons_zero, List.set_cons_succ, i64_w]
    rfl
   refine one_ (i := 23) (N := some 58) #[true, true, true, true, true, true, true, true, true, true, true, true, true, true, true, true, true, true, true, true, true, true, true, true, false, false] rfl rfl (by kernel_rfl) (by decide) (fun K hK => ?_)
   refine goes_ Try.func20 (by kernel_rfl) rfl #[.pointer (some ⟨cb, 0, none⟩), .agg #[.int .i64 (op : Int), .int .i64 x.f1], .int .i64 (L.length : Int)] (by rfl) rfl rfl (by simp only [List.map_toArray, List.map_cons, List.map_nil]; rfl) ?_
   with_reducible refine ((HMY.out _ HB3)).mono ?_
   rintro e w4 ⟨rfl, hb2⟩
   refine ⟨_, rfl, ?_⟩
   have HB4 := below_step HB3 hb2
   refine hK.out _ _ ⟨(pw_cell_below HB4 hx0), (pw_cell_below HB4 hx1), HB4⟩ (fun hHeld => ?_)
   clear hK K
   refine norm_ (a' := ?_) ?_ ?_
   rotate_left
   ·show Act.put _ (some 58) _ = _
    simp only [Act.put, List.setIfInBounds_toArray, List.set_cons_zero, List.set_cons_succ, i64_w]
    rfl
   refine pure_ (i := 24) (N := some 59) (v := ?_) (a' := ?_) #[true, true, true, true, true, true, true, true, true, true, true, true, true, true, true, true, true, true, true, true, true, true, true, true, true, false] rfl rfl (by kernel_rfl) (fun _ _ _ h => h) (Or.inl ⟨by rfl, ?_⟩) ?_ ?_
   rotate_left
   ·intro w'
    go_simp
    with_reducible rfl
   rotate_left
   ·simp only [Act.put, List.setIfInBounds_toArray, List.set_cons_zero, List.set_cons_succ, i64_w]
    rfl
   refine pure_ (i := 25) (N := some 60) (v := ?_) (a' := ?_) #[true, true, true, true, true, true, true, true, true, true, true, true, true, true, true, true, true, true, true, true, true, true, true, true, true, true] rfl rfl (by kernel_rfl) (fun _ _ _ h => h) (Or.inl ⟨by rfl, ?_⟩) ?_ ?_
   rotate_left
   ·intro w'
    go_simp
    with_reducible rfl
   rotate_left
   ·simp only [Act.put, List.setIfInBounds_toArray, List.set_cons_zero, List.set_cons_succ, i64_w]
    rfl
   refine done_ (by kernel_rfl) ?_
   have HB4 := Aside0.mk (below_then HB.out HB.out.size HB4)
   rcases mz with _ | _
   ·have HRB := Aside0.mk (HR2.out.trans (walkIn_bad (bad_first HIL.out (by rw [HIK.out, Bool.and_false]) HQ.out)))
    go_wp2
    exact ⟨rfl, .inr ⟨by rw [HRB.out]; exact Int.natCast_nonneg i, by rw [HRB.out], HB4.out⟩⟩
   have HQ2 := Aside0.mk (show ∀ j, j < i + 1 → insOkB [s0, s1, s2, s3, s4, s5, s6, s7] [g0, g1, g2, g3, g4, g5, g6, g7] [t0, t1, t2, t3] L.length hand (L.getD j z42) = true from fun j hj => by
    by_cases e : j = i
    ·rw [e, HIK.out]; rfl
    exact HQ.out j (by omega))
   go_wp2
   go_roundg k1_
   case measure => omega
   case rel => exact ⟨i + 1, (by first | rfl | (rw [HWR.out])), ⟨by have := HJ.out; omega⟩, HQ2, HB4⟩
  have d1 : decide ((i : Int) < (L.length : Int)) = false := decide_eq_false (by omega)
  have d2 : decide (i < L.length) = false := decide_eq_false hi
  have HQA := Aside0.mk (show ∀ j, j < L.length → insOkB [s0, s1, s2, s3, s4, s5, s6, s7] [g0, g1, g2, g3, g4, g5, g6, g7] [t0, t1, t2, t3] L.length hand (L.getD j z42) = true from fun j hj => HQ.out j (by have := HJ.out; omega))
  have HRG := Aside0.mk (HR2.out.trans (walkIn_go (bad_none HQA.out)))
  have hmk : ∀ W : World, (Instr.makeSlice 48 (.int .i64 ((L.length : Int) + 1)) (.int .i64 ((L.length : Int) + 1))).run Try.prog W = .ok (.slice (some ⟨W.heap.size, 0, none⟩) (L.length + 1) (L.length + 1)) (W.alloc (.cells (madeCells #[.bool false, .bool false, .slice none 0 0, .int .i64 0, .int .i64 0, .int .i64 0, .int .i64 0, .int .i64 0, .int .i64 0, .int .i64 0, .int .i64 0] ((L.length + 1) * 11)) 67)) := fun W => make11 48 67 Try.underlying48 (by kernel_rfl) (L.length + 1) (by have := HN5.out; omega) W
  have hn5 := HN5.out
  clear HQ HJ hi
  go_upto_region 13 with (fail)
  have n0_ := (made_sights 67 (L.length + 1) wr).below (below_alloc (Below.refl _ _) (.cells #[.pointer (some ⟨cb, 0, none⟩), .int .i64 (hand : Int), .slice A L.length c, .slice (some ⟨wr.heap.size, 0, none⟩) (L.length + 1) (L.length + 1), .int .i64 0, .slice none 0 0, .int .i64 0, .int .i64 0, .int .i64 0, .int .i64 0, .int .i64 0, .int .i64 0, .int .i64 0, .int .i64 0] 65))
  have n1_ := heap_alloc_new (wr.alloc (.cells (madeCells #[.bool false, .bool false, .slice none 0 0, .int .i64 0, .int .i64 0, .int .i64 0, .int .i64 0, .int .i64 0, .int .i64 0, .int .i64 0, .int .i64 0] ((L.length + 1) * 11)) 67)) (.cells #[.pointer (some ⟨cb, 0, none⟩), .int .i64 (hand : Int), .slice A L.length c, .slice (some ⟨wr.heap.size, 0, none⟩) (L.length + 1) (L.length + 1), .int .i64 0, .slice none 0 0, .int .i64 0, .int .i64 0, .int .i64 0, .int .i64 0, .int .i64 0, .int .i64 0, .int .i64 0, .int .i64 0] 65)
  rw [World.size_alloc] at n1_
  have HSG := Aside0.mk n0_
  have HWK := Aside0.mk n1_
  have HBN := Aside0.mk ((HB.out.alloc HB.out.size (.cells (madeCells #[.bool false, .bool false, .slice none 0 0, .int .i64 0, .int .i64 0, .int .i64 0, .int .i64 0, .int .i64 0, .int .i64 0, .int .i64 0, .int .i64 0] ((L.length + 1) * 11)) 67)).alloc (by rw [World.size_alloc]; have := HB.out.size; omega) (.cells #[.pointer (some ⟨cb, 0, none⟩), .int .i64 (hand : Int), .slice A L.length c, .slice (some ⟨wr.heap.size, 0, none⟩) (L.length + 1) (L.length + 1), .int .i64 0, .slice none 0 0, .int .i64 0, .int .i64 0, .int .i64 0, .int .i64 0, .int .i64 0, .int .i64 0, .int .i64 0, .int .i64 0] 65))
  have HGB := Aside0.mk HB.out.size
  have HCN := Aside0.mk ((HBN.out.block cb (blk_lt HC.out)).trans HC.out)
  clear n0_ n1_ HB hmk
  generalize (wr.alloc (.cells (madeCells #[.bool false, .bool false, .slice none 0 0, .int .i64 0, .int .i64 0, .int .i64 0, .int .i64 0, .int .i64 0, .int .i64 0, .int .i64 0, .int .i64 0] ((L.length + 1) * 11)) 67)).alloc (.cells #[.pointer (some ⟨cb, 0, none⟩), .int .i64 (hand : Int), .slice A L.length c, .slice (some ⟨wr.heap.size, 0, none⟩) (L.length + 1) (L.length + 1), .int .i64 0, .slice none 0 0, .int .i64 0, .int .i64 0, .int .i64 0, .int .i64 0, .int .i64 0, .int .i64 0, .int .i64 0, .int .i64 0] 65) = w2 at HSG HWK HBN HCN ⊢
  generalize wr.heap.size = g at HSG HWK HGB ⊢
  have hcs := HSG.out.cells 0 (by rw [List.length_replicate]; omega)
  have c0 : w2.cell? ⟨g, 0, none⟩ = some (.bool false) := hcs.1
  have c1 : w2.cell? ⟨g, 1, none⟩ = some (.bool false) := hcs.2.1
  have c2 : ∃ v, w2.cell? ⟨g, 2, none⟩ = some v := by
   obtain ⟨v, hv, _⟩ := hcs.2.2.1
   exact ⟨v, hv⟩
  obtain ⟨v2, c2⟩ := c2
  have c30 : w2.cell? ⟨g, 3, none⟩ = some (.int .i64 0) := (hcs.2.2.2.2 0 (by omega))
  have c31 : w2.cell? ⟨g, 4, none⟩ = some (.int .i64 0) := (hcs.2.2.2.2 1 (by omega))
  have c32 : w2.cell? ⟨g, 5, none⟩ = some (.int .i64 0) := (hcs.2.2.2.2 2 (by omega))
  have c33 : w2.cell? ⟨g, 6, none⟩ = some (.int .i64 0) := (hcs.2.2.2.2 3 (by omega))
  have c34 : w2.cell? ⟨g, 7, none⟩ = some (.int .i64 0) := (hcs.2.2.2.2 4 (by omega))
  have c35 : w2.cell? ⟨g, 8, none⟩ = some (.int .i64 0) := (hcs.2.2.2.2 5 (by omega))
  have c36 : w2.cell? ⟨g, 9, none⟩ = some (.int .i64 0) := (hcs.2.2.2.2 6 (by omega))
  have c37 : w2.cell? ⟨g, 10, none⟩ = some (.int .i64 0) := (hcs.2.2.2.2 7 (by omega))
  have f0 := HSG.out.frozen 0
  have f1 := HSG.out.frozen 1
  have f2 := HSG.out.frozen 2
  have f3 := HSG.out.frozen 3
  have f4 := HSG.out.frozen 4
  have f5 := HSG.out.frozen 5
  have f6 := HSG.out.frozen 6
  have f7 := HSG.out.frozen 7
  have f8 := HSG.out.frozen 8
  have f9 := HSG.out.frozen 9
  have f10 := HSG.out.frozen 10
  have he3 : _ = some (Value.slice (some ⟨g, 0, none⟩) (L.length + 1) (L.length + 1)) := blk_cell HWK.out 3
  have HS1 := Aside0.mk (HSG.out.putAll (by decide) (i := 0) (by rw [List.length_replicate]; omega) true true (.slice none 0 0) [] (StkV.nil 0 w2 none).read 0 0 0 0 0 0 0 0)
  have HH1 := Aside0.mk ((((((((((((Holds.refl w2.heap.size g g w2).set ⟨g, 0, none⟩ (.bool true) (.inl rfl)).set ⟨g, 1, none⟩ (.bool true) (.inl rfl)).set ⟨g, 2, none⟩ (.slice none 0 0) (.inl rfl)).set ⟨g, 3, none⟩ (.int .i64 0) (.inl rfl)).set ⟨g, 4, none⟩ (.int .i64 0) (.inl rfl)).set ⟨g, 5, none⟩ (.int .i64 0) (.inl rfl)).set ⟨g, 6, none⟩ (.int .i64 0) (.inl rfl)).set ⟨g, 7, none⟩ (.int .i64 0) (.inl rfl)).set ⟨g, 8, none⟩ (.int .i64 0) (.inl rfl)).set ⟨g, 9, none⟩ (.int .i64 0) (.inl rfl)).set ⟨g, 10, none⟩ (.int .i64 0) (.inl rfl))
  clear hcs
  go_upto_region 14 with (fail)
  have n0_ : SgAt 67 g (((((((((((w2.setCell ⟨g, 0, none⟩ (.bool true)).setCell ⟨g, 1, none⟩ (.bool true)).setCell ⟨g, 2, none⟩ (.slice none 0 0)).setCell ⟨g, 3, none⟩ (.int .i64 0)).setCell ⟨g, 4, none⟩ (.int .i64 0)).setCell ⟨g, 5, none⟩ (.int .i64 0)).setCell ⟨g, 6, none⟩ (.int .i64 0)).setCell ⟨g, 7, none⟩ (.int .i64 0)).setCell ⟨g, 8, none⟩ (.int .i64 0)).setCell ⟨g, 9, none⟩ (.int .i64 0)).setCell ⟨g, 10, none⟩ (.int .i64 0)) (sg0 L.length) := HS1.out
  have HS2 := Aside0.mk n0_
  have HWK2 := Aside0.mk (HH1.out.blk HWK.out (.inl (blk_lt HWK.out)) (by omega) (by omega))
  have HB2 := Aside0.mk (below_trans HBN.out (HH1.out.below (M := w.heap.size) (by have := HBN.out.size; omega) HGB.out HGB.out))
  clear n0_ HS1 HH1 HBN HWK HSG HCN c0 c1 c2 he3 c30 c31 c32 c33 c34 c35 c36 c37 f0 f1 f2 f3 f4 f5 f6 f7 f8 f9 f10
  generalize (((((((((((w2.setCell ⟨g, 0, none⟩ (.bool true)).setCell ⟨g, 1, none⟩ (.bool true)).setCell ⟨g, 2, none⟩ (.slice none 0 0)).setCell ⟨g, 3, none⟩ (.int .i64 0)).setCell ⟨g, 4, none⟩ (.int .i64 0)).setCell ⟨g, 5, none⟩ (.int .i64 0)).setCell ⟨g, 6, none⟩ (.int .i64 0)).setCell ⟨g, 7, none⟩ (.int .i64 0)).setCell ⟨g, 8, none⟩ (.int .i64 0)).setCell ⟨g, 9, none⟩ (.int .i64 0)).setCell ⟨g, 10, none⟩ (.int .i64 0)) = w5 at HS2 HWK2 HB2 ⊢
  have HAF := Aside0.mk (aft_ok (res := resP (hand : Int) ma mb) HQA.out)
  obtain ⟨aft, haft⟩ : ∃ f, f = aftOf (resP (hand : Int) ma mb) [s0, s1, s2, s3, s4, s5, s6, s7] [g0, g1, g2, g3, g4, g5, g6, g7] [t0, t1, t2, t3] L := ⟨_, rfl⟩
  rw [← haft] at HRG HAF
  have HAE := Aside0.mk haft
  clear haft
  go_loopg [] (18 * (L.length + 1) + 2) (fun kq w' => ∃ (ss : List Sg) (at0 : Int) (kv0 : Value) (m0 m1 m2 m3 m4 m5 m6 m7 : Int), Aside0 (R = runW L.length aft (nxOf L) kq ss) ∧ Aside0 (mu ss < kq ∧ AllOk ss ∧ ss.length = L.length + 1) ∧ Aside0 (SgAt 67 g w' ss) ∧ Aside0 (w'.heap[g + 1]? = some (.cells #[.pointer (some ⟨cb, 0, none⟩), .int .i64 (hand : Int), .slice A L.length c, .slice (some ⟨g, 0, none⟩) (L.length + 1) (L.length + 1), .int .i64 at0, kv0, .int .i64 m0, .int .i64 m1, .int .i64 m2, .int .i64 m3, .int .i64 m4, .int .i64 m5, .int .i64 m6, .int .i64 m7] 65 (0, 0))) ∧ Aside0 (Below w.heap.size w w'))
  case atStart => exact ⟨sg0 L.length, 0, .slice none 0 0, 0, 0, 0, 0, 0, 0, 0, 0, HRG, ⟨sg0_mu _, sg0_ok _, sg0_len _⟩, HS2, HWK2, HB2⟩
  case round =>
   clear HS2 HWK2 HB2 HRG
   obtain ⟨ss, at0, kv0, m0, m1, m2, m3, m4, m5, m6, m7, HRG, HMU, HS, HW, HB⟩ := hrel
   obtain ⟨k1_, rfl⟩ : ∃ k1_, gk = k1_ + 1 := ⟨gk - 1, by have := HMU.out.1; omega⟩
   have he3 : _ = some (Value.slice (some ⟨g, 0, none⟩) (L.length + 1) (L.length + 1)) := blk_cell HW.out 3
   have hix := indexR g (L.length + 1) ss wr HS.out (by have := HMU.out.2.2; have := HN5.out; omega)
   rw [HMU.out.2.2] at hix
   have HIX := Aside0.mk hix
   clear hix
   rcases hdu : dueAt ss with _ | i2
   ·have HRD := Aside0.mk (HRG.out.trans (run_done hdu))
    have hdi : dueI ss = -1 := by unfold dueI; rw [hdu]
    rw [hdi] at HIX
    clear hdi hdu
    go_wp2_with (go_at_call 21; refine HIX.out.mono ?_; rintro e w6 ⟨rfl, hb⟩; have n0_ := Aside0.mk (below_trans HB.out (below_less hb HB.out.size)); have n1_ := Aside0.mk ((hb.block (g + 1) (blk_lt HW.out)).trans HW.out); clear HB HW HS HIX he3 hb; have HB := n0_; have HW := n1_; clear n0_ n1_; have he3 : _ = some (Value.slice (some ⟨g, 0, none⟩) (L.length + 1) (L.length + 1)) := blk_cell HW.out 3)
    go_ret
    exact .inl ⟨HRD.out, ⟨_, rfl⟩, HB.out⟩
   have hda := due_at hdu
   have hdi : dueI ss = (i2 : Int) := by unfold dueI; rw [hdu]
   rw [hdi] at HIX
   have HI2 := Aside0.mk (show i2 < L.length + 1 by have := HMU.out.2.2; omega)
   have HDD := Aside0.mk hda.2
   have HDU := Aside0.mk hdu
   have HIO := Aside0.mk (show i2 < L.length → InsOk L.length (L.getD i2 z42) (L.getD i2 z42).f0.toNat (L.getD i2 z42).f1.toNat from fun h => insOk_of (HQA.out i2 h))
   have dl1 : decide ((i2 : Int) < 0) = false := decide_eq_false (by omega)
   have HMV := Aside0.mk (show ∀ W, Below wr.heap.size wr W → SgAt 67 g W ss ∧ W.heap[g + 1]? = some (.cells #[.pointer (some ⟨cb, 0, none⟩), .int .i64 (hand : Int), .slice A L.length c, .slice (some ⟨g, 0, none⟩) (L.length + 1) (L.length + 1), .int .i64 at0, kv0, .int .i64 m0, .int .i64 m1, .int .i64 m2, .int .i64 m3, .int .i64 m4, .int .i64 m5, .int .i64 m6, .int .i64 m7] 65 (0, 0)) ∧ Below w.heap.size w W from fun W hb => ⟨HS.out.below hb, (hb.block (g + 1) (blk_lt HW.out)).trans HW.out, below_trans HB.out (below_less hb HB.out.size)⟩)
   clear hda hdi hdu
   have hAEV : ∀ o, lookP aft (nxOf L) i2 ss = o → ((afterP (resP (hand : Int) ma mb) [s0, s1, s2, s3, s4, s5, s6, s7] [g0, g1, g2, g3, g4, g5, g6, g7] [t0, t1, t2, t3] (kindsOf (tabP (L.getD i2 z42).f0.toNat)) (kindsOf (tabQ (L.getD i2 z42).f0.toNat)) (tabS (L.getD i2 z42).f0.toNat) (L.getD i2 z42).f0.toNat (L.getD i2 z42).f1.toNat (ss.getD i2 Sg.zero).stack (ss.getD i2 Sg.zero).locals).bind fun x => reachAll x.1 x.2 (nxP (L.getD i2 z42).f0.toNat (L.getD i2 z42).f1.toNat i2) (ss.set i2 { ss.getD i2 Sg.zero with due := false })) = o := fun o h => by rw [HAE.out] at h; exact h
   have HAEV := Aside0.mk hAEV
   clear hAEV
   by_cases hf : i2 = L.length ∨ lookP aft (nxOf L) i2 ss = none
   ·have HRF := Aside0.mk (HRG.out.trans (run_fault HDU.out hf))
    have HFF := Aside0.mk (show i2 = L.length ∨ ((afterP (resP (hand : Int) ma mb) [s0, s1, s2, s3, s4, s5, s6, s7] [g0, g1, g2, g3, g4, g5, g6, g7] [t0, t1, t2, t3] (kindsOf (tabP (L.getD i2 z42).f0.toNat)) (kindsOf (tabQ (L.getD i2 z42).f0.toNat)) (tabS (L.getD i2 z42).f0.toNat) (L.getD i2 z42).f0.toNat (L.getD i2 z42).f1.toNat (ss.getD i2 Sg.zero).stack (ss.getD i2 Sg.zero).locals).bind fun x => reachAll x.1 x.2 (nxP (L.getD i2 z42).f0.toNat (L.getD i2 z42).f1.toNat i2) (ss.set i2 { ss.getD i2 Sg.zero with due := false })) = none from hf.elim .inl (fun h => .inr (HAEV.out _ h)))
    clear hf
    go_wp2_with (first | (go_at_call 21; refine HIX.out.mono ?_; rintro e w6 ⟨rfl, hb⟩; have HVV := Aside0.mk (HMV.out _ hb); clear HB HW HS HIX he3 hb) | (go_at_call 23; (with_reducible refine (lookBad words s0 s1 s2 s3 s4 s5 s6 s7 g0 g1 g2 g3 g4 g5 g6 g7 t0 t1 t2 t3 ma mb sa na sb nb both h0 h1 h2 h3 h4 cb (g + 1) g w.heap.size L.length c (L.length + 1) (hand : Int) at0 m0 m1 m2 m3 m4 m5 m6 m7 kv0 A L ss i2 _ _ _ (blk_lt HC.out) (by have := HGB.out; omega) HGB.out (by rw [HMU.out.2.2]; exact HVV.out.2.1) ((HVV.out.2.2.block cb (blk_lt HC.out)).trans HC.out) HVV.out.1 HMU.out.2.1 rfl HMU.out.2.2 HN5.out HI2.out (HI.out.move HVV.out.2.2.block) HIO.out HFF.out).mono ?_); rintro e w7 ⟨rfl, hh⟩; have HHH := Aside0.mk hh; clear hh))
    exact ⟨rfl, .inr ⟨by rw [HRF.out]; exact Int.natCast_nonneg i2, by rw [HRF.out], below_trans HVV.out.2.2 (HHH.out.below HVV.out.2.2.size (by have := HGB.out; omega) HGB.out)⟩⟩
   have hne : i2 ≠ L.length := fun h => hf (.inl h)
   obtain ⟨ss', hss⟩ : ∃ ss', lookP aft (nxOf L) i2 ss = some ss' := by
    rcases ho : lookP aft (nxOf L) i2 ss with _ | s
    ·exact absurd (.inr ho) hf
    exact ⟨s, rfl⟩
   have HRN := Aside0.mk (HRG.out.trans (run_next HDU.out hne hss))
   have hm2 := lookP_mu HAF.out (show i2 < L.length by have := HI2.out; omega) HMU.out.2.2 HMU.out.2.1 HDD.out hss
   have HM2 := Aside0.mk (show mu ss' < k1_ ∧ AllOk ss' ∧ ss'.length = L.length + 1 from ⟨by have := HMU.out.1; omega, hm2.2⟩)
   have HNE := Aside0.mk hne
   have HGG := Aside0.mk (HAEV.out _ hss)
   clear hf hne hss hm2
   go_wp2_with (first | (go_at_call 21; refine HIX.out.mono ?_; rintro e w6 ⟨rfl, hb⟩; have HVV := Aside0.mk (HMV.out _ hb); clear HB HW HS HIX he3 hb) | (go_at_call 23; (with_reducible refine (lookGood words s0 s1 s2 s3 s4 s5 s6 s7 g0 g1 g2 g3 g4 g5 g6 g7 t0 t1 t2 t3 ma mb sa na sb nb both h0 h1 h2 h3 h4 cb (g + 1) g w.heap.size L.length c (L.length + 1) (hand : Int) at0 m0 m1 m2 m3 m4 m5 m6 m7 kv0 A L ss ss' i2 _ _ _ (blk_lt HC.out) (by have := HGB.out; omega) HGB.out (by rw [HMU.out.2.2]; exact HVV.out.2.1) ((HVV.out.2.2.block cb (blk_lt HC.out)).trans HC.out) HVV.out.1 HMU.out.2.1 rfl HMU.out.2.2 HN5.out HI2.out (HI.out.move HVV.out.2.2.block) HIO.out HNE.out HGG.out).mono ?_); rintro e w7 ⟨rfl, ⟨kv1, n0, n1, n2, n3, n4, n5, n6, n7, hblk⟩, hsg, hh⟩; have HHH := Aside0.mk hh; have HBL := Aside0.mk hblk; have HSS := Aside0.mk hsg; clear hh hblk hsg))
   go_roundg k1_
   case measure => omega
   case rel => exact ⟨ss', (i2 : Int), kv1, n0, n1, n2, n3, n4, n5, n6, n7, HRN, HM2, HSS, ⟨by have := HBL.out; rw [HMU.out.2.2] at this; exact this⟩, ⟨below_trans HVV.out.2.2 (HHH.out.below HVV.out.2.2.size (by have := HGB.out; omega) HGB.out)⟩⟩
end Walk
end Go.Proofs.Ytcpcpmojallcdaa.QLoomChecks
