/- LoomChecks: BehJ WQ. Conditions: as each theorem says. -/
import Derived.Test.YtcpcpmojallcdaaLcQ
import Derived.Test.YtcpcpmojallcdaaLcGN
import Derived.Test.YtcpcpmojallcdaaLcGO
import Derived.Test.YtcpcpmojallcdaaLcGP
import Derived.Test.YtcpcpmojallcdaaLcGQ
import Derived.Test.YtcpcpmojallcdaaLcGR
import Derived.Test.YtcpcpmojallcdaaLcGS
import Derived.Test.YtcpcpmojallcdaaLcGT
import Derived.Test.YtcpcpmojallcdaaLcGJ
import Derived.Test.YtcpcpmojallcdaaLcGL
namespace Go.Proofs.Ytcpcpmojallcdaa.QLoomChecks
open Go.RowKit Go.Proofs.YtcpcpmojallcdaaW.PrintWords Go.Proofs.YtcpcpmojallcdaaW.PrintLast Go.Proofs.YtcpcpmojallcdaaW.PrintMore
set_option linter.unusedVariables false
set_option linter.unusedSimpArgs false
section BehJ
theorem plain_ne {k : Int} (h : plainB k = true) : k ≠ 0 := by
 intro e
 rw [e] at h
 exact absurd h (by decide)
theorem tabS_gen : ∀ op : Nat, op < 69 → op = 0 ∨ op = 4 ∨ op = 5 ∨ op = 6 ∨ op = 7 ∨ op = 8 ∨ op = 9 ∨ op = 10 ∨ op = 11 ∨ op = 12 ∨ op = 13 ∨ op = 14 ∨ op = 15 ∨ tabS op = false := by decide +kernel
theorem behindQR (words s0 s1 s2 s3 s4 s5 s6 s7 g0 g1 g2 g3 g4 g5 g6 g7 t0 t1 t2 t3 ma mb sa na sb nb : Int) (both : Bool) (h0 h1 h2 h3 h4 : Value) (hand n : Nat) (l0 l1 l2 l3 l4 l5 l6 l7 : Int) (v : Value) (ks : List Int) (x : S42) (w : World) (hv : StkR w v ks) (hl : ks.length ≤ 32) (hok : insOkB [s0, s1, s2, s3, s4, s5, s6, s7] [g0, g1, g2, g3, g4, g5, g6, g7] [t0, t1, t2, t3] n hand x = true) :
  Calls Try.prog 30 #[.agg #[.int .i64 words, .int .i64 s0, .int .i64 s1, .int .i64 s2, .int .i64 s3, .int .i64 s4, .int .i64 s5, .int .i64 s6, .int .i64 s7, .int .i64 g0, .int .i64 g1, .int .i64 g2, .int .i64 g3, .int .i64 g4, .int .i64 g5, .int .i64 g6, .int .i64 g7, .int .i64 t0, .int .i64 t1, .int .i64 t2, .int .i64 t3, .int .i64 ma, .int .i64 mb, .int .i64 sa, .int .i64 na, .int .i64 sb, .int .i64 nb, .bool both, h0, h1, h2, h3, h4], .int .i64 (hand : Int), .agg #[.int .i64 x.f0, .int .i64 x.f1], v, .agg #[.int .i64 l0, .int .i64 l1, .int .i64 l2, .int .i64 l3, .int .i64 l4, .int .i64 l5, .int .i64 l6, .int .i64 l7]] w fun e w' => (afterP (resP (hand : Int) ma mb) [s0, s1, s2, s3, s4, s5, s6, s7] [g0, g1, g2, g3, g4, g5, g6, g7] [t0, t1, t2, t3] (kindsOf (tabP x.f0.toNat)) (kindsOf (tabQ x.f0.toNat)) (tabS x.f0.toNat) x.f0.toNat x.f1.toNat ks [l0, l1, l2, l3, l4, l5, l6, l7] = none ∧ ∃ (v' : Value) (n0 n1 n2 n3 n4 n5 n6 n7 : Int), e = .returned (.tuple #[v', .agg #[.int .i64 n0, .int .i64 n1, .int .i64 n2, .int .i64 n3, .int .i64 n4, .int .i64 n5, .int .i64 n6, .int .i64 n7], .bool false]) ∧ Below w.heap.size w w') ∨ ∃ s' lo' v', afterP (resP (hand : Int) ma mb) [s0, s1, s2, s3, s4, s5, s6, s7] [g0, g1, g2, g3, g4, g5, g6, g7] [t0, t1, t2, t3] (kindsOf (tabP x.f0.toNat)) (kindsOf (tabQ x.f0.toNat)) (tabS x.f0.toNat) x.f0.toNat x.f1.toNat ks [l0, l1, l2, l3, l4, l5, l6, l7] = some (s', lo') ∧ e = .returned (.tuple #[v', .agg (nums .i64 lo').toArray, .bool true]) ∧ StkR w' v' s' ∧ Below w.heap.size w w' := by
 have hk := insOk_of hok
 have hm : mayB [s0, s1, s2, s3, s4, s5, s6, s7] [g0, g1, g2, g3, g4, g5, g6, g7] [t0, t1, t2, t3] n (tabA x.f0.toNat) x.f1 = true := by
  unfold insOkB at hok
  rw [Bool.and_eq_true, Bool.and_eq_true, Bool.and_eq_true] at hok
  exact hok.2.2.2
 obtain ⟨y, z⟩ := x
 simp only at hk hm ⊢
 obtain ⟨op, hop⟩ : ∃ op, op = y.toNat := ⟨_, rfl⟩
 have hy : y = (op : Int) := by rw [hop]; exact hk.opE
 rw [← hop] at hk hm ⊢
 have hlt := hk.lt
 have hm6 : tabA op = 6 → plainB ([s0, s1, s2, s3, s4, s5, s6, s7].getD z.toNat 0) = true := fun e => by rw [e] at hm; exact (Bool.and_eq_true _ _ ▸ hm : _ ∧ _).2
 have hm7 : tabA op = 7 → plainB ([g0, g1, g2, g3, g4, g5, g6, g7].getD z.toNat 0) = true := fun e => by rw [e] at hm; exact (Bool.and_eq_true _ _ ▸ hm : _ ∧ _).2
 have hm8 : tabA op = 8 → plainB ([t0, t1, t2, t3].getD z.toNat 0) = true := fun e => by rw [e] at hm; exact (Bool.and_eq_true _ _ ▸ hm : _ ∧ _).2
 rw [hy]
 rcases tabS_gen op hlt with e | e | e | e | e | e | e | e | e | e | e | e | e | e
 ·subst e; have ha : z = ((z.toNat : Nat) : Int) := hk.arg (by decide); have h := beh0R words s0 s1 s2 s3 s4 s5 s6 s7 g0 g1 g2 g3 g4 g5 g6 g7 t0 t1 t2 t3 ma mb sa na sb nb both h0 h1 h2 h3 h4 (hand : Int) l0 l1 l2 l3 l4 l5 l6 l7 v ks z.toNat w hv hl ; rw [← ha] at h; exact h
 ·subst e; have ha : z = ((z.toNat : Nat) : Int) := hk.arg (by decide); have h := beh4R words s0 s1 s2 s3 s4 s5 s6 s7 g0 g1 g2 g3 g4 g5 g6 g7 t0 t1 t2 t3 ma mb sa na sb nb both h0 h1 h2 h3 h4 (hand : Int) l0 l1 l2 l3 l4 l5 l6 l7 v ks z.toNat w hv hl ; rw [← ha] at h; exact h
 ·subst e; have ha : z = ((z.toNat : Nat) : Int) := hk.arg (by decide); have h := beh5R words s0 s1 s2 s3 s4 s5 s6 s7 g0 g1 g2 g3 g4 g5 g6 g7 t0 t1 t2 t3 ma mb sa na sb nb both h0 h1 h2 h3 h4 (hand : Int) l0 l1 l2 l3 l4 l5 l6 l7 v ks z.toNat w hv hl ; rw [← ha] at h; exact h
 ·subst e; have ha : z = ((z.toNat : Nat) : Int) := hk.arg (by decide); have h := beh6R words s0 s1 s2 s3 s4 s5 s6 s7 g0 g1 g2 g3 g4 g5 g6 g7 t0 t1 t2 t3 ma mb sa na sb nb both h0 h1 h2 h3 h4 (hand : Int) l0 l1 l2 l3 l4 l5 l6 l7 v ks z.toNat w hv hl ; rw [← ha] at h; exact h
 ·subst e; have ha : z = ((z.toNat : Nat) : Int) := hk.arg (by decide); have h := beh7R words s0 s1 s2 s3 s4 s5 s6 s7 g0 g1 g2 g3 g4 g5 g6 g7 t0 t1 t2 t3 ma mb sa na sb nb both h0 h1 h2 h3 h4 (hand : Int) l0 l1 l2 l3 l4 l5 l6 l7 v ks z.toNat w hv hl (hk.h7 rfl); rw [← ha] at h; exact h
 ·subst e; have ha : z = ((z.toNat : Nat) : Int) := hk.arg (by decide); have h := beh8R words s0 s1 s2 s3 s4 s5 s6 s7 g0 g1 g2 g3 g4 g5 g6 g7 t0 t1 t2 t3 ma mb sa na sb nb both h0 h1 h2 h3 h4 (hand : Int) l0 l1 l2 l3 l4 l5 l6 l7 v ks z.toNat w hv hl (hk.h8 (.inl rfl)); rw [← ha] at h; exact h
 ·subst e; have ha : z = ((z.toNat : Nat) : Int) := hk.arg (by decide); have h := beh9R words s0 s1 s2 s3 s4 s5 s6 s7 g0 g1 g2 g3 g4 g5 g6 g7 t0 t1 t2 t3 ma mb sa na sb nb both h0 h1 h2 h3 h4 (hand : Int) l0 l1 l2 l3 l4 l5 l6 l7 v ks z.toNat w hv hl (hk.h8 (.inr rfl)); rw [← ha] at h; exact h
 ·subst e; have ha : z = ((z.toNat : Nat) : Int) := hk.arg (by decide); have h := beh10R words s0 s1 s2 s3 s4 s5 s6 s7 g0 g1 g2 g3 g4 g5 g6 g7 t0 t1 t2 t3 ma mb sa na sb nb both h0 h1 h2 h3 h4 (hand : Int) l0 l1 l2 l3 l4 l5 l6 l7 v ks z.toNat w hv hl (hk.h10 (by decide) (by decide)); rw [← ha] at h; exact h
 ·subst e; have ha : z = ((z.toNat : Nat) : Int) := hk.arg (by decide); have h := beh11R words s0 s1 s2 s3 s4 s5 s6 s7 g0 g1 g2 g3 g4 g5 g6 g7 t0 t1 t2 t3 ma mb sa na sb nb both h0 h1 h2 h3 h4 (hand : Int) l0 l1 l2 l3 l4 l5 l6 l7 v ks z.toNat w hv hl (hk.h10 (by decide) (by decide)) (plain_ne (hm6 (by decide))); rw [← ha] at h; exact h
 ·subst e; have ha : z = ((z.toNat : Nat) : Int) := hk.arg (by decide); have h := beh12R words s0 s1 s2 s3 s4 s5 s6 s7 g0 g1 g2 g3 g4 g5 g6 g7 t0 t1 t2 t3 ma mb sa na sb nb both h0 h1 h2 h3 h4 (hand : Int) l0 l1 l2 l3 l4 l5 l6 l7 v ks z.toNat w hv hl (hk.h10 (by decide) (by decide)); rw [← ha] at h; exact h
 ·subst e; have ha : z = ((z.toNat : Nat) : Int) := hk.arg (by decide); have h := beh13R words s0 s1 s2 s3 s4 s5 s6 s7 g0 g1 g2 g3 g4 g5 g6 g7 t0 t1 t2 t3 ma mb sa na sb nb both h0 h1 h2 h3 h4 (hand : Int) l0 l1 l2 l3 l4 l5 l6 l7 v ks z.toNat w hv hl (hk.h10 (by decide) (by decide)) (plain_ne (hm7 (by decide))); rw [← ha] at h; exact h
 ·subst e; have ha : z = ((z.toNat : Nat) : Int) := hk.arg (by decide); have h := beh14R words s0 s1 s2 s3 s4 s5 s6 s7 g0 g1 g2 g3 g4 g5 g6 g7 t0 t1 t2 t3 ma mb sa na sb nb both h0 h1 h2 h3 h4 (hand : Int) l0 l1 l2 l3 l4 l5 l6 l7 v ks z.toNat w hv hl (hk.h14 (by decide) (by decide)); rw [← ha] at h; exact h
 ·subst e; have ha : z = ((z.toNat : Nat) : Int) := hk.arg (by decide); have h := beh15R words s0 s1 s2 s3 s4 s5 s6 s7 g0 g1 g2 g3 g4 g5 g6 g7 t0 t1 t2 t3 ma mb sa na sb nb both h0 h1 h2 h3 h4 (hand : Int) l0 l1 l2 l3 l4 l5 l6 l7 v ks z.toNat w hv hl (hk.h14 (by decide) (by decide)) (plain_ne (hm8 (by decide))); rw [← ha] at h; exact h
 exact behGR words s0 s1 s2 s3 s4 s5 s6 s7 g0 g1 g2 g3 g4 g5 g6 g7 t0 t1 t2 t3 ma mb sa na sb nb both h0 h1 h2 h3 h4 (hand : Int) l0 l1 l2 l3 l4 l5 l6 l7 v ks z.toNat w hv hl op z hlt e
end BehJ
section WQ
theorem bit_ok1 : ∀ k : Fin 32, ∀ j : Fin 5, (wrap64 ((wrap64 ((k.val : Int).tdiv (2 ^ j.val))).tmod 2) == 0) = !(handB (k.val : Int) j.val) := by decide +kernel
theorem bit_ok2 : ∀ k : Fin 32, ∀ j : Fin 5, ((wrap64 ((k.val : Int).tdiv (2 ^ j.val))).tmod 2 == 0) = !(handB (k.val : Int) j.val) := by decide +kernel
theorem bit_at (h : Int) (h0 : 0 ≤ h) (h1 : h < 32) (hand : Nat) (hh : hand < 5) : (wrap64 ((wrap64 (h.tdiv (2 ^ hand))).tmod 2) == 0) = !(handB h hand) ∧ ((wrap64 (h.tdiv (2 ^ hand))).tmod 2 == 0) = !(handB h hand) := by
 obtain ⟨k, rfl⟩ : ∃ k : Nat, h = (k : Int) := ⟨h.toNat, by omega⟩
 exact ⟨bit_ok1 ⟨k, by omega⟩ ⟨hand, hh⟩, bit_ok2 ⟨k, by omega⟩ ⟨hand, hh⟩⟩
theorem pow_ok : ∀ j : Fin 5, wrap64 (2 * (2 : Int) ^ j.val) = (2 : Int) ^ (j.val + 1) ∧ (2 : Int) ^ j.val ≠ 0 := by decide +kernel
theorem pow_wrap (j : Nat) (h : j < 5) : wrap64 (2 * (2 : Int) ^ j) = (2 : Int) ^ (j + 1) := (pow_ok ⟨j, h⟩).1
theorem pow_ne (j : Nat) (h : j < 5) : (2 : Int) ^ j ≠ 0 := (pow_ok ⟨j, h⟩).2
theorem behindU (words s0 s1 s2 s3 s4 s5 s6 s7 g0 g1 g2 g3 g4 g5 g6 g7 t0 t1 t2 t3 ma mb sa na sb nb : Int) (both : Bool) (h0 h1 h2 h3 h4 : Value) (hand n : Nat) (a0 a1 a2 a3 a4 a5 a6 a7 : Int) (v : Value) (st : List Int) (x : S42) (W : World) (res : Option (List Int × List Int)) (okb : Bool) (hres : res = afterP (resP (hand : Int) ma mb) [s0, s1, s2, s3, s4, s5, s6, s7] [g0, g1, g2, g3, g4, g5, g6, g7] [t0, t1, t2, t3] (kindsOf (tabP x.f0.toNat)) (kindsOf (tabQ x.f0.toNat)) (tabS x.f0.toNat) x.f0.toNat x.f1.toNat st [a0, a1, a2, a3, a4, a5, a6, a7]) (hok : okb = res.isSome) (hv : StkR W v st) (hl : st.length ≤ 32) (hi : insOkB [s0, s1, s2, s3, s4, s5, s6, s7] [g0, g1, g2, g3, g4, g5, g6, g7] [t0, t1, t2, t3] n hand x = true) :
  Calls Try.prog 30 #[.agg #[.int .i64 words, .int .i64 s0, .int .i64 s1, .int .i64 s2, .int .i64 s3, .int .i64 s4, .int .i64 s5, .int .i64 s6, .int .i64 s7, .int .i64 g0, .int .i64 g1, .int .i64 g2, .int .i64 g3, .int .i64 g4, .int .i64 g5, .int .i64 g6, .int .i64 g7, .int .i64 t0, .int .i64 t1, .int .i64 t2, .int .i64 t3, .int .i64 ma, .int .i64 mb, .int .i64 sa, .int .i64 na, .int .i64 sb, .int .i64 nb, .bool both, h0, h1, h2, h3, h4], .int .i64 (hand : Int), .agg #[.int .i64 x.f0, .int .i64 x.f1], v, .agg #[.int .i64 a0, .int .i64 a1, .int .i64 a2, .int .i64 a3, .int .i64 a4, .int .i64 a5, .int .i64 a6, .int .i64 a7]] W fun e w' => ∃ (v' : Value) (m0 m1 m2 m3 m4 m5 m6 m7 : Int), e = .returned (.tuple #[v', .agg #[.int .i64 m0, .int .i64 m1, .int .i64 m2, .int .i64 m3, .int .i64 m4, .int .i64 m5, .int .i64 m6, .int .i64 m7], .bool okb]) ∧ (okb = true → ∃ s', res = some (s', [m0, m1, m2, m3, m4, m5, m6, m7]) ∧ StkR w' v' s') ∧ Below W.heap.size W w' :=
 (behindQR words s0 s1 s2 s3 s4 s5 s6 s7 g0 g1 g2 g3 g4 g5 g6 g7 t0 t1 t2 t3 ma mb sa na sb nb both h0 h1 h2 h3 h4 hand n a0 a1 a2 a3 a4 a5 a6 a7 v st x W hv hl hi).mono (by
  rintro e w' (⟨hn, v', m0, m1, m2, m3, m4, m5, m6, m7, rfl, hb⟩ | ⟨s', lo', v', hs, rfl, hv2, hb⟩)
  ·rw [← hres] at hn
   exact ⟨v', m0, m1, m2, m3, m4, m5, m6, m7, by rw [hok, hn]; rfl, fun h => (by rw [hok, hn] at h; cases h), hb⟩
  have h8 := (after_len hl hs).2
  rw [← hres] at hs
  match lo', h8 with
  | [m0, m1, m2, m3, m4, m5, m6, m7], _ => exact ⟨v', m0, m1, m2, m3, m4, m5, m6, m7, by rw [hok, hs]; rfl, fun _ => ⟨s', hs, hv2⟩, hb⟩)
theorem SgAt.putL8 {t g : Nat} {w : World} {ss : List Sg} (h : SgAt t g w ss) (ht : t ≠ 22) {i : Nat} (hi : i < ss.length) (l0 l1 l2 l3 l4 l5 l6 l7 : Int) :
  SgAt t g ((((((((w.setCell ⟨g, i * 11 + 3 + 0, none⟩ (.int .i64 l0)).setCell ⟨g, i * 11 + 3 + 1, none⟩ (.int .i64 l1)).setCell ⟨g, i * 11 + 3 + 2, none⟩ (.int .i64 l2)).setCell ⟨g, i * 11 + 3 + 3, none⟩ (.int .i64 l3)).setCell ⟨g, i * 11 + 3 + 4, none⟩ (.int .i64 l4)).setCell ⟨g, i * 11 + 3 + 5, none⟩ (.int .i64 l5)).setCell ⟨g, i * 11 + 3 + 6, none⟩ (.int .i64 l6)).setCell ⟨g, i * 11 + 3 + 7, none⟩ (.int .i64 l7)) (ss.set i { ss.getD i Sg.zero with locals := [l0, l1, l2, l3, l4, l5, l6, l7] }) := by
 have key : ∀ (ss : List Sg) (s s' : Sg), (ss.set i s).set i s' = ss.set i s' := fun ss s s' => List.set_set ..
 have m0 := h.putL ht hi 0 (by omega) l0
 have m1 := m0.putL ht (by rw [List.length_set]; exact hi) 1 (by omega) l1
 rw [getD_set_eq _ hi, key] at m1
 have m2 := m1.putL ht (by rw [List.length_set]; exact hi) 2 (by omega) l2
 rw [getD_set_eq _ hi, key] at m2
 have m3 := m2.putL ht (by rw [List.length_set]; exact hi) 3 (by omega) l3
 rw [getD_set_eq _ hi, key] at m3
 have m4 := m3.putL ht (by rw [List.length_set]; exact hi) 4 (by omega) l4
 rw [getD_set_eq _ hi, key] at m4
 have m5 := m4.putL ht (by rw [List.length_set]; exact hi) 5 (by omega) l5
 rw [getD_set_eq _ hi, key] at m5
 have m6 := m5.putL ht (by rw [List.length_set]; exact hi) 6 (by omega) l6
 rw [getD_set_eq _ hi, key] at m6
 have m7 := m6.putL ht (by rw [List.length_set]; exact hi) 7 (by omega) l7
 rw [getD_set_eq _ hi, key] at m7
 have hn := (h.cells i hi).2.2.2.1
 generalize hsg : ss.getD i Sg.zero = sg at hn m7 ⊢
 obtain ⟨r, d, st, lo⟩ := sg
 simp only at hn m7 ⊢
 match lo, hn with
 | [a0, a1, a2, a3, a4, a5, a6, a7], _ => exact m7
/-- What stays through the loop over the instructions that follow. -/
structure WI (w0 : World) (g lb : Nat) (CC NB : Obj) (V RV : Value) (sv xs : List Int) (w : World) : Prop where
 c : w.heap[w0.heap.size]? = some CC
 l : w.heap[lb]? = some NB
 v : StkR w V sv
 r : (Kd.int .i64).R 3 w 0 (fun _ => True) RV xs
 b : Below w0.heap.size w0 w
 gn : w0.heap.size < g
 ln : lb ≠ g
 gb : ∃ cs, w.heap[g]? = some (.cells cs 77 (0, 0))
theorem WI.put {w0 : World} {g lb : Nat} {CC NB : Obj} {V RV : Value} {sv xs : List Int} {w : World} (h : WI w0 g lb CC NB V RV sv xs w) (j : Nat) (v : Value) : WI w0 g lb CC NB V RV sv xs (w.setCell ⟨g, j, none⟩ v) := by
 obtain ⟨cs, hg⟩ := h.gb
 have e : ∀ i, i ≠ g → (w.setCell ⟨g, j, none⟩ v).heap[i]? = w.heap[i]? := Below.heap_setCell w ⟨g, j, none⟩ v
 have HH := (Holds.refl w.heap.size g g w).set ⟨g, j, none⟩ v (.inl rfl)
 have hgn := h.gn
 exact ⟨(e _ (by omega)).trans h.c, (e _ h.ln).trans h.l, h.v.set hg (by decide) j v, R3_hold h.r HH hg hg (by decide) (by decide), below_trans h.b (HH.below (M := w0.heap.size) h.b.size (by omega) (by omega)), h.gn, h.ln, ⟨_, blk_set hg j v⟩⟩
theorem WI.step {w0 : World} {g lb : Nat} {CC NB : Obj} {V RV : Value} {sv xs : List Int} {w : World} (h : WI w0 g lb CC NB V RV sv xs w) {w1 : World} (hb : Below w.heap.size w w1) : WI w0 g lb CC NB V RV sv xs w1 := by
 obtain ⟨cs, hg⟩ := h.gb
 exact ⟨(hb.block _ (blk_lt h.c)).trans h.c, (hb.block _ (blk_lt h.l)).trans h.l, h.v.below hb, R3_hold h.r (Holds.of_below g g (Nat.le_refl _) hb) hg hg (by decide) (by decide), below_then h.b h.b.size hb, h.gn, h.ln, ⟨cs, (hb.block _ (blk_lt hg)).trans hg⟩⟩
theorem sg_true {sg : Sg} (h : sg.reached = true) {lo : List Int} : (⟨true, (meetTo sg.locals lo sg.due 0).2, sg.stack, (meetTo sg.locals lo sg.due 0).1⟩ : Sg) = sg := by
 obtain ⟨r, d, st, l⟩ := sg
 simp only at h
 subst h
 rfl
theorem reachN {s lo : List Int} {t : Sg} (h : t.reached = true) (hs : t.stack ≠ s) : reachP s lo t = none := by
 unfold reachP
 rw [if_pos h, if_neg hs]
theorem reachY {s lo : List Int} {t : Sg} (h : t.reached = true) (hs : t.stack = s) : reachP s lo t = some ⟨true, (meetTo t.locals lo t.due 8).2, t.stack, (meetTo t.locals lo t.due 8).1⟩ := by
 unfold reachP
 rw [if_pos h, if_pos hs]
theorem reachF {s lo : List Int} {t : Sg} (h : t.reached = false) : reachP s lo t = some ⟨true, true, s, lo⟩ := by
 unfold reachP
 rw [if_neg (by rw [h]; decide)]
structure J27 where
 v : Value
 lb : Nat
 m0 : Int
 m1 : Int
 m2 : Int
 m3 : Int
 m4 : Int
 m5 : Int
 m6 : Int
 m7 : Int

set_option maxHeartbeats 8000000 in
set_option maxRecDepth 100000 in
theorem walkQR (words s0 s1 s2 s3 s4 s5 s6 s7 g0 g1 g2 g3 g4 g5 g6 g7 t0 t1 t2 t3 ma mb sa na sb nb : Int) (both : Bool) (h0 h1 h2 h3 h4 : Value) (hand c : Nat) (hh : hand < 5) (A : Option Addr) (L : List S42) (w : World) (hH : [h0, h1, h2, h3, h4].getD hand (.slice none 0 0) = .slice A L.length c) (hL : Kd.C k42 w A L.length L) (hlc : L.length ≤ c) (hws : (runP [s0, s1, s2, s3, s4, s5, s6, s7]).2 = true) (hwg : (runP [g0, g1, g2, g3, g4, g5, g6, g7]).2 = true) :
  Calls Try.prog 13 #[.agg #[.int .i64 words, .int .i64 s0, .int .i64 s1, .int .i64 s2, .int .i64 s3, .int .i64 s4, .int .i64 s5, .int .i64 s6, .int .i64 s7, .int .i64 g0, .int .i64 g1, .int .i64 g2, .int .i64 g3, .int .i64 g4, .int .i64 g5, .int .i64 g6, .int .i64 g7, .int .i64 t0, .int .i64 t1, .int .i64 t2, .int .i64 t3, .int .i64 ma, .int .i64 mb, .int .i64 sa, .int .i64 na, .int .i64 sb, .int .i64 nb, .bool both, h0, h1, h2, h3, h4], .int .i64 (hand : Int)] w fun e w' => (∃ v, e = .returned (.tuple #[v, .int .i64 (walkP [s0, s1, s2, s3, s4, s5, s6, s7] [g0, g1, g2, g3, g4, g5, g6, g7] [t0, t1, t2, t3] ma mb hand L)])) ∧ Below w.heap.size w w' := by
 have HI := Aside0.mk (insAt_of hL)
 have HC := Aside0.mk (heap_alloc_new w (.cells #[.int .i64 words, .int .i64 s0, .int .i64 s1, .int .i64 s2, .int .i64 s3, .int .i64 s4, .int .i64 s5, .int .i64 s6, .int .i64 s7, .int .i64 g0, .int .i64 g1, .int .i64 g2, .int .i64 g3, .int .i64 g4, .int .i64 g5, .int .i64 g6, .int .i64 g7, .int .i64 t0, .int .i64 t1, .int .i64 t2, .int .i64 t3, .int .i64 ma, .int .i64 mb, .int .i64 sa, .int .i64 na, .int .i64 sb, .int .i64 nb, .bool both, h0, h1, h2, h3, h4] 31))
 have hHH : (w.alloc (.cells #[.int .i64 words, .int .i64 s0, .int .i64 s1, .int .i64 s2, .int .i64 s3, .int .i64 s4, .int .i64 s5, .int .i64 s6, .int .i64 s7, .int .i64 g0, .int .i64 g1, .int .i64 g2, .int .i64 g3, .int .i64 g4, .int .i64 g5, .int .i64 g6, .int .i64 g7, .int .i64 t0, .int .i64 t1, .int .i64 t2, .int .i64 t3, .int .i64 ma, .int .i64 mb, .int .i64 sa, .int .i64 na, .int .i64 sb, .int .i64 nb, .bool both, h0, h1, h2, h3, h4] 31)).cell? ⟨w.heap.size, 28 + hand, none⟩ = some (.slice A L.length c) := by
  rw [← hH]
  have hd : hand = 0 ∨ hand = 1 ∨ hand = 2 ∨ hand = 3 ∨ hand = 4 := by omega
  rcases hd with rfl | rfl | rfl | rfl | rfl
  ·exact (blk_cell HC.out 28).trans rfl
  ·exact (blk_cell HC.out 29).trans rfl
  ·exact (blk_cell HC.out 30).trans rfl
  ·exact (blk_cell HC.out 31).trans rfl
  exact (blk_cell HC.out 32).trans rfl
 have HB := Aside0.mk (below_alloc (Below.refl w.heap.size w) (.cells #[.int .i64 words, .int .i64 s0, .int .i64 s1, .int .i64 s2, .int .i64 s3, .int .i64 s4, .int .i64 s5, .int .i64 s6, .int .i64 s7, .int .i64 g0, .int .i64 g1, .int .i64 g2, .int .i64 g3, .int .i64 g4, .int .i64 g5, .int .i64 g6, .int .i64 g7, .int .i64 t0, .int .i64 t1, .int .i64 t2, .int .i64 t3, .int .i64 ma, .int .i64 mb, .int .i64 sa, .int .i64 na, .int .i64 sb, .int .i64 nb, .bool both, h0, h1, h2, h3, h4] 31))
 obtain ⟨R, hR⟩ : ∃ R, R = walkP [s0, s1, s2, s3, s4, s5, s6, s7] [g0, g1, g2, g3, g4, g5, g6, g7] [t0, t1, t2, t3] ma mb hand L := ⟨_, rfl⟩
 rw [← hR]
 have HR := Aside0.mk hR
 have HHD := Aside0.mk hh
 have HWW := Aside0.mk (And.intro hws hwg)
 clear hL hR hlc hH hws hwg
 have q1 : 0 ≤ (hand : Int) ∧ (hand : Int) < 5 := by omega
 go_enter Try.func13, Try.ntmps13
 by_cases e1 : L.length < 1
 ·have HRB := Aside0.mk (HR.out.trans (show _ = (0 : Int) by unfold walkP; rw [if_pos e1]))
  have d1 : ((L.length : Int) == 0) = true := beq_iff_eq.mpr (by omega)
  go_wp2
  go_ret2
  exact ⟨⟨_, by have := HRB.out; subst this; rfl⟩, HB.out⟩
 have HR1 := Aside0.mk (HR.out.trans (show _ = (if 512 < L.length then (512 : Int) else walkIn [s0, s1, s2, s3, s4, s5, s6, s7] [g0, g1, g2, g3, g4, g5, g6, g7] [t0, t1, t2, t3] ma mb hand L) by unfold walkP; rw [if_neg e1]))
 have d1 : ((L.length : Int) == 0) = false := beq_eq_false_iff_ne.mpr (by omega)
 by_cases e2 : 512 < L.length
 ·have HRB := Aside0.mk (HR1.out.trans (if_pos e2))
  have d3 : decide ((L.length : Int) > 512) = true := decide_eq_true (by omega)
  have d4 : decide (512 < L.length) = true := decide_eq_true e2
  go_wp2
  go_ret2
  exact ⟨⟨_, by have := HRB.out; subst this; rfl⟩, HB.out⟩
 have HR2 := Aside0.mk (HR1.out.trans (if_neg e2))
 have d3 : decide ((L.length : Int) > 512) = false := decide_eq_false (by omega)
 have d4 : decide (512 < L.length) = false := decide_eq_false e2
 have HN5 := Aside0.mk (show 1 ≤ L.length ∧ L.length ≤ 512 by omega)
 clear e1 e2 HR1
 go_wp2
 clear d1 d3 d4 hHH
 go_loopg [7, 8] hand (fun kq v7 v8 w' => ∃ i : Nat, v7 = .int .i64 ((2 : Int) ^ i) ∧ v8 = .int .i64 (i : Int) ∧ Aside0 (kq + i = hand) ∧ Aside0 (w'.heap[w.heap.size]? = some (.cells #[.int .i64 words, .int .i64 s0, .int .i64 s1, .int .i64 s2, .int .i64 s3, .int .i64 s4, .int .i64 s5, .int .i64 s6, .int .i64 s7, .int .i64 g0, .int .i64 g1, .int .i64 g2, .int .i64 g3, .int .i64 g4, .int .i64 g5, .int .i64 g6, .int .i64 g7, .int .i64 t0, .int .i64 t1, .int .i64 t2, .int .i64 t3, .int .i64 ma, .int .i64 mb, .int .i64 sa, .int .i64 na, .int .i64 sb, .int .i64 nb, .bool both, h0, h1, h2, h3, h4] 31 (0, 0))) ∧ Aside0 (Below w.heap.size w w'))
 case atStart => exact ⟨0, rfl, rfl, ⟨rfl⟩, HC, HB⟩
 case round =>
  clear HC HB
  obtain ⟨i, rfl, rfl, HJ, HC, HB⟩ := hrel
  by_cases hi : i < hand
  ·have d1 : decide ((i : Int) < (hand : Int)) = true := decide_eq_true (by omega)
   have d2 : decide (i < hand) = true := decide_eq_true hi
   have HWP := Aside0.mk (pow_wrap i (by omega))
   have hwp := HWP.out
   have HWR := Aside0.mk (show wrap64 ((i : Int) + 1) = ((i + 1 : Nat) : Int) by
    unfold wrap64
    omega)
   have hwr := HWR.out
   obtain ⟨k1_, rfl⟩ : ∃ k1_, gk = k1_ + 1 := ⟨gk - 1, by have := HJ.out; omega⟩
   clear hi
   go_wp2
   go_roundg k1_
   case measure => omega
   case rel => exact ⟨i + 1, (by first | rfl | (rw [HWP.out])), (by first | rfl | (rw [HWR.out])), ⟨by have := HJ.out; omega⟩, HC, HB⟩
  have d1 : decide ((i : Int) < (hand : Int)) = false := decide_eq_false (by omega)
  have d2 : decide (i < hand) = false := decide_eq_false hi
  have hji : i = hand := by have := HJ.out; omega
  obtain ⟨b, hb⟩ : ∃ b, b = (2 : Int) ^ hand := ⟨_, rfl⟩
  rw [hji, ← hb]
  rw [hji] at d1 d2
  have HBE := Aside0.mk hb
  have hb0 : ¬ b = 0 := by rw [hb]; exact pow_ne hand hh
  clear hi hji HJ hb
  go_wp2
  clear d1 d2
  go_loopg [9] L.length (fun kq v9 w' => ∃ i : Nat, v9 = .int .i64 (i : Int) ∧ Aside0 (kq + i = L.length) ∧ Aside0 (∀ j, j < i → insOkB [s0, s1, s2, s3, s4, s5, s6, s7] [g0, g1, g2, g3, g4, g5, g6, g7] [t0, t1, t2, t3] L.length hand (L.getD j z42) = true) ∧ Aside0 (w'.heap[w.heap.size]? = some (.cells #[.int .i64 words, .int .i64 s0, .int .i64 s1, .int .i64 s2, .int .i64 s3, .int .i64 s4, .int .i64 s5, .int .i64 s6, .int .i64 s7, .int .i64 g0, .int .i64 g1, .int .i64 g2, .int .i64 g3, .int .i64 g4, .int .i64 g5, .int .i64 g6, .int .i64 g7, .int .i64 t0, .int .i64 t1, .int .i64 t2, .int .i64 t3, .int .i64 ma, .int .i64 mb, .int .i64 sa, .int .i64 na, .int .i64 sb, .int .i64 nb, .bool both, h0, h1, h2, h3, h4] 31 (0, 0))) ∧ Aside0 (Below w.heap.size w w'))
  case atStart => exact ⟨0, rfl, ⟨rfl⟩, ⟨fun j hj => by omega⟩, HC, HB⟩
  case round =>
   clear HB HC
   obtain ⟨i, rfl, HJ, HQ, HC, HB⟩ := hrel
   by_cases hi : i < L.length
   ·have d1 : decide ((i : Int) < (L.length : Int)) = true := decide_eq_true (by omega)
    have d2 : decide (i < L.length) = true := decide_eq_true hi
    have q2 : 0 ≤ (i : Int) ∧ (i : Int) < (L.length : Int) := ⟨Int.natCast_nonneg i, Int.ofNat_lt.mpr hi⟩
    obtain ⟨ad, hA, hab, hi0, hi1⟩ := (HI.out.move HB.out.block) i hi
    subst hA
    have HIL := Aside0.mk hi
    obtain ⟨x, hx⟩ : ∃ x, x = L.getD i z42 := ⟨_, rfl⟩
    rw [← hx] at hi0 hi1
    have HXE := Aside0.mk hx
    have HWR := Aside0.mk (show wrap64 ((i : Int) + 1) = ((i + 1 : Nat) : Int) by
     have := HN5.out
     unfold wrap64
     omega)
    clear hx hab hi
    obtain ⟨k1_, rfl⟩ : ∃ k1_, gk = k1_ + 1 := ⟨gk - 1, by have := HJ.out; have := HIL.out; omega⟩
    go_upto_region 14 with (fail)
    clear d1 d2
    by_cases c1 : x.f0 < 0
    ·have gg1 : decide (x.f0 < 0) = true := decide_eq_true c1
     have HRB := Aside0.mk (HR2.out.trans (walkIn_bad (bad_first HIL.out (by rw [← HXE.out]; unfold insOkB; rw [decide_eq_false (show ¬ 0 ≤ x.f0 by omega), Bool.false_and]) HQ.out)))
     clear c1
     go_big_quiet (fail)
     go_wp2
     go_ret2
     exact ⟨⟨_, by have := HRB.out; subst this; rfl⟩, pw_below_drewN HB.out _⟩
    have gg1 : decide (x.f0 < 0) = false := decide_eq_false c1
    by_cases c2 : x.f0 ≥ 69
    ·have gg2 : decide (x.f0 ≥ 69) = true := decide_eq_true c2
     have HRB := Aside0.mk (HR2.out.trans (walkIn_bad (bad_first HIL.out (by rw [← HXE.out]; unfold insOkB; rw [decide_eq_false (show ¬ x.f0 < 69 by omega), Bool.false_and, Bool.and_false]) HQ.out)))
     clear c1 c2
     go_big_quiet (fail)
     go_wp2
     go_ret2
     exact ⟨⟨_, by have := HRB.out; subst this; rfl⟩, pw_below_drewN HB.out _⟩
    have gg2 : decide (x.f0 ≥ 69) = false := decide_eq_false c2
    obtain ⟨op, hop⟩ : ∃ op : Nat, x.f0 = (op : Int) := ⟨x.f0.toNat, by omega⟩
    have hlt : op < 69 := by omega
    have HOP := Aside0.mk hop
    rw [hop] at hi0 gg1 gg2
    have HTB := Aside0.mk (table_ok op hlt).2.1
    have HLH := Aside0.mk (bit_at (tabH op) (tabH_range op hlt).1 (tabH_range op hlt).2 hand HHD.out)
    have HIK := Aside0.mk (show insOkB [s0, s1, s2, s3, s4, s5, s6, s7] [g0, g1, g2, g3, g4, g5, g6, g7] [t0, t1, t2, t3] L.length hand (L.getD i z42) = (handB (tabH op) hand && mayB [s0, s1, s2, s3, s4, s5, s6, s7] [g0, g1, g2, g3, g4, g5, g6, g7] [t0, t1, t2, t3] L.length (tabA op) x.f1) by
     rw [← HXE.out]
     unfold insOkB
     rw [HOP.out, decide_eq_true (show (0 : Int) ≤ (op : Int) by omega), decide_eq_true (show (op : Int) < 69 by omega), Bool.true_and, Bool.true_and, Int.toNat_natCast])
    have HMY := Aside0.mk (show ∀ W, Calls Try.prog 29 #[.agg #[.int .i64 words, .int .i64 s0, .int .i64 s1, .int .i64 s2, .int .i64 s3, .int .i64 s4, .int .i64 s5, .int .i64 s6, .int .i64 s7, .int .i64 g0, .int .i64 g1, .int .i64 g2, .int .i64 g3, .int .i64 g4, .int .i64 g5, .int .i64 g6, .int .i64 g7, .int .i64 t0, .int .i64 t1, .int .i64 t2, .int .i64 t3, .int .i64 ma, .int .i64 mb, .int .i64 sa, .int .i64 na, .int .i64 sb, .int .i64 nb, .bool both, h0, h1, h2, h3, h4], .agg #[.int .i64 (op : Int), .int .i64 x.f1], .int .i64 (L.length : Int)] W fun e w' => e = .returned (.bool (mayB [s0, s1, s2, s3, s4, s5, s6, s7] [g0, g1, g2, g3, g4, g5, g6, g7] [t0, t1, t2, t3] L.length (tabA op) x.f1)) ∧ Below W.heap.size W w' from fun W => mayQR words s0 s1 s2 s3 s4 s5 s6 s7 g0 g1 g2 g3 g4 g5 g6 g7 t0 t1 t2 t3 ma mb sa na sb nb both h0 h1 h2 h3 h4 op L.length x.f1 W hlt HWW.out.1 HWW.out.2)
    generalize mayB [s0, s1, s2, s3, s4, s5, s6, s7] [g0, g1, g2, g3, g4, g5, g6, g7] [t0, t1, t2, t3] L.length (tabA op) x.f1 = mz at HIK HMY
    generalize handB (tabH op) hand = hz at HIK HLH
    rw [← HBE.out] at HLH
    have HSK : Aside0 (∀ W, Below wr.heap.size wr W → W.heap[w.heap.size]? = some (.cells #[.int .i64 words, .int .i64 s0, .int .i64 s1, .int .i64 s2, .int .i64 s3, .int .i64 s4, .int .i64 s5, .int .i64 s6, .int .i64 s7, .int .i64 g0, .int .i64 g1, .int .i64 g2, .int .i64 g3, .int .i64 g4, .int .i64 g5, .int .i64 g6, .int .i64 g7, .int .i64 t0, .int .i64 t1, .int .i64 t2, .int .i64 t3, .int .i64 ma, .int .i64 mb, .int .i64 sa, .int .i64 na, .int .i64 sb, .int .i64 nb, .bool both, h0, h1, h2, h3, h4] 31 (0, 0)) ∧ W.cell? (ad.add (i * 2)) = some (Value.int .i64 (op : Int)) ∧ W.cell? ⟨(ad.add (i * 2)).block, (ad.add (i * 2)).off + 1, none⟩ = some (Value.int .i64 x.f1)) := ⟨fun W h => ⟨(h.block _ (blk_lt HC.out)).trans HC.out, pw_cell_below h hi0, pw_cell_below h hi1⟩⟩
    clear c1 c2 hop hlt
    generalize tabH op = th at HTB HLH
    have gg3 := HLH.out.1
    have gg4 := HLH.out.2
    rcases hz with _ | _
    ·simp only [Bool.not_false] at gg3 gg4
     have HRB := Aside0.mk (HR2.out.trans (walkIn_bad (bad_first HIL.out (by rw [HIK.out, Bool.false_and]) HQ.out)))
     refine start_ (n := 37) (S := fun w' => w'.heap[w.heap.size]? = some (.cells #[.int .i64 words, .int .i64 s0, .int .i64 s1, .int .i64 s2, .int .i64 s3, .int .i64 s4, .int .i64 s5, .int .i64 s6, .int .i64 s7, .int .i64 g0, .int .i64 g1, .int .i64 g2, .int .i64 g3, .int .i64 g4, .int .i64 g5, .int .i64 g6, .int .i64 g7, .int .i64 t0, .int .i64 t1, .int .i64 t2, .int .i64 t3, .int .i64 ma, .int .i64 mb, .int .i64 sa, .int .i64 na, .int .i64 sb, .int .i64 nb, .bool both, h0, h1, h2, h3, h4] 31 (0, 0)) ∧ w'.cell? (ad.add (i * 2)) = some (.int .i64 (op : Int)) ∧ w'.cell? ⟨(ad.add (i * 2)).block, (ad.add (i * 2)).off + 1, none⟩ = some (.int .i64 x.f1) ∧ Below wr.heap.size wr w') (ds := []) #[false, false, false, false, false, false, false, false, false, false, false, false, false, false, false, false, false, false, false, false, false, false, false, false, false, false, false, false, false, false, false, false, false, false, false, false, false] (by kernel_rfl) rfl rfl ⟨(HSK.out _ (below_drew (Below.refl wr.heap.size wr))).1, (HSK.out _ (below_drew (Below.refl wr.heap.size wr))).2.1, (HSK.out _ (below_drew (Below.refl wr.heap.size wr))).2.2, (below_drew (Below.refl wr.heap.size wr))⟩ (fun hHeld => ?_)
     refine pure_ (i := 0) (N := some 42) (v := ?_) (a' := ?_) #[true, false, false, false, false, false, false, false, false, false, false, false, false, false, false, false, false, false, false, false, false, false, false, false, false, false, false, false, false, false, false, false, false, false, false, false, false] rfl rfl (by kernel_rfl) (fun _ _ _ h => h) (Or.inl ⟨by rfl, ?_⟩) ?_ ?_
     rotate_left
     ·intro w'
      go_simp
      with_reducible rfl
     rotate_left
     ·simp only [Act.put, List.setIfInBounds_toArray, List.set_cons_zero, List.set_cons_succ, i64_w]
      rfl
     refine pure_ (i := 1) (N := some 43) (v := ?_) (a' := ?_) #[true, true, false, false, false, false, false, false, false, false, false, false, false, false, false, false, false, false, false, false, false, false, false, false, false, false, false, false, false, false, false, false, false, false, false, false, false] rfl rfl (by kernel_rfl) (fun _ _ _ h => h) (Or.inl ⟨by rfl, ?_⟩) ?_ ?_
     rotate_left
     ·intro w'
      go_simp
      with_reducible rfl
     rotate_left
     ·simp only [Act.put, List.setIfInBounds_toArray, List.set_cons_zero, List.set_cons_succ, i64_w]
      rfl
     refine pure_ (i := 2) (N := some 44) (v := ?_) (a' := ?_) #[true, true, true, false, false, false, false, false, false, false, false, false, false, false, false, false, false, false, false, false, false, false, false, false, false, false, false, false, false, false, false, false, false, false, false, false, false] rfl rfl (by kernel_rfl) (fun _ _ _ h => h) (Or.inl ⟨by rfl, ?_⟩) ?_ ?_
     rotate_left
     ·intro w'
      go_simp
      with_reducible rfl
     rotate_left
     ·simp only [Act.put, List.setIfInBounds_toArray, List.set_cons_zero, List.set_cons_succ, i64_w]
      rfl
     refine pure_ (i := 3) (N := some 45) (v := ?_) (a' := ?_) #[true, true, true, true, false, false, false, false, false, false, false, false, false, false, false, false, false, false, false, false, false, false, false, false, false, false, false, false, false, false, false, false, false, false, false, false, false] rfl rfl (by kernel_rfl) (fun _ _ _ h => h) (Or.inl ⟨by rfl, ?_⟩) ?_ ?_
     rotate_left
     ·intro w'
      go_simp
      with_reducible rfl
     rotate_left
     ·simp only [Act.put, List.setIfInBounds_toArray, List.set_cons_zero, List.set_cons_succ, i64_w]
      rfl
     refine take_ (i := 4) (N := some 46) (v := ?_) (a' := ?_) #[true, true, true, true, true, false, false, false, false, false, false, false, false, false, false, false, false, false, false, false, false, false, false, false, false, false, false, false, false, false, false, false, false, false, false, false, false] rfl rfl (by kernel_rfl) (fun _ _ _ h => h) (Or.inl ⟨by rfl, ?_⟩) hHeld ?_ ?_
     rotate_left
     ·rintro w' ⟨s0, s1, s2, s3⟩
      go_simp
      with_reducible rfl
     rotate_left
     ·simp only [Act.put, List.setIfInBounds_toArray, List.set_cons_zero, List.set_cons_succ, i64_w]
      rfl
     refine pure_ (i := 5) (N := some 47) (v := ?_) (a' := ?_) #[true, true, true, true, true, true, false, false, false, false, false, false, false, false, false, false, false, false, false, false, false, false, false, false, false, false, false, false, false, false, false, false, false, false, false, false, false] rfl rfl (by kernel_rfl) (fun _ _ _ h => h) (Or.inl ⟨by rfl, ?_⟩) ?_ ?_
     rotate_left
     ·intro w'
      go_simp
      with_reducible rfl
     rotate_left
     ·simp only [Act.put, List.setIfInBounds_toArray, List.set_cons_zero, List.set_cons_succ, i64_w]
      rfl
     refine pure_ (i := 6) (N := some 48) (v := ?_) (a' := ?_) #[true, true, true, true, true, true, true, false, false, false, false, false, false, false, false, false, false, false, false, false, false, false, false, false, false, false, false, false, false, false, false, false, false, false, false, false, false] rfl rfl (by kernel_rfl) (fun _ _ _ h => h) (Or.inl ⟨by rfl, ?_⟩) ?_ ?_
     rotate_left
     ·intro w'
      go_simp
      with_reducible rfl
     rotate_left
     ·simp only [Act.put, List.setIfInBounds_toArray, List.set_cons_zero, List.set_cons_succ, i64_w]
      rfl
     refine pure_ (i := 7) (N := some 49) (v := ?_) (a' := ?_) #[true, true, true, true, true, true, true, true, false, false, false, false, false, false, false, false, false, false, false, false, false, false, false, false, false, false, false, false, false, false, false, false, false, false, false, false, false] rfl rfl (by kernel_rfl) (fun _ _ _ h => h) (Or.inl ⟨by rfl, ?_⟩) ?_ ?_
     rotate_left
     ·intro w'
      go_simp
      with_reducible rfl
     rotate_left
     ·simp only [Act.put, List.setIfInBounds_toArray, List.set_cons_zero, List.set_cons_succ, i64_w]
      rfl
     refine pure_ (i := 8) (N := some 50) (v := ?_) (a' := ?_) #[true, true, true, true, true, true, true, true, true, false, false, false, false, false, false, false, false, false, false, false, false, false, false, false, false, false, false, false, false, false, false, false, false, false, false, false, false] rfl rfl (by kernel_rfl) (fun _ _ _ h => h) (Or.inl ⟨by rfl, ?_⟩) ?_ ?_
     rotate_left
     ·intro w'
      go_simp
      with_reducible rfl
     rotate_left
     ·simp only [Act.put, List.setIfInBounds_toArray, List.set_cons_zero, List.set_cons_succ, i64_w]
      rfl
     refine pure_ (i := 9) (N := some 51) (v := ?_) (a' := ?_) #[true, true, true, true, true, true, true, true, true, true, false, false, false, false, false, false, false, false, false, false, false, false, false, false, false, false, false, false, false, false, false, false, false, false, false, false, false] rfl rfl (by kernel_rfl) (fun _ _ _ h => h) (Or.inl ⟨by rfl, ?_⟩) ?_ ?_
     rotate_left
     ·intro w'
      go_simp
      with_reducible rfl
     rotate_left
     ·simp only [Act.put, List.setIfInBounds_toArray, List.set_cons_zero, List.set_cons_succ, i64_w]
      rfl
     refine pure_ (i := 10) (N := some 52) (v := ?_) (a' := ?_) #[true, true, true, true, true, true, true, true, true, true, true, false, false, false, false, false, false, false, false, false, false, false, false, false, false, false, false, false, false, false, false, false, false, false, false, false, false] rfl rfl (by kernel_rfl) (fun _ _ _ h => h) (Or.inl ⟨by rfl, ?_⟩) ?_ ?_
     rotate_left
     ·intro w'
      go_simp
      with_reducible rfl
     rotate_left
     ·simp only [Act.put, List.setIfInBounds_toArray, List.set_cons_zero, List.set_cons_succ, i64_w]
      rfl
     refine take_ (i := 11) (N := some 53) (v := ?_) (a' := ?_) #[true, true, true, true, true, true, true, true, true, true, true, true, false, false, false, false, false, false, false, false, false, false, false, false, false, false, false, false, false, false, false, false, false, false, false, false, false] rfl rfl (by kernel_rfl) (fun _ _ _ h => h) (Or.inl ⟨by rfl, ?_⟩) hHeld ?_ ?_
     rotate_left
     ·rintro w' ⟨s0, s1, s2, s3⟩
      go_simp
      with_reducible rfl
     rotate_left
     ·simp only [Act.put, List.setIfInBounds_toArray, List.set_cons_zero, List.set_cons_succ, i64_w]
      rfl
     refine pure_ (i := 12) (N := some 54) (v := ?_) (a' := ?_) #[true, true, true, true, true, true, true, true, true, true, true, true, true, false, false, false, false, false, false, false, false, false, false, false, false, false, false, false, false, false, false, false, false, false, false, false, false] rfl rfl (by kernel_rfl) (fun _ _ _ h => h) (Or.inl ⟨by rfl, ?_⟩) ?_ ?_
     rotate_left
     ·intro w'
      go_simp
      with_reducible rfl
     rotate_left
     ·simp only [Act.put, List.setIfInBounds_toArray, List.set_cons_zero, List.set_cons_succ, i64_w]
      rfl
     refine pure_ (i := 13) (N := some 55) (v := ?_) (a' := ?_) #[true, true, true, true, true, true, true, true, true, true, true, true, true, true, false, false, false, false, false, false, false, false, false, false, false, false, false, false, false, false, false, false, false, false, false, false, false] rfl rfl (by kernel_rfl) (fun _ _ _ h => h) (Or.inl ⟨by rfl, ?_⟩) ?_ ?_
     rotate_left
     ·intro w'
      go_simp
      with_reducible rfl
     rotate_left
     ·simp only [Act.put, List.setIfInBounds_toArray, List.set_cons_zero, List.set_cons_succ, i64_w]
      rfl
     refine pure_ (i := 14) (N := some 56) (v := ?_) (a' := ?_) #[true, true, true, true, true, true, true, true, true, true, true, true, true, true, true, false, false, false, false, false, false, false, false, false, false, false, false, false, false, false, false, false, false, false, false, false, false] rfl rfl (by kernel_rfl) (fun _ _ _ h => h) (Or.inl ⟨by rfl, ?_⟩) ?_ ?_
     rotate_left
     ·intro w'
      go_simp
      with_reducible rfl
     rotate_left
     ·simp only [Act.put, List.setIfInBounds_toArray, List.set_cons_zero, List.set_cons_succ, i64_w]
      rfl
     refine pure_ (i := 15) (N := some 57) (v := ?_) (a' := ?_) #[true, true, true, true, true, true, true, true, true, true, true, true, true, true, true, true, false, false, false, false, false, false, false, false, false, false, false, false, false, false, false, false, false, false, false, false, false] rfl rfl (by kernel_rfl) (fun _ _ _ h => h) (Or.inl ⟨by rfl, ?_⟩) ?_ ?_
     rotate_left
     ·intro w'
      go_simp
      with_reducible rfl
     rotate_left
     ·simp only [Act.put, List.setIfInBounds_toArray, List.set_cons_zero, List.set_cons_succ, i64_w]
      rfl
     refine pure_ (i := 16) (N := some 58) (v := ?_) (a' := ?_) #[true, true, true, true, true, true, true, true, true, true, true, true, true, true, true, true, true, false, false, false, false, false, false, false, false, false, false, false, false, false, false, false, false, false, false, false, false] rfl rfl (by kernel_rfl) (fun _ _ _ h => h) (Or.inl ⟨by rfl, ?_⟩) ?_ ?_
     rotate_left
     ·intro w'
      go_simp
      with_reducible rfl
     rotate_left
     ·simp only [Act.put, List.setIfInBounds_toArray, List.set_cons_zero, List.set_cons_succ, i64_w]
      rfl
     refine pure_ (i := 17) (N := some 59) (v := ?_) (a' := ?_) #[true, true, true, true, true, true, true, true, true, true, true, true, true, true, true, true, true, true, false, false, false, false, false, false, false, false, false, false, false, false, false, false, false, false, false, false, false] rfl rfl (by kernel_rfl) (fun _ _ _ h => h) (Or.inl ⟨by rfl, ?_⟩) ?_ ?_
     rotate_left
     ·intro w'
      go_simp
      with_reducible rfl
     rotate_left
     ·simp only [Act.put, List.setIfInBounds_toArray, List.set_cons_zero, List.set_cons_succ, i64_w]
      rfl
     refine pure_ (i := 18) (N := some 60) (v := ?_) (a' := ?_) #[true, true, true, true, true, true, true, true, true, true, true, true, true, true, true, true, true, true, true, false, false, false, false, false, false, false, false, false, false, false, false, false, false, false, false, false, false] rfl rfl (by kernel_rfl) (fun _ _ _ h => h) (Or.inl ⟨by rfl, ?_⟩) ?_ ?_
     rotate_left
     ·intro w'
      go_simp
      with_reducible rfl
     rotate_left
     ·simp only [Act.put, List.setIfInBounds_toArray, List.set_cons_zero, List.set_cons_succ, i64_w]
      rfl
     refine pure_ (i := 21) (N := some 63) (v := ?_) (a' := ?_) #[true, true, true, true, true, true, true, true, true, true, true, true, true, true, true, true, true, true, true, false, false, true, false, false, false, false, false, false, false, false, false, false, false, false, false, false, false] rfl rfl (by kernel_rfl) (fun _ _ _ h => h) (Or.inl ⟨by rfl, ?_⟩) ?_ ?_
     rotate_left
     ·intro w'
      go_simp
      with_reducible rfl
     rotate_left
     ·simp only [Act.put, List.setIfInBounds_toArray, List.set_cons_zero, List.set_cons_succ, i64_w]
      rfl
     refine take_ (i := 19) (N := some 61) (v := ?_) (a' := ?_) #[true, true, true, true, true, true, true, true, true, true, true, true, true, true, true, true, true, true, true, true, false, true, false, false, false, false, false, false, false, false, false, false, false, false, false, false, false] rfl rfl (by kernel_rfl) (fun _ _ _ h => h) (Or.inl ⟨by rfl, ?_⟩) hHeld ?_ ?_
     rotate_left
     ·rintro w' ⟨s0, s1, s2, s3⟩
      go_simp
      with_reducible rfl
     rotate_left
     ·simp only [Act.put, List.setIfInBounds_toArray, List.set_cons_zero, List.set_cons_succ, i64_w]
      rfl
     refine one_ (i := 20) (N := some 62) #[true, true, true, true, true, true, true, true, true, true, true, true, true, true, true, true, true, true, true, true, true, true, false, false, false, false, false, false, false, false, false, false, false, false, false, false, false] rfl rfl (by kernel_rfl) (by decide) (fun K hK => ?_)
     refine goes_ Try.func28 (by kernel_rfl) rfl #[.int .i64 (op : Int)] (by rfl) rfl rfl (by simp only [List.map_toArray, List.map_cons, List.map_nil]; rfl) ?_
     with_reducible refine ((sluiceref11_hands.calls 20 _ _ _ HTB.out)).mono ?_
     rintro e w3 ⟨rfl, ⟨nd3, rfl⟩⟩
     refine ⟨_, rfl, ?_⟩
     have HB3 := pw_below_drewN (below_drew (Below.refl wr.heap.size wr)) nd3
     refine hK.out _ _ ⟨(HSK.out _ HB3).1, (HSK.out _ HB3).2.1, (HSK.out _ HB3).2.2, HB3⟩ (fun hHeld => ?_)
     clear hK K
     refine norm_ (a' := ?_) ?_ ?_
     rotate_left
     ·show Act.put _ (some 62) _ = _
      simp only [Act.put, List.setIfInBounds_toArray, List.set_cons_zero, List.set_cons_succ, i64_w]
      rfl
     refine pure_ (i := 22) (N := some 64) (v := ?_) (a' := ?_) #[true, true, true, true, true, true, true, true, true, true, true, true, true, true, true, true, true, true, true, true, true, true, true, false, false, false, false, false, false, false, false, false, false, false, false, false, false] rfl rfl (by kernel_rfl) (fun _ _ _ h => h) (Or.inl ⟨by rfl, ?_⟩) ?_ ?_
     rotate_left
     ·intro w'
      go_simp
      with_reducible rfl
     rotate_left
     ·simp only [Act.put, List.setIfInBounds_toArray, List.set_cons_zero, List.set_cons_succ, i64_w]
      rfl
     refine pure_ (i := 23) (N := some 65) (v := ?_) (a' := ?_) #[true, true, true, true, true, true, true, true, true, true, true, true, true, true, true, true, true, true, true, true, true, true, true, true, false, false, false, false, false, false, false, false, false, false, false, false, false] rfl rfl (by kernel_rfl) (fun _ _ _ h => h) (Or.inl ⟨by rfl, ?_⟩) ?_ ?_
     rotate_left
     ·intro w'
      go_simp
      with_reducible rfl
     rotate_left
     ·simp only [Act.put, List.setIfInBounds_toArray, List.set_cons_zero, List.set_cons_succ, i64_w]
      rfl
     refine pure_ (i := 24) (N := some 66) (v := ?_) (a' := ?_) #[true, true, true, true, true, true, true, true, true, true, true, true, true, true, true, true, true, true, true, true, true, true, true, true, true, false, false, false, false, false, false, false, false, false, false, false, false] rfl rfl (by kernel_rfl) (fun _ _ _ h => h) (Or.inl ⟨by rfl, ?_⟩) ?_ ?_
     rotate_left
     ·intro w'
      go_simp
      with_reducible rfl
     rotate_left
     ·simp only [Act.put, List.setIfInBounds_toArray, List.set_cons_zero, List.set_cons_succ, i64_w]
      rfl
     refine pure_ (i := 25) (N := some 67) (v := ?_) (a' := ?_) #[true, true, true, true, true, true, true, true, true, true, true, true, true, true, true, true, true, true, true, true, true, true, true, true, true, true, false, false, false, false, false, false, false, false, false, false, false] rfl rfl (by kernel_rfl) (fun _ _ _ h => h) (Or.inl ⟨by rfl, ?_⟩) ?_ ?_
     rotate_left
     ·intro w'
      go_simp
      with_reducible rfl
     rotate_left
     ·simp only [Act.put, List.setIfInBounds_toArray, List.set_cons_zero, List.set_cons_succ, i64_w]
      rfl
     refine pure_ (i := 26) (N := some 68) (v := ?_) (a' := ?_) #[true, true, true, true, true, true, true, true, true, true, true, true, true, true, true, true, true, true, true, true, true, true, true, true, true, true, true, false, false, false, false, false, false, false, false, false, false] rfl rfl (by kernel_rfl) (fun _ _ _ h => h) (Or.inl ⟨by rfl, ?_⟩) ?_ ?_
     rotate_left
     ·intro w'
      go_simp
      with_reducible rfl
     rotate_left
     ·simp only [Act.put, List.setIfInBounds_toArray, List.set_cons_zero, List.set_cons_succ, i64_w]
      rfl
     refine pure_ (i := 27) (N := some 69) (v := undef) (a' := ?_) #[true, true, true, true, true, true, true, true, true, true, true, true, true, true, true, true, true, true, true, true, true, true, true, true, true, true, true, true, false, false, false, false, false, false, false, false, false] rfl rfl (by kernel_rfl) (fun _ _ _ h => h) (Or.inr ⟨by rfl, rfl⟩) ?_ ?_
     rotate_left
     ·simp only [Act.put, List.setIfInBounds_toArray, List.set_cons_zero, List.set_cons_succ, i64_w]
      rfl
     refine pure_ (i := 28) (N := some 70) (v := undef) (a' := ?_) #[true, true, true, true, true, true, true, true, true, true, true, true, true, true, true, true, true, true, true, true, true, true, true, true, true, true, true, true, true, false, false, false, false, false, false, false, false] rfl rfl (by kernel_rfl) (fun _ _ _ h => h) (Or.inr ⟨by rfl, rfl⟩) ?_ ?_
     rotate_left
     ·simp only [Act.put, List.setIfInBounds_toArray, List.set_cons_zero, List.set_cons_succ, i64_w]
      rfl
     refine pure_ (i := 29) (N := some 71) (v := undef) (a' := ?_) #[true, true, true, true, true, true, true, true, true, true, true, true, true, true, true, true, true, true, true, true, true, true, true, true, true, true, true, true, true, true, false, false, false, false, false, false, false] rfl rfl (by kernel_rfl) (fun _ _ _ h => h) (Or.inr ⟨by rfl, rfl⟩) ?_ ?_
     rotate_left
     ·simp only [Act.put, List.setIfInBounds_toArray, List.set_cons_zero, List.set_cons_succ, i64_w]
      rfl
     refine pure_ (i := 30) (N := some 72) (v := undef) (a' := ?_) #[true, true, true, true, true, true, true, true, true, true, true, true, true, true, true, true, true, true, true, true, true, true, true, true, true, true, true, true, true, true, true, false, false, false, false, false, false] rfl rfl (by kernel_rfl) (fun _ _ _ h => h) (Or.inr ⟨by rfl, rfl⟩) ?_ ?_
     rotate_left
     ·simp only [Act.put, List.setIfInBounds_toArray, List.set_cons_zero, List.set_cons_succ, i64_w]
      rfl
     refine pure_ (i := 31) (N := some 73) (v := undef) (a' := ?_) #[true, true, true, true, true, true, true, true, true, true, true, true, true, true, true, true, true, true, true, true, true, true, true, true, true, true, true, true, true, true, true, true, false, false, false, false, false] rfl rfl (by kernel_rfl) (fun _ _ _ h => h) (Or.inr ⟨by rfl, rfl⟩) ?_ ?_
     rotate_left
     ·simp only [Act.put, List.setIfInBounds_toArray, List.set_cons_zero, List.set_cons_succ, i64_w]
      rfl
     refine pure_ (i := 32) (N := some 74) (v := undef) (a' := ?_) #[true, true, true, true, true, true, true, true, true, true, true, true, true, true, true, true, true, true, true, true, true, true, true, true, true, true, true, true, true, true, true, true, true, false, false, false, false] rfl rfl (by kernel_rfl) (fun _ _ _ h => h) (Or.inr ⟨by rfl, rfl⟩) ?_ ?_
     rotate_left
     ·simp only [Act.put, List.setIfInBounds_toArray, List.set_cons_zero, List.set_cons_succ, i64_w]
      rfl
     refine pure_ (i := 33) (N := some 75) (v := undef) (a' := ?_) #[true, true, true, true, true, true, true, true, true, true, true, true, true, true, true, true, true, true, true, true, true, true, true, true, true, true, true, true, true, true, true, true, true, true, false, false, false] rfl rfl (by kernel_rfl) (fun _ _ _ h => h) (Or.inr ⟨by rfl, rfl⟩) ?_ ?_
     rotate_left
     ·simp only [Act.put, List.setIfInBounds_toArray, List.set_cons_zero, List.set_cons_succ, i64_w]
      rfl
     refine pure_ (i := 34) (N := some 76) (v := undef) (a' := ?_) #[true, true, true, true, true, true, true, true, true, true, true, true, true, true, true, true, true, true, true, true, true, true, true, true, true, true, true, true, true, true, true, true, true, true, true, false, false] rfl rfl (by kernel_rfl) (fun _ _ _ h => h) (Or.inr ⟨by rfl, rfl⟩) ?_ ?_
     rotate_left
     ·simp only [Act.put, List.setIfInBounds_toArray, List.set_cons_zero, List.set_cons_succ, i64_w]
      rfl
     refine pure_ (i := 35) (N := some 77) (v := undef) (a' := ?_) #[true, true, true, true, true, true, true, true, true, true, true, true, true, true, true, true, true, true, true, true, true, true, true, true, true, true, true, true, true, true, true, true, true, true, true, true, false] rfl rfl (by kernel_rfl) (fun _ _ _ h => h) (Or.inr ⟨by rfl, rfl⟩) ?_ ?_
     rotate_left
     ·simp only [Act.put, List.setIfInBounds_toArray, List.set_cons_zero, List.set_cons_succ, i64_w]
      rfl
     refine pure_ (i := 36) (N := some 78) (v := ?_) (a' := ?_) #[true, true, true, true, true, true, true, true, true, true, true, true, true, true, true, true, true, true, true, true, true, true, true, true, true, true, true, true, true, true, true, true, true, true, true, true, true] rfl rfl (by kernel_rfl) (fun _ _ _ h => h) (Or.inl ⟨by rfl, ?_⟩) ?_ ?_
     rotate_left
     ·intro w'
      go_simp
      with_reducible rfl
     rotate_left
     ·simp only [Act.put, List.setIfInBounds_toArray, List.set_cons_zero, List.set_cons_succ, i64_w]
      rfl
     refine done_ (by kernel_rfl) ?_
     go_wp2
     go_ret2
     exact ⟨⟨_, by have := HRB.out; subst this; rfl⟩, pw_below_drewN HB.out _⟩
    simp only [Bool.not_true] at gg3 gg4
    refine start_ (n := 37) (S := fun w' => w'.heap[w.heap.size]? = some (.cells #[.int .i64 words, .int .i64 s0, .int .i64 s1, .int .i64 s2, .int .i64 s3, .int .i64 s4, .int .i64 s5, .int .i64 s6, .int .i64 s7, .int .i64 g0, .int .i64 g1, .int .i64 g2, .int .i64 g3, .int .i64 g4, .int .i64 g5, .int .i64 g6, .int .i64 g7, .int .i64 t0, .int .i64 t1, .int .i64 t2, .int .i64 t3, .int .i64 ma, .int .i64 mb, .int .i64 sa, .int .i64 na, .int .i64 sb, .int .i64 nb, .bool both, h0, h1, h2, h3, h4] 31 (0, 0)) ∧ w'.cell? (ad.add (i * 2)) = some (.int .i64 (op : Int)) ∧ w'.cell? ⟨(ad.add (i * 2)).block, (ad.add (i * 2)).off + 1, none⟩ = some (.int .i64 x.f1) ∧ Below wr.heap.size wr w') (ds := []) #[false, false, false, false, false, false, false, false, false, false, false, false, false, false, false, false, false, false, false, false, false, false, false, false, false, false, false, false, false, false, false, false, false, false, false, false, false] (by kernel_rfl) rfl rfl ⟨(HSK.out _ (below_drew (Below.refl wr.heap.size wr))).1, (HSK.out _ (below_drew (Below.refl wr.heap.size wr))).2.1, (HSK.out _ (below_drew (Below.refl wr.heap.size wr))).2.2, (below_drew (Below.refl wr.heap.size wr))⟩ (fun hHeld => ?_)
    refine pure_ (i := 0) (N := some 42) (v := ?_) (a' := ?_) #[true, false, false, false, false, false, false, false, false, false, false, false, false, false, false, false, false, false, false, false, false, false, false, false, false, false, false, false, false, false, false, false, false, false, false, false, false] rfl rfl (by kernel_rfl) (fun _ _ _ h => h) (Or.inl ⟨by rfl, ?_⟩) ?_ ?_
    rotate_left
    ·intro w'
     go_simp
     with_reducible rfl
    rotate_left
    ·simp only [Act.put, List.setIfInBounds_toArray, List.set_cons_zero, List.set_cons_succ, i64_w]
     rfl
    refine pure_ (i := 1) (N := some 43) (v := ?_) (a' := ?_) #[true, true, false, false, false, false, false, false, false, false, false, false, false, false, false, false, false, false, false, false, false, false, false, false, false, false, false, false, false, false, false, false, false, false, false, false, false] rfl rfl (by kernel_rfl) (fun _ _ _ h => h) (Or.inl ⟨by rfl, ?_⟩) ?_ ?_
    rotate_left
    ·intro w'
     go_simp
     with_reducible rfl
    rotate_left
    ·simp only [Act.put, List.setIfInBounds_toArray, List.set_cons_zero, List.set_cons_succ, i64_w]
     rfl
    refine pure_ (i := 2) (N := some 44) (v := ?_) (a' := ?_) #[true, true, true, false, false, false, false, false, false, false, false, false, false, false, false, false, false, false, false, false, false, false, false, false, false, false, false, false, false, false, false, false, false, false, false, false, false] rfl rfl (by kernel_rfl) (fun _ _ _ h => h) (Or.inl ⟨by rfl, ?_⟩) ?_ ?_
    rotate_left
    ·intro w'
     go_simp
     with_reducible rfl
    rotate_left
    ·simp only [Act.put, List.setIfInBounds_toArray, List.set_cons_zero, List.set_cons_succ, i64_w]
     rfl
    refine pure_ (i := 3) (N := some 45) (v := ?_) (a' := ?_) #[true, true, true, true, false, false, false, false, false, false, false, false, false, false, false, false, false, false, false, false, false, false, false, false, false, false, false, false, false, false, false, false, false, false, false, false, false] rfl rfl (by kernel_rfl) (fun _ _ _ h => h) (Or.inl ⟨by rfl, ?_⟩) ?_ ?_
    rotate_left
    ·intro w'
     go_simp
     with_reducible rfl
    rotate_left
    ·simp only [Act.put, List.setIfInBounds_toArray, List.set_cons_zero, List.set_cons_succ, i64_w]
     rfl
    refine take_ (i := 4) (N := some 46) (v := ?_) (a' := ?_) #[true, true, true, true, true, false, false, false, false, false, false, false, false, false, false, false, false, false, false, false, false, false, false, false, false, false, false, false, false, false, false, false, false, false, false, false, false] rfl rfl (by kernel_rfl) (fun _ _ _ h => h) (Or.inl ⟨by rfl, ?_⟩) hHeld ?_ ?_
    rotate_left
    ·rintro w' ⟨s0, s1, s2, s3⟩
     go_simp
     with_reducible rfl
    rotate_left
    ·simp only [Act.put, List.setIfInBounds_toArray, List.set_cons_zero, List.set_cons_succ, i64_w]
     rfl
    refine pure_ (i := 5) (N := some 47) (v := ?_) (a' := ?_) #[true, true, true, true, true, true, false, false, false, false, false, false, false, false, false, false, false, false, false, false, false, false, false, false, false, false, false, false, false, false, false, false, false, false, false, false, false] rfl rfl (by kernel_rfl) (fun _ _ _ h => h) (Or.inl ⟨by rfl, ?_⟩) ?_ ?_
    rotate_left
    ·intro w'
     go_simp
     with_reducible rfl
    rotate_left
    ·simp only [Act.put, List.setIfInBounds_toArray, List.set_cons_zero, List.set_cons_succ, i64_w]
     rfl
    refine pure_ (i := 6) (N := some 48) (v := ?_) (a' := ?_) #[true, true, true, true, true, true, true, false, false, false, false, false, false, false, false, false, false, false, false, false, false, false, false, false, false, false, false, false, false, false, false, false, false, false, false, false, false] rfl rfl (by kernel_rfl) (fun _ _ _ h => h) (Or.inl ⟨by rfl, ?_⟩) ?_ ?_
    rotate_left
    ·intro w'
     go_simp
     with_reducible rfl
    rotate_left
    ·simp only [Act.put, List.setIfInBounds_toArray, List.set_cons_zero, List.set_cons_succ, i64_w]
     rfl
    refine pure_ (i := 7) (N := some 49) (v := ?_) (a' := ?_) #[true, true, true, true, true, true, true, true, false, false, false, false, false, false, false, false, false, false, false, false, false, false, false, false, false, false, false, false, false, false, false, false, false, false, false, false, false] rfl rfl (by kernel_rfl) (fun _ _ _ h => h) (Or.inl ⟨by rfl, ?_⟩) ?_ ?_
    rotate_left
    ·intro w'
     go_simp
     with_reducible rfl
    rotate_left
    ·simp only [Act.put, List.setIfInBounds_toArray, List.set_cons_zero, List.set_cons_succ, i64_w]
     rfl
    refine pure_ (i := 8) (N := some 50) (v := ?_) (a' := ?_) #[true, true, true, true, true, true, true, true, true, false, false, false, false, false, false, false, false, false, false, false, false, false, false, false, false, false, false, false, false, false, false, false, false, false, false, false, false] rfl rfl (by kernel_rfl) (fun _ _ _ h => h) (Or.inl ⟨by rfl, ?_⟩) ?_ ?_
    rotate_left
    ·intro w'
     go_simp
     with_reducible rfl
    rotate_left
    ·simp only [Act.put, List.setIfInBounds_toArray, List.set_cons_zero, List.set_cons_succ, i64_w]
     rfl
    refine pure_ (i := 9) (N := some 51) (v := ?_) (a' := ?_) #[true, true, true, true, true, true, true, true, true, true, false, false, false, false, false, false, false, false, false, false, false, false, false, false, false, false, false, false, false, false, false, false, false, false, false, false, false] rfl rfl (by kernel_rfl) (fun _ _ _ h => h) (Or.inl ⟨by rfl, ?_⟩) ?_ ?_
    rotate_left
    ·intro w'
     go_simp
     with_reducible rfl
    rotate_left
    ·simp only [Act.put, List.setIfInBounds_toArray, List.set_cons_zero, List.set_cons_succ, i64_w]
     rfl
    refine pure_ (i := 10) (N := some 52) (v := ?_) (a' := ?_) #[true, true, true, true, true, true, true, true, true, true, true, false, false, false, false, false, false, false, false, false, false, false, false, false, false, false, false, false, false, false, false, false, false, false, false, false, false] rfl rfl (by kernel_rfl) (fun _ _ _ h => h) (Or.inl ⟨by rfl, ?_⟩) ?_ ?_
    rotate_left
    ·intro w'
     go_simp
     with_reducible rfl
    rotate_left
    ·simp only [Act.put, List.setIfInBounds_toArray, List.set_cons_zero, List.set_cons_succ, i64_w]
     rfl
    refine take_ (i := 11) (N := some 53) (v := ?_) (a' := ?_) #[true, true, true, true, true, true, true, true, true, true, true, true, false, false, false, false, false, false, false, false, false, false, false, false, false, false, false, false, false, false, false, false, false, false, false, false, false] rfl rfl (by kernel_rfl) (fun _ _ _ h => h) (Or.inl ⟨by rfl, ?_⟩) hHeld ?_ ?_
    rotate_left
    ·rintro w' ⟨s0, s1, s2, s3⟩
     go_simp
     with_reducible rfl
    rotate_left
    ·simp only [Act.put, List.setIfInBounds_toArray, List.set_cons_zero, List.set_cons_succ, i64_w]
     rfl
    refine pure_ (i := 12) (N := some 54) (v := ?_) (a' := ?_) #[true, true, true, true, true, true, true, true, true, true, true, true, true, false, false, false, false, false, false, false, false, false, false, false, false, false, false, false, false, false, false, false, false, false, false, false, false] rfl rfl (by kernel_rfl) (fun _ _ _ h => h) (Or.inl ⟨by rfl, ?_⟩) ?_ ?_
    rotate_left
    ·intro w'
     go_simp
     with_reducible rfl
    rotate_left
    ·simp only [Act.put, List.setIfInBounds_toArray, List.set_cons_zero, List.set_cons_succ, i64_w]
     rfl
    refine pure_ (i := 13) (N := some 55) (v := ?_) (a' := ?_) #[true, true, true, true, true, true, true, true, true, true, true, true, true, true, false, false, false, false, false, false, false, false, false, false, false, false, false, false, false, false, false, false, false, false, false, false, false] rfl rfl (by kernel_rfl) (fun _ _ _ h => h) (Or.inl ⟨by rfl, ?_⟩) ?_ ?_
    rotate_left
    ·intro w'
     go_simp
     with_reducible rfl
    rotate_left
    ·simp only [Act.put, List.setIfInBounds_toArray, List.set_cons_zero, List.set_cons_succ, i64_w]
     rfl
    refine pure_ (i := 14) (N := some 56) (v := ?_) (a' := ?_) #[true, true, true, true, true, true, true, true, true, true, true, true, true, true, true, false, false, false, false, false, false, false, false, false, false, false, false, false, false, false, false, false, false, false, false, false, false] rfl rfl (by kernel_rfl) (fun _ _ _ h => h) (Or.inl ⟨by rfl, ?_⟩) ?_ ?_
    rotate_left
    ·intro w'
     go_simp
     with_reducible rfl
    rotate_left
    ·simp only [Act.put, List.setIfInBounds_toArray, List.set_cons_zero, List.set_cons_succ, i64_w]
     rfl
    refine pure_ (i := 15) (N := some 57) (v := ?_) (a' := ?_) #[true, true, true, true, true, true, true, true, true, true, true, true, true, true, true, true, false, false, false, false, false, false, false, false, false, false, false, false, false, false, false, false, false, false, false, false, false] rfl rfl (by kernel_rfl) (fun _ _ _ h => h) (Or.inl ⟨by rfl, ?_⟩) ?_ ?_
    rotate_left
    ·intro w'
     go_simp
     with_reducible rfl
    rotate_left
    ·simp only [Act.put, List.setIfInBounds_toArray, List.set_cons_zero, List.set_cons_succ, i64_w]
     rfl
    refine pure_ (i := 16) (N := some 58) (v := ?_) (a' := ?_) #[true, true, true, true, true, true, true, true, true, true, true, true, true, true, true, true, true, false, false, false, false, false, false, false, false, false, false, false, false, false, false, false, false, false, false, false, false] rfl rfl (by kernel_rfl) (fun _ _ _ h => h) (Or.inl ⟨by rfl, ?_⟩) ?_ ?_
    rotate_left
    ·intro w'
     go_simp
     with_reducible rfl
    rotate_left
    ·simp only [Act.put, List.setIfInBounds_toArray, List.set_cons_zero, List.set_cons_succ, i64_w]
     rfl
    refine pure_ (i := 17) (N := some 59) (v := ?_) (a' := ?_) #[true, true, true, true, true, true, true, true, true, true, true, true, true, true, true, true, true, true, false, false, false, false, false, false, false, false, false, false, false, false, false, false, false, false, false, false, false] rfl rfl (by kernel_rfl) (fun _ _ _ h => h) (Or.inl ⟨by rfl, ?_⟩) ?_ ?_
    rotate_left
    ·intro w'
     go_simp
     with_reducible rfl
    rotate_left
    ·simp only [Act.put, List.setIfInBounds_toArray, List.set_cons_zero, List.set_cons_succ, i64_w]
     rfl
    refine pure_ (i := 18) (N := some 60) (v := ?_) (a' := ?_) #[true, true, true, true, true, true, true, true, true, true, true, true, true, true, true, true, true, true, true, false, false, false, false, false, false, false, false, false, false, false, false, false, false, false, false, false, false] rfl rfl (by kernel_rfl) (fun _ _ _ h => h) (Or.inl ⟨by rfl, ?_⟩) ?_ ?_
    rotate_left
    ·intro w'
     go_simp
     with_reducible rfl
    rotate_left
    ·simp only [Act.put, List.setIfInBounds_toArray, List.set_cons_zero, List.set_cons_succ, i64_w]
     rfl
    refine pure_ (i := 21) (N := some 63) (v := ?_) (a' := ?_) #[true, true, true, true, true, true, true, true, true, true, true, true, true, true, true, true, true, true, true, false, false, true, false, false, false, false, false, false, false, false, false, false, false, false, false, false, false] rfl rfl (by kernel_rfl) (fun _ _ _ h => h) (Or.inl ⟨by rfl, ?_⟩) ?_ ?_
    rotate_left
    ·intro w'
     go_simp
     with_reducible rfl
    rotate_left
    ·simp only [Act.put, List.setIfInBounds_toArray, List.set_cons_zero, List.set_cons_succ, i64_w]
     rfl
    refine take_ (i := 19) (N := some 61) (v := ?_) (a' := ?_) #[true, true, true, true, true, true, true, true, true, true, true, true, true, true, true, true, true, true, true, true, false, true, false, false, false, false, false, false, false, false, false, false, false, false, false, false, false] rfl rfl (by kernel_rfl) (fun _ _ _ h => h) (Or.inl ⟨by rfl, ?_⟩) hHeld ?_ ?_
    rotate_left
    ·rintro w' ⟨s0, s1, s2, s3⟩
     go_simp
     with_reducible rfl
    rotate_left
    ·simp only [Act.put, List.setIfInBounds_toArray, List.set_cons_zero, List.set_cons_succ, i64_w]
     rfl
    refine one_ (i := 20) (N := some 62) #[true, true, true, true, true, true, true, true, true, true, true, true, true, true, true, true, true, true, true, true, true, true, false, false, false, false, false, false, false, false, false, false, false, false, false, false, false] rfl rfl (by kernel_rfl) (by decide) (fun K hK => ?_)
    refine goes_ Try.func28 (by kernel_rfl) rfl #[.int .i64 (op : Int)] (by rfl) rfl rfl (by simp only [List.map_toArray, List.map_cons, List.map_nil]; rfl) ?_
    with_reducible refine ((sluiceref11_hands.calls 20 _ _ _ HTB.out)).mono ?_
    rintro e w3 ⟨rfl, ⟨nd3, rfl⟩⟩
    refine ⟨_, rfl, ?_⟩
    have HB3 := pw_below_drewN (below_drew (Below.refl wr.heap.size wr)) nd3
    refine hK.out _ _ ⟨(HSK.out _ HB3).1, (HSK.out _ HB3).2.1, (HSK.out _ HB3).2.2, HB3⟩ (fun hHeld => ?_)
    clear hK K
    refine norm_ (a' := ?_) ?_ ?_
    rotate_left
    ·show Act.put _ (some 62) _ = _
     simp only [Act.put, List.setIfInBounds_toArray, List.set_cons_zero, List.set_cons_succ, i64_w]
     rfl
    refine pure_ (i := 22) (N := some 64) (v := ?_) (a' := ?_) #[true, true, true, true, true, true, true, true, true, true, true, true, true, true, true, true, true, true, true, true, true, true, true, false, false, false, false, false, false, false, false, false, false, false, false, false, false] rfl rfl (by kernel_rfl) (fun _ _ _ h => h) (Or.inl ⟨by rfl, ?_⟩) ?_ ?_
    rotate_left
    ·intro w'
     go_simp
     with_reducible rfl
    rotate_left
    ·simp only [Act.put, List.setIfInBounds_toArray, List.set_cons_zero, List.set_cons_succ, i64_w]
     rfl
    refine pure_ (i := 23) (N := some 65) (v := ?_) (a' := ?_) #[true, true, true, true, true, true, true, true, true, true, true, true, true, true, true, true, true, true, true, true, true, true, true, true, false, false, false, false, false, false, false, false, false, false, false, false, false] rfl rfl (by kernel_rfl) (fun _ _ _ h => h) (Or.inl ⟨by rfl, ?_⟩) ?_ ?_
    rotate_left
    ·intro w'
     go_simp
     with_reducible rfl
    rotate_left
    ·simp only [Act.put, List.setIfInBounds_toArray, List.set_cons_zero, List.set_cons_succ, i64_w]
     rfl
    refine pure_ (i := 24) (N := some 66) (v := ?_) (a' := ?_) #[true, true, true, true, true, true, true, true, true, true, true, true, true, true, true, true, true, true, true, true, true, true, true, true, true, false, false, false, false, false, false, false, false, false, false, false, false] rfl rfl (by kernel_rfl) (fun _ _ _ h => h) (Or.inl ⟨by rfl, ?_⟩) ?_ ?_
    rotate_left
    ·intro w'
     go_simp
     with_reducible rfl
    rotate_left
    ·simp only [Act.put, List.setIfInBounds_toArray, List.set_cons_zero, List.set_cons_succ, i64_w]
     rfl
    refine pure_ (i := 25) (N := some 67) (v := ?_) (a' := ?_) #[true, true, true, true, true, true, true, true, true, true, true, true, true, true, true, true, true, true, true, true, true, true, true, true, true, true, false, false, false, false, false, false, false, false, false, false, false] rfl rfl (by kernel_rfl) (fun _ _ _ h => h) (Or.inl ⟨by rfl, ?_⟩) ?_ ?_
    rotate_left
    ·intro w'
     go_simp
     with_reducible rfl
    rotate_left
    ·simp only [Act.put, List.setIfInBounds_toArray, List.set_cons_zero, List.set_cons_succ, i64_w]
     rfl
    refine pure_ (i := 26) (N := some 68) (v := ?_) (a' := ?_) #[true, true, true, true, true, true, true, true, true, true, true, true, true, true, true, true, true, true, true, true, true, true, true, true, true, true, true, false, false, false, false, false, false, false, false, false, false] rfl rfl (by kernel_rfl) (fun _ _ _ h => h) (Or.inl ⟨by rfl, ?_⟩) ?_ ?_
    rotate_left
    ·intro w'
     go_simp
     with_reducible rfl
    rotate_left
    ·simp only [Act.put, List.setIfInBounds_toArray, List.set_cons_zero, List.set_cons_succ, i64_w]
     rfl
    refine pure_ (i := 28) (N := some 70) (v := ?_) (a' := ?_) #[true, true, true, true, true, true, true, true, true, true, true, true, true, true, true, true, true, true, true, true, true, true, true, true, true, true, true, false, true, false, false, false, false, false, false, false, false] rfl rfl (by kernel_rfl) (fun _ _ _ h => h) (Or.inl ⟨by rfl, ?_⟩) ?_ ?_
    rotate_left
    ·intro w'
     go_simp
     with_reducible rfl
    rotate_left
    ·simp only [Act.put, List.setIfInBounds_toArray, List.set_cons_zero, List.set_cons_succ, i64_w]
     rfl
    refine pure_ (i := 29) (N := some 71) (v := ?_) (a' := ?_) #[true, true, true, true, true, true, true, true, true, true, true, true, true, true, true, true, true, true, true, true, true, true, true, true, true, true, true, false, true, true, false, false, false, false, false, false, false] rfl rfl (by kernel_rfl) (fun _ _ _ h => h) (Or.inl ⟨by rfl, ?_⟩) ?_ ?_
    rotate_left
    ·intro w'
     go_simp
     with_reducible rfl
    rotate_left
    ·simp only [Act.put, List.setIfInBounds_toArray, List.set_cons_zero, List.set_cons_succ, i64_w]
     rfl
    refine pure_ (i := 30) (N := some 72) (v := ?_) (a' := ?_) #[true, true, true, true, true, true, true, true, true, true, true, true, true, true, true, true, true, true, true, true, true, true, true, true, true, true, true, false, true, true, true, false, false, false, false, false, false] rfl rfl (by kernel_rfl) (fun _ _ _ h => h) (Or.inl ⟨by rfl, ?_⟩) ?_ ?_
    rotate_left
    ·intro w'
     go_simp
     with_reducible rfl
    rotate_left
    ·simp only [Act.put, List.setIfInBounds_toArray, List.set_cons_zero, List.set_cons_succ, i64_w]
     rfl
    refine pure_ (i := 32) (N := some 74) (v := ?_) (a' := ?_) #[true, true, true, true, true, true, true, true, true, true, true, true, true, true, true, true, true, true, true, true, true, true, true, true, true, true, true, false, true, true, true, false, true, false, false, false, false] rfl rfl (by kernel_rfl) (fun _ _ _ h => h) (Or.inl ⟨by rfl, ?_⟩) ?_ ?_
    rotate_left
    ·intro w'
     go_simp
     with_reducible rfl
    rotate_left
    ·simp only [Act.put, List.setIfInBounds_toArray, List.set_cons_zero, List.set_cons_succ, i64_w]
     rfl
    refine pure_ (i := 33) (N := some 75) (v := ?_) (a' := ?_) #[true, true, true, true, true, true, true, true, true, true, true, true, true, true, true, true, true, true, true, true, true, true, true, true, true, true, true, false, true, true, true, false, true, true, false, false, false] rfl rfl (by kernel_rfl) (fun _ _ _ h => h) (Or.inl ⟨by rfl, ?_⟩) ?_ ?_
    rotate_left
    ·intro w'
     go_simp
     with_reducible rfl
    rotate_left
    ·simp only [Act.put, List.setIfInBounds_toArray, List.set_cons_zero, List.set_cons_succ, i64_w]
     rfl
    refine take_ (i := 27) (N := some 69) (v := ?_) (a' := ?_) #[true, true, true, true, true, true, true, true, true, true, true, true, true, true, true, true, true, true, true, true, true, true, true, true, true, true, true, true, true, true, true, false, true, true, false, false, false] rfl rfl (by kernel_rfl) (fun _ _ _ h => h) (Or.inl ⟨by rfl, ?_⟩) hHeld ?_ ?_
    rotate_left
    ·rintro w' ⟨s0, s1, s2, s3⟩
     refine exec_load31 (.tmp 2) ?_ ?_ s0
     ·rfl
     rfl
    rotate_left
    ·simp only [Act.put, List.setIfInBounds_toArray, List.set_cons_zero, List.set_cons_succ, i64_w]
     rfl
    refine take_ (i := 31) (N := some 73) (v := ?_) (a' := ?_) #[true, true, true, true, true, true, true, true, true, true, true, true, true, true, true, true, true, true, true, true, true, true, true, true, true, true, true, true, true, true, true, true, true, true, false, false, false] rfl rfl (by kernel_rfl) (fun _ _ _ h => h) (Or.inl ⟨by rfl, ?_⟩) hHeld ?_ ?_
    rotate_left
    ·rintro w' ⟨s0, s1, s2, s3⟩
     go_simp
     with_reducible rfl
    rotate_left
    ·simp only [Act.put, List.setIfInBounds_toArray, List.set_cons_zero, List.set_cons_succ, i64_w]
     rfl
    refine one_ (i := 34) (N := some 76) #[true, true, true, true, true, true, true, true, true, true, true, true, true, true, true, true, true, true, true, true, true, true, true, true, true, true, true, true, true, true, true, true, true, true, true, false, false] rfl rfl (by kernel_rfl) (by decide) (fun K hK => ?_)
    refine goes_ Try.func29 (by kernel_rfl) rfl #[.agg #[.int .i64 words, .int .i64 s0, .int .i64 s1, .int .i64 s2, .int .i64 s3, .int .i64 s4, .int .i64 s5, .int .i64 s6, .int .i64 s7, .int .i64 g0, .int .i64 g1, .int .i64 g2, .int .i64 g3, .int .i64 g4, .int .i64 g5, .int .i64 g6, .int .i64 g7, .int .i64 t0, .int .i64 t1, .int .i64 t2, .int .i64 t3, .int .i64 ma, .int .i64 mb, .int .i64 sa, .int .i64 na, .int .i64 sb, .int .i64 nb, .bool both, h0, h1, h2, h3, h4], .agg #[.int .i64 (op : Int), .int .i64 x.f1], .int .i64 (L.length : Int)] (by rfl) rfl rfl (by simp only [List.map_toArray, List.map_cons, List.map_nil]; rfl) ?_
    with_reducible refine ((HMY.out _)).mono ?_
    rintro e w4 ⟨rfl, hb2⟩
    refine ⟨_, rfl, ?_⟩
    have HB4 := below_step HB3 hb2
    refine hK.out _ _ ⟨(HSK.out _ HB4).1, (HSK.out _ HB4).2.1, (HSK.out _ HB4).2.2, HB4⟩ (fun hHeld => ?_)
    clear hK K
    refine norm_ (a' := ?_) ?_ ?_
    rotate_left
    ·show Act.put _ (some 76) _ = _
     simp only [Act.put, List.setIfInBounds_toArray, List.set_cons_zero, List.set_cons_succ, i64_w]
     rfl
    refine pure_ (i := 35) (N := some 77) (v := ?_) (a' := ?_) #[true, true, true, true, true, true, true, true, true, true, true, true, true, true, true, true, true, true, true, true, true, true, true, true, true, true, true, true, true, true, true, true, true, true, true, true, false] rfl rfl (by kernel_rfl) (fun _ _ _ h => h) (Or.inl ⟨by rfl, ?_⟩) ?_ ?_
    rotate_left
    ·intro w'
     go_simp
     with_reducible rfl
    rotate_left
    ·simp only [Act.put, List.setIfInBounds_toArray, List.set_cons_zero, List.set_cons_succ, i64_w]
     rfl
    refine pure_ (i := 36) (N := some 78) (v := ?_) (a' := ?_) #[true, true, true, true, true, true, true, true, true, true, true, true, true, true, true, true, true, true, true, true, true, true, true, true, true, true, true, true, true, true, true, true, true, true, true, true, true] rfl rfl (by kernel_rfl) (fun _ _ _ h => h) (Or.inl ⟨by rfl, ?_⟩) ?_ ?_
    rotate_left
    ·intro w'
     go_simp
     with_reducible rfl
    rotate_left
    ·simp only [Act.put, List.setIfInBounds_toArray, List.set_cons_zero, List.set_cons_succ, i64_w]
     rfl
    refine done_ (by kernel_rfl) ?_
    have HB5 := Aside0.mk (below_then HB.out HB.out.size HB4)
    rcases mz with _ | _
    ·have HRB := Aside0.mk (HR2.out.trans (walkIn_bad (bad_first HIL.out (by rw [HIK.out, Bool.and_false]) HQ.out)))
     go_wp2
     go_ret2
     exact ⟨⟨_, by have := HRB.out; subst this; rfl⟩, HB5.out⟩
    have HQ2 := Aside0.mk (show ∀ j, j < i + 1 → insOkB [s0, s1, s2, s3, s4, s5, s6, s7] [g0, g1, g2, g3, g4, g5, g6, g7] [t0, t1, t2, t3] L.length hand (L.getD j z42) = true from fun j hj => by
     by_cases e : j = i
     ·rw [e, HIK.out]; rfl
     exact HQ.out j (by omega))
    have HC5 := Aside0.mk (HSK.out _ HB4).1
    go_wp2
    go_roundg k1_
    case measure => omega
    case rel => exact ⟨i + 1, (by first | rfl | (rw [HWR.out])), ⟨by have := HJ.out; omega⟩, HQ2, HC5, HB5⟩
   have d1 : decide ((i : Int) < (L.length : Int)) = false := decide_eq_false (by omega)
   have d2 : decide (i < L.length) = false := decide_eq_false hi
   have HQA := Aside0.mk (show ∀ j, j < L.length → insOkB [s0, s1, s2, s3, s4, s5, s6, s7] [g0, g1, g2, g3, g4, g5, g6, g7] [t0, t1, t2, t3] L.length hand (L.getD j z42) = true from fun j hj => HQ.out j (by have := HJ.out; omega))
   have HRG := Aside0.mk (HR2.out.trans (walkIn_go (bad_none HQA.out)))
   clear HQ HJ hi HR2 HR
   have hmk : ∀ W : World, (Instr.makeSlice 50 (.int .i64 ((L.length : Int) + 1)) (.int .i64 ((L.length : Int) + 1))).run Try.prog W = .ok (.slice (some ⟨W.heap.size, 0, none⟩) (L.length + 1) (L.length + 1)) (W.alloc (.cells (madeCells #[.bool false, .bool false, .slice none 0 0, .int .i64 0, .int .i64 0, .int .i64 0, .int .i64 0, .int .i64 0, .int .i64 0, .int .i64 0, .int .i64 0] ((L.length + 1) * 11)) 77)) := fun W => make11 50 77 Try.underlying50 (by kernel_rfl) (L.length + 1) (by have := HN5.out; omega) W
   have hn5 := HN5.out.2
   go_upto_region 17 with (fail)
   have HSG := Aside0.mk (made_sights 77 (L.length + 1) wr)
   have HCN := Aside0.mk ((Below.heap_alloc wr (.cells (madeCells #[.bool false, .bool false, .slice none 0 0, .int .i64 0, .int .i64 0, .int .i64 0, .int .i64 0, .int .i64 0, .int .i64 0, .int .i64 0, .int .i64 0] ((L.length + 1) * 11)) 77) _ (blk_lt HC.out)).trans HC.out)
   have HBN := Aside0.mk (HB.out.alloc HB.out.size (.cells (madeCells #[.bool false, .bool false, .slice none 0 0, .int .i64 0, .int .i64 0, .int .i64 0, .int .i64 0, .int .i64 0, .int .i64 0, .int .i64 0, .int .i64 0] ((L.length + 1) * 11)) 77))
   have HGB := Aside0.mk (show w.heap.size < wr.heap.size from blk_lt HC.out)
   clear HB HC hmk d1 d2
   generalize wr.alloc (.cells (madeCells #[.bool false, .bool false, .slice none 0 0, .int .i64 0, .int .i64 0, .int .i64 0, .int .i64 0, .int .i64 0, .int .i64 0, .int .i64 0, .int .i64 0] ((L.length + 1) * 11)) 77) = w2 at HSG HBN HCN ⊢
   generalize wr.heap.size = g at HSG HGB ⊢
   have HSQ := Aside0.mk (show ∀ n, n = L.length + 1 → List.replicate (L.length + 1) Sg.zero = List.replicate n Sg.zero from fun n h => by rw [h])
   obtain ⟨n1, hn1⟩ : ∃ n1, n1 = L.length + 1 := ⟨_, rfl⟩
   rw [HSQ.out n1 hn1] at HSG
   rw [← hn1]
   have HN1 := Aside0.mk hn1
   have hq0 : (0 : Int) < (n1 : Int) := by omega
   have hcs := HSG.out.cells 0 (by rw [List.length_replicate]; omega)
   have c0 : w2.cell? ⟨g, 0, none⟩ = some (.bool false) := hcs.1.trans (by rw [hn1]; rfl)
   have c1 : w2.cell? ⟨g, 1, none⟩ = some (.bool false) := hcs.2.1.trans (by rw [hn1]; rfl)
   have hf0 := HSG.out.frozen 0
   have hf1 := HSG.out.frozen 1
   have HS3 := Aside0.mk (show SgAt 77 g ((w2.setCell ⟨g, 0, none⟩ (.bool true)).setCell ⟨g, 1, none⟩ (.bool true)) (sg0 L.length) from by
    have a := HSG.out.putR (by decide) (i := 0) (by rw [List.length_replicate]; omega) true
    have b := a.putD (by decide) (i := 0) (by rw [List.length_set, List.length_replicate]; omega) true
    rw [hn1] at b
    exact b)
   have HH1 := ((Holds.refl w2.heap.size g g w2).set ⟨g, 0, none⟩ (.bool true) (.inl rfl)).set ⟨g, 1, none⟩ (.bool true) (.inl rfl)
   have HC3 := Aside0.mk (HH1.blk HCN.out (.inl (blk_lt HCN.out)) (by have := HGB.out; omega) (by have := HGB.out; omega))
   have HB3 := Aside0.mk (below_trans HBN.out (HH1.below (M := w.heap.size) HBN.out.size (by have := HGB.out; omega) (by have := HGB.out; omega)))
   clear HH1 HSG HBN HCN hcs HSQ
   go_wp2
   clear c0 c1 hf0 hf1 hq0
   generalize (w2.setCell ⟨g, 0, none⟩ (.bool true)).setCell ⟨g, 1, none⟩ (.bool true) = w3 at HS3 HC3 HB3 ⊢
   have HAF := Aside0.mk (aft_ok (res := resP (hand : Int) ma mb) HQA.out)
   obtain ⟨aft, haft⟩ : ∃ f, f = aftOf (resP (hand : Int) ma mb) [s0, s1, s2, s3, s4, s5, s6, s7] [g0, g1, g2, g3, g4, g5, g6, g7] [t0, t1, t2, t3] L := ⟨_, rfl⟩
   rw [← haft] at HRG HAF
   have HAE := Aside0.mk haft
   clear haft
   go_loopg [] (18 * (L.length + 1) + 2) (fun kq w' => ∃ (ss : List Sg), Aside0 (R = runW L.length aft (nxOf L) kq ss) ∧ Aside0 (mu ss < kq ∧ AllOk ss ∧ ss.length = n1) ∧ Aside0 (SgAt 77 g w' ss) ∧ Aside0 (w'.heap[w.heap.size]? = some (.cells #[.int .i64 words, .int .i64 s0, .int .i64 s1, .int .i64 s2, .int .i64 s3, .int .i64 s4, .int .i64 s5, .int .i64 s6, .int .i64 s7, .int .i64 g0, .int .i64 g1, .int .i64 g2, .int .i64 g3, .int .i64 g4, .int .i64 g5, .int .i64 g6, .int .i64 g7, .int .i64 t0, .int .i64 t1, .int .i64 t2, .int .i64 t3, .int .i64 ma, .int .i64 mb, .int .i64 sa, .int .i64 na, .int .i64 sb, .int .i64 nb, .bool both, h0, h1, h2, h3, h4] 31 (0, 0))) ∧ Aside0 (Below w.heap.size w w'))
   case atStart => exact ⟨sg0 L.length, HRG, ⟨sg0_mu _, sg0_ok _, (sg0_len _).trans HN1.out.symm⟩, HS3, HC3, HB3⟩
   case round =>
    clear HS3 HC3 HB3 HRG
    obtain ⟨ss, HRG, HMU, HS, HC, HB⟩ := hrel
    obtain ⟨k1_, rfl⟩ : ∃ k1_, gk = k1_ + 1 := ⟨gk - 1, by have := HMU.out.1; omega⟩
    go_wp2
    go_loopg [11] n1 (fun kq v11 w' => ∃ j : Nat, v11 = .int .i64 (j : Int) ∧ Aside0 (kq + j = n1) ∧ Aside0 (∀ q, q < j → (ss.getD q Sg.zero).due = false) ∧ w' = wr)
    case atStart => exact ⟨0, rfl, ⟨rfl⟩, ⟨fun q hq => by omega⟩, rfl⟩
    case round =>
     obtain ⟨j, rfl, HJ, HQ, rfl⟩ := hrel
     by_cases hj : j < n1
     ·have d1 : decide ((j : Int) < (n1 : Int)) = true := decide_eq_true (by omega)
      have d2 : decide (j < n1) = true := decide_eq_true hj
      have q3 : 0 ≤ (j : Int) ∧ (j : Int) < (n1 : Int) := ⟨Int.natCast_nonneg j, Int.ofNat_lt.mpr hj⟩
      have hcs := HS.out.cells j (by rw [HMU.out.2.2]; exact hj)
      have c1 := hcs.2.1
      obtain ⟨dd, hdd⟩ : ∃ d, d = (ss.getD j Sg.zero).due := ⟨_, rfl⟩
      rw [← hdd] at c1
      have HJN := Aside0.mk hj
      have HDD := Aside0.mk hdd
      clear hcs hdd
      rcases dd with _ | _
      ·have HWR := Aside0.mk (show wrap64 ((j : Int) + 1) = ((j + 1 : Nat) : Int) by
        have := HN1.out
        unfold wrap64
        omega)
       clear hj
       obtain ⟨k2_, rfl⟩ : ∃ k2_, gk = k2_ + 1 := ⟨gk - 1, by have := HJ.out; have := HJN.out; omega⟩
       go_wp2
       go_roundg k2_
       case measure => omega
       case rel => exact ⟨j + 1, (by first | rfl | (rw [HWR.out])), ⟨by have := HJ.out; omega⟩, ⟨fun q hq => by
        by_cases e : q = j
        ·rw [e]; exact HDD.out.symm
        exact HQ.out q (by omega)⟩, rfl⟩
      have HDU := Aside0.mk (due_some (show j < ss.length by rw [HMU.out.2.2]; exact hj) HDD.out.symm HQ.out)
      have d3 : ((j : Int) == (n1 : Int)) = false := beq_eq_false_iff_ne.mpr (by omega)
      by_cases hjl : j = L.length
      ·have d4 : ((j : Int) == (L.length : Int)) = true := beq_iff_eq.mpr (by omega)
       have HRB := Aside0.mk (HRG.out.trans (run_fault HDU.out (.inl hjl)))
       clear hj hjl
       go_wp2
       go_ret2
       exact ⟨⟨_, by have := HRB.out; subst this; rfl⟩, HB.out⟩
      have d4 : ((j : Int) == (L.length : Int)) = false := beq_eq_false_iff_ne.mpr (by omega)
      have HJL := Aside0.mk (show j < L.length by have := HN1.out; omega)
      have q4 : 0 ≤ (j : Int) ∧ (j : Int) < (L.length : Int) := by have := HJL.out; omega
      clear hj hjl HJ HQ
      go_upto_region 26 with (fail)
      clear d1 d2 d3 d4
      have hii : j < ss.length := by rw [HMU.out.2.2]; exact HJN.out
      have hf1 := HS.out.frozen (j * 11 + 1)
      go_upto_region 27 with (fail)
      have HS4 := HS.out.putD (by decide) hii false
      have HH1 := (Holds.refl wr.heap.size g g wr).set ⟨g, j * 11 + 1, none⟩ (.bool false) (.inl rfl)
      have HC4 := Aside0.mk (HH1.blk HC.out (.inl (blk_lt HC.out)) (by have := HGB.out; omega) (by have := HGB.out; omega))
      have HB4 := Aside0.mk (below_trans HB.out (HH1.below (M := w.heap.size) HB.out.size (by have := HGB.out; omega) (by have := HGB.out; omega)))
      obtain ⟨s, hsd⟩ : ∃ s, s = ss.getD j Sg.zero := ⟨_, rfl⟩
      have hcs := HS4.cells j (by rw [List.length_set]; exact hii)
      rw [getD_set_eq _ hii, ← hsd] at hcs
      have hgd := HMU.out.2.1.getD j
      rw [← hsd] at hgd
      obtain ⟨S1, hS1⟩ : ∃ S1, S1 = ss.set j { ss.getD j Sg.zero with due := false } := ⟨_, rfl⟩
      rw [← hS1] at HS4
      have HS4 := Aside0.mk HS4
      obtain ⟨rr, dd_, st, lc⟩ := s
      obtain ⟨_, _, ⟨v, c2, hv⟩, hn8, c3⟩ := hcs
      have hst : st.length ≤ 32 := hgd.2.1
      simp only at c2 hv hn8 c3
      have HSD := Aside0.mk hsd
      have HS1 := Aside0.mk hS1
      have HV := Aside0.mk hv
      have HST := Aside0.mk hst
      clear HH1 HS HC HB hv c1 hf1 hsd hS1 hgd hst hii
      generalize wr.setCell ⟨g, j * 11 + 1, none⟩ (.bool false) = w4 at HS4 HC4 HB4 HV c2 c3 ⊢
      match lc, hn8 with
      | [a0, a1, a2, a3, a4, a5, a6, a7], _ =>
      have d30 : w4.cell? ⟨g, j * 11 + 3, none⟩ = some (.int .i64 a0) := c3 0 (by omega)
      have d31 : w4.cell? ⟨g, j * 11 + 4, none⟩ = some (.int .i64 a1) := c3 1 (by omega)
      have d32 : w4.cell? ⟨g, j * 11 + 5, none⟩ = some (.int .i64 a2) := c3 2 (by omega)
      have d33 : w4.cell? ⟨g, j * 11 + 6, none⟩ = some (.int .i64 a3) := c3 3 (by omega)
      have d34 : w4.cell? ⟨g, j * 11 + 7, none⟩ = some (.int .i64 a4) := c3 4 (by omega)
      have d35 : w4.cell? ⟨g, j * 11 + 8, none⟩ = some (.int .i64 a5) := c3 5 (by omega)
      have d36 : w4.cell? ⟨g, j * 11 + 9, none⟩ = some (.int .i64 a6) := c3 6 (by omega)
      have d37 : w4.cell? ⟨g, j * 11 + 10, none⟩ = some (.int .i64 a7) := c3 7 (by omega)
      clear c3
      obtain ⟨ad, hA, hab, hi0, hi1⟩ := (HI.out.move HB4.out.block) j HJL.out
      subst hA
      obtain ⟨x, hx⟩ : ∃ x, x = L.getD j z42 := ⟨_, rfl⟩
      rw [← hx] at hi0 hi1
      obtain ⟨res, hres⟩ : ∃ o, o = afterP (resP (hand : Int) ma mb) [s0, s1, s2, s3, s4, s5, s6, s7] [g0, g1, g2, g3, g4, g5, g6, g7] [t0, t1, t2, t3] (kindsOf (tabP x.f0.toNat)) (kindsOf (tabQ x.f0.toNat)) (tabS x.f0.toNat) x.f0.toNat x.f1.toNat st [a0, a1, a2, a3, a4, a5, a6, a7] := ⟨_, rfl⟩
      have HLK := Aside0.mk (show lookP aft (nxOf L) j ss = res.bind (fun y => reachAll y.1 y.2 (nxOf L j) S1) from by
       rw [HAE.out, hres, hx, HS1.out]
       unfold lookP aftOf
       rw [← HSD.out])
      obtain ⟨okb, hok⟩ : ∃ o, o = res.isSome := ⟨_, rfl⟩
      have HBQ := Aside0.mk (show ∀ W, Below w4.heap.size w4 W → Calls Try.prog 30 #[.agg #[.int .i64 words, .int .i64 s0, .int .i64 s1, .int .i64 s2, .int .i64 s3, .int .i64 s4, .int .i64 s5, .int .i64 s6, .int .i64 s7, .int .i64 g0, .int .i64 g1, .int .i64 g2, .int .i64 g3, .int .i64 g4, .int .i64 g5, .int .i64 g6, .int .i64 g7, .int .i64 t0, .int .i64 t1, .int .i64 t2, .int .i64 t3, .int .i64 ma, .int .i64 mb, .int .i64 sa, .int .i64 na, .int .i64 sb, .int .i64 nb, .bool both, h0, h1, h2, h3, h4], .int .i64 (hand : Int), .agg #[.int .i64 x.f0, .int .i64 x.f1], v, .agg #[.int .i64 a0, .int .i64 a1, .int .i64 a2, .int .i64 a3, .int .i64 a4, .int .i64 a5, .int .i64 a6, .int .i64 a7]] W fun e w' => ∃ (v' : Value) (m0 m1 m2 m3 m4 m5 m6 m7 : Int), e = .returned (.tuple #[v', .agg #[.int .i64 m0, .int .i64 m1, .int .i64 m2, .int .i64 m3, .int .i64 m4, .int .i64 m5, .int .i64 m6, .int .i64 m7], .bool okb]) ∧ (okb = true → ∃ s', res = some (s', [m0, m1, m2, m3, m4, m5, m6, m7]) ∧ StkR w' v' s') ∧ Below W.heap.size W w' from fun W hb => behindU words s0 s1 s2 s3 s4 s5 s6 s7 g0 g1 g2 g3 g4 g5 g6 g7 t0 t1 t2 t3 ma mb sa na sb nb both h0 h1 h2 h3 h4 hand L.length a0 a1 a2 a3 a4 a5 a6 a7 v st x W res okb hres hok (HV.out.below hb) HST.out (by rw [hx]; exact HQA.out j HJL.out))
      have HSK27 := Aside0.mk (show ∀ W, Below w4.heap.size w4 W → W.heap[w.heap.size]? = some (.cells #[.int .i64 words, .int .i64 s0, .int .i64 s1, .int .i64 s2, .int .i64 s3, .int .i64 s4, .int .i64 s5, .int .i64 s6, .int .i64 s7, .int .i64 g0, .int .i64 g1, .int .i64 g2, .int .i64 g3, .int .i64 g4, .int .i64 g5, .int .i64 g6, .int .i64 g7, .int .i64 t0, .int .i64 t1, .int .i64 t2, .int .i64 t3, .int .i64 ma, .int .i64 mb, .int .i64 sa, .int .i64 na, .int .i64 sb, .int .i64 nb, .bool both, h0, h1, h2, h3, h4] 31 (0, 0)) ∧ W.cell? (ad.add (j * 2)) = some (Value.int .i64 x.f0) ∧ W.cell? ⟨(ad.add (j * 2)).block, (ad.add (j * 2)).off + 1, none⟩ = some (Value.int .i64 x.f1) ∧ W.cell? ⟨g, j * 11 + 2, none⟩ = some v ∧ W.cell? ⟨g, j * 11 + 3, none⟩ = some (Value.int .i64 a0) ∧ W.cell? ⟨g, j * 11 + 4, none⟩ = some (Value.int .i64 a1) ∧ W.cell? ⟨g, j * 11 + 5, none⟩ = some (Value.int .i64 a2) ∧ W.cell? ⟨g, j * 11 + 6, none⟩ = some (Value.int .i64 a3) ∧ W.cell? ⟨g, j * 11 + 7, none⟩ = some (Value.int .i64 a4) ∧ W.cell? ⟨g, j * 11 + 8, none⟩ = some (Value.int .i64 a5) ∧ W.cell? ⟨g, j * 11 + 9, none⟩ = some (Value.int .i64 a6) ∧ W.cell? ⟨g, j * 11 + 10, none⟩ = some (Value.int .i64 a7) from fun W h => ⟨(h.block _ (blk_lt HC4.out)).trans HC4.out, pw_cell_below h hi0, pw_cell_below h hi1, pw_cell_below h c2, pw_cell_below h d30, pw_cell_below h d31, pw_cell_below h d32, pw_cell_below h d33, pw_cell_below h d34, pw_cell_below h d35, pw_cell_below h d36, pw_cell_below h d37⟩)
      have HAFS := Aside0.mk (show ∀ y, res = some y → y.1.length ≤ 32 from fun y h => (after_len HST.out (hres.symm.trans (h.trans (show some y = some (y.1, y.2) from rfl)))).1)
      have HOKB := Aside0.mk hok
      have HXE := Aside0.mk hx
      clear hres hok hx hab hi0 hi1 c2 d30 d31 d32 d33 d34 d35 d36 d37
      refine start_ (n := 25) (S := fun w' => Below w4.heap.size w4 w') (ds := [23]) #[false, false, false, false, false, false, false, false, false, false, false, false, false, false, false, false, false, false, false, false, false, false, false, false, false] (by kernel_rfl) rfl rfl ((below_drew (Below.refl w4.heap.size w4))) (fun hHeld => ?_)
      refine pure_ (i := 1) (N := some 120) (v := ?_) (a' := ?_) #[false, true, false, false, false, false, false, false, false, false, false, false, false, false, false, false, false, false, false, false, false, false, false, false, false] rfl rfl (by kernel_rfl) (fun _ _ _ h => h) (Or.inl ⟨by rfl, ?_⟩) ?_ ?_
      rotate_left
      ·intro w'
       go_simp
       with_reducible rfl
      rotate_left
      ·simp only [Act.put, List.setIfInBounds_toArray, List.set_cons_zero, List.set_cons_succ, i64_w]
       rfl
      refine pure_ (i := 2) (N := some 121) (v := ?_) (a' := ?_) #[false, true, true, false, false, false, false, false, false, false, false, false, false, false, false, false, false, false, false, false, false, false, false, false, false] rfl rfl (by kernel_rfl) (fun _ _ _ h => h) (Or.inl ⟨by rfl, ?_⟩) ?_ ?_
      rotate_left
      ·intro w'
       go_simp
       with_reducible rfl
      rotate_left
      ·simp only [Act.put, List.setIfInBounds_toArray, List.set_cons_zero, List.set_cons_succ, i64_w]
       rfl
      refine pure_ (i := 3) (N := some 122) (v := ?_) (a' := ?_) #[false, true, true, true, false, false, false, false, false, false, false, false, false, false, false, false, false, false, false, false, false, false, false, false, false] rfl rfl (by kernel_rfl) (fun _ _ _ h => h) (Or.inl ⟨by rfl, ?_⟩) ?_ ?_
      rotate_left
      ·intro w'
       go_simp
       with_reducible rfl
      rotate_left
      ·simp only [Act.put, List.setIfInBounds_toArray, List.set_cons_zero, List.set_cons_succ, i64_w]
       rfl
      refine pure_ (i := 4) (N := some 123) (v := ?_) (a' := ?_) #[false, true, true, true, true, false, false, false, false, false, false, false, false, false, false, false, false, false, false, false, false, false, false, false, false] rfl rfl (by kernel_rfl) (fun _ _ _ h => h) (Or.inl ⟨by rfl, ?_⟩) ?_ ?_
      rotate_left
      ·intro w'
       go_simp
       with_reducible rfl
      rotate_left
      ·simp only [Act.put, List.setIfInBounds_toArray, List.set_cons_zero, List.set_cons_succ, i64_w]
       rfl
      refine pure_ (i := 6) (N := some 125) (v := ?_) (a' := ?_) #[false, true, true, true, true, false, true, false, false, false, false, false, false, false, false, false, false, false, false, false, false, false, false, false, false] rfl rfl (by kernel_rfl) (fun _ _ _ h => h) (Or.inl ⟨by rfl, ?_⟩) ?_ ?_
      rotate_left
      ·intro w'
       go_simp
       with_reducible rfl
      rotate_left
      ·simp only [Act.put, List.setIfInBounds_toArray, List.set_cons_zero, List.set_cons_succ, i64_w]
       rfl
      refine pure_ (i := 7) (N := some 126) (v := ?_) (a' := ?_) #[false, true, true, true, true, false, true, true, false, false, false, false, false, false, false, false, false, false, false, false, false, false, false, false, false] rfl rfl (by kernel_rfl) (fun _ _ _ h => h) (Or.inl ⟨by rfl, ?_⟩) ?_ ?_
      rotate_left
      ·intro w'
       go_simp
       with_reducible rfl
      rotate_left
      ·simp only [Act.put, List.setIfInBounds_toArray, List.set_cons_zero, List.set_cons_succ, i64_w]
       rfl
      refine pure_ (i := 8) (N := some 127) (v := ?_) (a' := ?_) #[false, true, true, true, true, false, true, true, true, false, false, false, false, false, false, false, false, false, false, false, false, false, false, false, false] rfl rfl (by kernel_rfl) (fun _ _ _ h => h) (Or.inl ⟨by rfl, ?_⟩) ?_ ?_
      rotate_left
      ·intro w'
       go_simp
       with_reducible rfl
      rotate_left
      ·simp only [Act.put, List.setIfInBounds_toArray, List.set_cons_zero, List.set_cons_succ, i64_w]
       rfl
      refine pure_ (i := 9) (N := some 128) (v := ?_) (a' := ?_) #[false, true, true, true, true, false, true, true, true, true, false, false, false, false, false, false, false, false, false, false, false, false, false, false, false] rfl rfl (by kernel_rfl) (fun _ _ _ h => h) (Or.inl ⟨by rfl, ?_⟩) ?_ ?_
      rotate_left
      ·intro w'
       go_simp
       with_reducible rfl
      rotate_left
      ·simp only [Act.put, List.setIfInBounds_toArray, List.set_cons_zero, List.set_cons_succ, i64_w]
       rfl
      refine pure_ (i := 11) (N := some 130) (v := ?_) (a' := ?_) #[false, true, true, true, true, false, true, true, true, true, false, true, false, false, false, false, false, false, false, false, false, false, false, false, false] rfl rfl (by kernel_rfl) (fun _ _ _ h => h) (Or.inl ⟨by rfl, ?_⟩) ?_ ?_
      rotate_left
      ·intro w'
       go_simp
       with_reducible rfl
      rotate_left
      ·simp only [Act.put, List.setIfInBounds_toArray, List.set_cons_zero, List.set_cons_succ, i64_w]
       rfl
      refine pure_ (i := 12) (N := some 131) (v := ?_) (a' := ?_) #[false, true, true, true, true, false, true, true, true, true, false, true, true, false, false, false, false, false, false, false, false, false, false, false, false] rfl rfl (by kernel_rfl) (fun _ _ _ h => h) (Or.inl ⟨by rfl, ?_⟩) ?_ ?_
      rotate_left
      ·intro w'
       go_simp
       with_reducible rfl
      rotate_left
      ·simp only [Act.put, List.setIfInBounds_toArray, List.set_cons_zero, List.set_cons_succ, i64_w]
       rfl
      refine pure_ (i := 13) (N := some 132) (v := ?_) (a' := ?_) #[false, true, true, true, true, false, true, true, true, true, false, true, true, true, false, false, false, false, false, false, false, false, false, false, false] rfl rfl (by kernel_rfl) (fun _ _ _ h => h) (Or.inl ⟨by rfl, ?_⟩) ?_ ?_
      rotate_left
      ·intro w'
       go_simp
       with_reducible rfl
      rotate_left
      ·simp only [Act.put, List.setIfInBounds_toArray, List.set_cons_zero, List.set_cons_succ, i64_w]
       rfl
      refine pure_ (i := 14) (N := some 133) (v := ?_) (a' := ?_) #[false, true, true, true, true, false, true, true, true, true, false, true, true, true, true, false, false, false, false, false, false, false, false, false, false] rfl rfl (by kernel_rfl) (fun _ _ _ h => h) (Or.inl ⟨by rfl, ?_⟩) ?_ ?_
      rotate_left
      ·intro w'
       go_simp
       with_reducible rfl
      rotate_left
      ·simp only [Act.put, List.setIfInBounds_toArray, List.set_cons_zero, List.set_cons_succ, i64_w]
       rfl
      refine take_ (i := 0) (N := some 119) (v := ?_) (a' := ?_) #[true, true, true, true, true, false, true, true, true, true, false, true, true, true, true, false, false, false, false, false, false, false, false, false, false] rfl rfl (by kernel_rfl) (fun _ _ _ h => h) (Or.inl ⟨by rfl, ?_⟩) hHeld ?_ ?_
      rotate_left
      ·intro w' s0
       refine exec_load31 (.tmp 2) ?_ ?_ (HSK27.out _ s0).1
       ·rfl
       rfl
      rotate_left
      ·simp only [Act.put, List.setIfInBounds_toArray, List.set_cons_zero, List.set_cons_succ, i64_w]
       rfl
      refine take_ (i := 5) (N := some 124) (v := ?_) (a' := ?_) #[true, true, true, true, true, true, true, true, true, true, false, true, true, true, true, false, false, false, false, false, false, false, false, false, false] rfl rfl (by kernel_rfl) (fun _ _ _ h => h) (Or.inl ⟨by rfl, ?_⟩) hHeld ?_ ?_
      rotate_left
      ·intro w' s0
       obtain ⟨_, k1, k2, k3, k40, k41, k42, k43, k44, k45, k46, k47⟩ := HSK27.out _ s0
       go_simp
       with_reducible rfl
      rotate_left
      ·simp only [Act.put, List.setIfInBounds_toArray, List.set_cons_zero, List.set_cons_succ, i64_w]
       rfl
      refine take_ (i := 10) (N := some 129) (v := ?_) (a' := ?_) #[true, true, true, true, true, true, true, true, true, true, true, true, true, true, true, false, false, false, false, false, false, false, false, false, false] rfl rfl (by kernel_rfl) (fun _ _ _ h => h) (Or.inl ⟨by rfl, ?_⟩) hHeld ?_ ?_
      rotate_left
      ·intro w' s0
       obtain ⟨_, k1, k2, k3, k40, k41, k42, k43, k44, k45, k46, k47⟩ := HSK27.out _ s0
       go_simp
       with_reducible rfl
      rotate_left
      ·simp only [Act.put, List.setIfInBounds_toArray, List.set_cons_zero, List.set_cons_succ, i64_w]
       rfl
      refine take_ (i := 15) (N := some 134) (v := ?_) (a' := ?_) #[true, true, true, true, true, true, true, true, true, true, true, true, true, true, true, true, false, false, false, false, false, false, false, false, false] rfl rfl (by kernel_rfl) (fun _ _ _ h => h) (Or.inl ⟨by rfl, ?_⟩) hHeld ?_ ?_
      rotate_left
      ·intro w' s0
       obtain ⟨_, k1, k2, k3, k40, k41, k42, k43, k44, k45, k46, k47⟩ := HSK27.out _ s0
       go_simp
       with_reducible rfl
      rotate_left
      ·simp only [Act.put, List.setIfInBounds_toArray, List.set_cons_zero, List.set_cons_succ, i64_w]
       rfl
      refine join_ (σ := J27) 3 #[true, true, true, true, true, true, true, true, true, true, true, true, true, true, true, true, true, true, true, true, true, true, false, false, false] (fun s => [(135, .tuple #[s.v, .agg #[.int .i64 s.m0, .int .i64 s.m1, .int .i64 s.m2, .int .i64 s.m3, .int .i64 s.m4, .int .i64 s.m5, .int .i64 s.m6, .int .i64 s.m7], .bool okb]), (118, .tuple #[s.v, .agg #[.int .i64 s.m0, .int .i64 s.m1, .int .i64 s.m2, .int .i64 s.m3, .int .i64 s.m4, .int .i64 s.m5, .int .i64 s.m6, .int .i64 s.m7], .bool okb]), (136, s.v), (137, .agg #[.int .i64 s.m0, .int .i64 s.m1, .int .i64 s.m2, .int .i64 s.m3, .int .i64 s.m4, .int .i64 s.m5, .int .i64 s.m6, .int .i64 s.m7]), (138, .bool okb), (13, .pointer (some ⟨s.lb, 0, none⟩))]) (fun s w' => Below w4.heap.size w4 w' ∧ (okb = true → ∃ s', res = some (s', [s.m0, s.m1, s.m2, s.m3, s.m4, s.m5, s.m6, s.m7]) ∧ StkR w' s.v s') ∧ w'.heap[s.lb]? = some (.cells #[.int .i64 0, .int .i64 0, .int .i64 0, .int .i64 0, .int .i64 0, .int .i64 0, .int .i64 0, .int .i64 0] 23 (0, 0)) ∧ w4.heap.size ≤ s.lb) ?_ ?_
      rotate_left
      ·intro hCont
       refine two_ (i := 16) (j := 21) (Ni := some 135) (Nj := some 13) #[true, true, true, true, true, true, true, true, true, true, true, true, true, true, true, true, true, false, false, false, false, false, false, false, false] #[true, true, true, true, true, true, true, true, true, true, true, true, true, true, true, true, false, false, false, false, false, true, false, false, false] rfl rfl rfl rfl (by kernel_rfl) (by decide) (by decide) (fun K hK => ?_) (fun K hK => ?_)
       ·skip
        refine goes_ Try.func30 (by kernel_rfl) rfl #[.agg #[.int .i64 words, .int .i64 s0, .int .i64 s1, .int .i64 s2, .int .i64 s3, .int .i64 s4, .int .i64 s5, .int .i64 s6, .int .i64 s7, .int .i64 g0, .int .i64 g1, .int .i64 g2, .int .i64 g3, .int .i64 g4, .int .i64 g5, .int .i64 g6, .int .i64 g7, .int .i64 t0, .int .i64 t1, .int .i64 t2, .int .i64 t3, .int .i64 ma, .int .i64 mb, .int .i64 sa, .int .i64 na, .int .i64 sb, .int .i64 nb, .bool both, h0, h1, h2, h3, h4], .int .i64 (hand : Int), .agg #[.int .i64 x.f0, .int .i64 x.f1], v, .agg #[.int .i64 a0, .int .i64 a1, .int .i64 a2, .int .i64 a3, .int .i64 a4, .int .i64 a5, .int .i64 a6, .int .i64 a7]] (by rfl) rfl rfl (by simp only [List.map_toArray, List.map_cons, List.map_nil]; rfl) ?_
        with_reducible refine ((HBQ.out _ (below_drew (Below.refl w4.heap.size w4)))).mono ?_
        rintro e w5 ⟨v5, m0, m1, m2, m3, m4, m5, m6, m7, rfl, hok5, hb5⟩
        refine ⟨_, rfl, ?_⟩
        have HB5 := below_step (below_drew (Below.refl w4.heap.size w4)) hb5
        refine hK.out _ _ (HB5) (fun hHeld => ?_)
        clear hK K
        refine norm_ (a' := ?_) ?_ ?_
        rotate_left
        ·show Act.put _ (some 135) _ = _
         simp only [Act.put, List.setIfInBounds_toArray, List.set_cons_zero, List.set_cons_succ, i64_w]
         rfl
        refine pure_ (i := 17) (N := some 118) (v := ?_) (a' := ?_) #[true, true, true, true, true, true, true, true, true, true, true, true, true, true, true, true, true, true, false, false, false, false, false, false, false] rfl rfl (by kernel_rfl) (fun _ _ _ h => h) (Or.inl ⟨by rfl, ?_⟩) ?_ ?_
        rotate_left
        ·intro w'
         go_simp
         with_reducible rfl
        rotate_left
        ·simp only [Act.put, List.setIfInBounds_toArray, List.set_cons_zero, List.set_cons_succ, i64_w]
         rfl
        refine pure_ (i := 18) (N := some 136) (v := ?_) (a' := ?_) #[true, true, true, true, true, true, true, true, true, true, true, true, true, true, true, true, true, true, true, false, false, false, false, false, false] rfl rfl (by kernel_rfl) (fun _ _ _ h => h) (Or.inl ⟨by rfl, ?_⟩) ?_ ?_
        rotate_left
        ·intro w'
         go_simp
         with_reducible rfl
        rotate_left
        ·simp only [Act.put, List.setIfInBounds_toArray, List.set_cons_zero, List.set_cons_succ, i64_w]
         rfl
        refine pure_ (i := 19) (N := some 137) (v := ?_) (a' := ?_) #[true, true, true, true, true, true, true, true, true, true, true, true, true, true, true, true, true, true, true, true, false, false, false, false, false] rfl rfl (by kernel_rfl) (fun _ _ _ h => h) (Or.inl ⟨by rfl, ?_⟩) ?_ ?_
        rotate_left
        ·intro w'
         go_simp
         with_reducible rfl
        rotate_left
        ·simp only [Act.put, List.setIfInBounds_toArray, List.set_cons_zero, List.set_cons_succ, i64_w]
         rfl
        refine pure_ (i := 20) (N := some 138) (v := ?_) (a' := ?_) #[true, true, true, true, true, true, true, true, true, true, true, true, true, true, true, true, true, true, true, true, true, false, false, false, false] rfl rfl (by kernel_rfl) (fun _ _ _ h => h) (Or.inl ⟨by rfl, ?_⟩) ?_ ?_
        rotate_left
        ·intro w'
         go_simp
         with_reducible rfl
        rotate_left
        ·simp only [Act.put, List.setIfInBounds_toArray, List.set_cons_zero, List.set_cons_succ, i64_w]
         rfl
        refine one_ (i := 21) (N := some 13) #[true, true, true, true, true, true, true, true, true, true, true, true, true, true, true, true, true, true, true, true, true, true, false, false, false] rfl rfl (by kernel_rfl) (by decide) (fun K hK => ?_)
        refine value_ (w1 := ?_) (v := ?_) (by rfl) rfl ?_ ?_
        rotate_left 2
        ·go_simp
         constructor
         ·rfl
         rfl
        have HB6 := below_alloc HB5 (.cells #[.int .i64 0, .int .i64 0, .int .i64 0, .int .i64 0, .int .i64 0, .int .i64 0, .int .i64 0, .int .i64 0] 23)
        refine hK.out _ _ (HB6) (fun hHeld => ?_)
        clear hK K
        refine norm_ (a' := ?_) ?_ ?_
        rotate_left
        ·show Act.put _ (some 13) _ = _
         simp only [Act.put, List.setIfInBounds_toArray, List.set_cons_zero, List.set_cons_succ, i64_w]
         rfl
        exact norm_ (by simp only [putAll, Act.put, List.setIfInBounds_toArray, List.set_cons_zero, List.set_cons_succ]) (hCont ⟨v5, w5.heap.size, m0, m1, m2, m3, m4, m5, m6, m7⟩ _ ⟨HB6, fun h => (by obtain ⟨s_, h1, h2⟩ := hok5 h; exact ⟨s_, h1, h2.below (below_alloc (Below.refl _ _) _)⟩), heap_alloc_new w5 (.cells #[.int .i64 0, .int .i64 0, .int .i64 0, .int .i64 0, .int .i64 0, .int .i64 0, .int .i64 0, .int .i64 0] 23), HB5.size⟩)
       skip
       refine value_ (w1 := ?_) (v := ?_) (by rfl) rfl ?_ ?_
       rotate_left 2
       ·go_simp
        constructor
        ·rfl
        rfl
       have HB5 := below_drew (below_alloc (Below.refl w4.heap.size w4) (.cells #[.int .i64 0, .int .i64 0, .int .i64 0, .int .i64 0, .int .i64 0, .int .i64 0, .int .i64 0, .int .i64 0] 23))
       refine hK.out _ _ (HB5) (fun hHeld => ?_)
       clear hK K
       refine norm_ (a' := ?_) ?_ ?_
       rotate_left
       ·show Act.put _ (some 13) _ = _
        simp only [Act.put, List.setIfInBounds_toArray, List.set_cons_zero, List.set_cons_succ, i64_w]
        rfl
       refine one_ (i := 16) (N := some 135) #[true, true, true, true, true, true, true, true, true, true, true, true, true, true, true, true, true, false, false, false, false, true, false, false, false] rfl rfl (by kernel_rfl) (by decide) (fun K hK => ?_)
       refine goes_ Try.func30 (by kernel_rfl) rfl #[.agg #[.int .i64 words, .int .i64 s0, .int .i64 s1, .int .i64 s2, .int .i64 s3, .int .i64 s4, .int .i64 s5, .int .i64 s6, .int .i64 s7, .int .i64 g0, .int .i64 g1, .int .i64 g2, .int .i64 g3, .int .i64 g4, .int .i64 g5, .int .i64 g6, .int .i64 g7, .int .i64 t0, .int .i64 t1, .int .i64 t2, .int .i64 t3, .int .i64 ma, .int .i64 mb, .int .i64 sa, .int .i64 na, .int .i64 sb, .int .i64 nb, .bool both, h0, h1, h2, h3, h4], .int .i64 (hand : Int), .agg #[.int .i64 x.f0, .int .i64 x.f1], v, .agg #[.int .i64 a0, .int .i64 a1, .int .i64 a2, .int .i64 a3, .int .i64 a4, .int .i64 a5, .int .i64 a6, .int .i64 a7]] (by rfl) rfl rfl (by simp only [List.map_toArray, List.map_cons, List.map_nil]; rfl) ?_
       with_reducible refine ((HBQ.out _ HB5)).mono ?_
       rintro e w6 ⟨v5, m0, m1, m2, m3, m4, m5, m6, m7, rfl, hok5, hb5⟩
       refine ⟨_, rfl, ?_⟩
       have HB6 := below_step HB5 hb5
       refine hK.out _ _ (HB6) (fun hHeld => ?_)
       clear hK K
       refine norm_ (a' := ?_) ?_ ?_
       rotate_left
       ·show Act.put _ (some 135) _ = _
        simp only [Act.put, List.setIfInBounds_toArray, List.set_cons_zero, List.set_cons_succ, i64_w]
        rfl
       refine pure_ (i := 17) (N := some 118) (v := ?_) (a' := ?_) #[true, true, true, true, true, true, true, true, true, true, true, true, true, true, true, true, true, true, false, false, false, true, false, false, false] rfl rfl (by kernel_rfl) (fun _ _ _ h => h) (Or.inl ⟨by rfl, ?_⟩) ?_ ?_
       rotate_left
       ·intro w'
        go_simp
        with_reducible rfl
       rotate_left
       ·simp only [Act.put, List.setIfInBounds_toArray, List.set_cons_zero, List.set_cons_succ, i64_w]
        rfl
       refine pure_ (i := 18) (N := some 136) (v := ?_) (a' := ?_) #[true, true, true, true, true, true, true, true, true, true, true, true, true, true, true, true, true, true, true, false, false, true, false, false, false] rfl rfl (by kernel_rfl) (fun _ _ _ h => h) (Or.inl ⟨by rfl, ?_⟩) ?_ ?_
       rotate_left
       ·intro w'
        go_simp
        with_reducible rfl
       rotate_left
       ·simp only [Act.put, List.setIfInBounds_toArray, List.set_cons_zero, List.set_cons_succ, i64_w]
        rfl
       refine pure_ (i := 19) (N := some 137) (v := ?_) (a' := ?_) #[true, true, true, true, true, true, true, true, true, true, true, true, true, true, true, true, true, true, true, true, false, true, false, false, false] rfl rfl (by kernel_rfl) (fun _ _ _ h => h) (Or.inl ⟨by rfl, ?_⟩) ?_ ?_
       rotate_left
       ·intro w'
        go_simp
        with_reducible rfl
       rotate_left
       ·simp only [Act.put, List.setIfInBounds_toArray, List.set_cons_zero, List.set_cons_succ, i64_w]
        rfl
       refine pure_ (i := 20) (N := some 138) (v := ?_) (a' := ?_) #[true, true, true, true, true, true, true, true, true, true, true, true, true, true, true, true, true, true, true, true, true, true, false, false, false] rfl rfl (by kernel_rfl) (fun _ _ _ h => h) (Or.inl ⟨by rfl, ?_⟩) ?_ ?_
       rotate_left
       ·intro w'
        go_simp
        with_reducible rfl
       rotate_left
       ·simp only [Act.put, List.setIfInBounds_toArray, List.set_cons_zero, List.set_cons_succ, i64_w]
        rfl
       exact norm_ (by simp only [putAll, Act.put, List.setIfInBounds_toArray, List.set_cons_zero, List.set_cons_succ]) (hCont ⟨v5, w4.heap.size, m0, m1, m2, m3, m4, m5, m6, m7⟩ _ ⟨HB6, hok5, (hb5.block w4.heap.size (show w4.heap.size < (w4.alloc (.cells #[.int .i64 0, .int .i64 0, .int .i64 0, .int .i64 0, .int .i64 0, .int .i64 0, .int .i64 0, .int .i64 0] 23)).heap.size by rw [World.size_alloc]; exact Nat.lt_succ_self _)).trans (heap_alloc_new w4 (.cells #[.int .i64 0, .int .i64 0, .int .i64 0, .int .i64 0, .int .i64 0, .int .i64 0, .int .i64 0, .int .i64 0] 23)), Nat.le_refl _⟩)
      rintro ⟨v5, lb, m0, m1, m2, m3, m4, m5, m6, m7⟩ w5 ⟨hHeld, hok5, hlb, hlbn⟩
      dsimp only at hok5 hlb hlbn
      have hr0 : _ = some (Value.int .i64 0) := blk_cell hlb 0
      have hr1 : _ = some (Value.int .i64 0) := blk_cell hlb 1
      have hr2 : _ = some (Value.int .i64 0) := blk_cell hlb 2
      have hr3 : _ = some (Value.int .i64 0) := blk_cell hlb 3
      have hr4 : _ = some (Value.int .i64 0) := blk_cell hlb 4
      have hr5 : _ = some (Value.int .i64 0) := blk_cell hlb 5
      have hr6 : _ = some (Value.int .i64 0) := blk_cell hlb 6
      have hr7 : _ = some (Value.int .i64 0) := blk_cell hlb 7
      have hf0 := blk_frozen hlb 0
      have hf1 := blk_frozen hlb 1
      have hf2 := blk_frozen hlb 2
      have hf3 := blk_frozen hlb 3
      have hf4 := blk_frozen hlb 4
      have hf5 := blk_frozen hlb 5
      have hf6 := blk_frozen hlb 6
      have hf7 := blk_frozen hlb 7
      refine norm_ (a' := ?_) ?_ ?_
      rotate_left
      ·simp only [putAll, Act.put, List.setIfInBounds_toArray, List.set_cons_zero, List.set_cons_succ]
       rfl
      refine pure_ (i := 22) (N := some 12) (v := ?_) (a' := ?_) #[true, true, true, true, true, true, true, true, true, true, true, true, true, true, true, true, true, true, true, true, true, true, true, false, false] rfl rfl (by kernel_rfl) (fun _ _ _ h => h) (Or.inl ⟨by rfl, ?_⟩) ?_ ?_
      rotate_left
      ·intro w'
       go_simp
       with_reducible rfl
      rotate_left
      ·simp only [Act.put, List.setIfInBounds_toArray, List.set_cons_zero, List.set_cons_succ, i64_w]
       rfl
      refine last_ (i := 23) (N := none) #[true, true, true, true, true, true, true, true, true, true, true, true, true, true, true, true, true, true, true, true, true, true, true, true, false] rfl rfl (by kernel_rfl) (by decide) (fun K hK => ?_)
      refine skip_ (w1 := ?_) (by rfl) rfl ?_ ?_
      rotate_left
      ·go_simp
       rfl
      refine hK.out _ _ ?_
      clear hK K
      refine pure_ (i := 24) (N := some 14) (v := ?_) (a' := ?_) #[true, true, true, true, true, true, true, true, true, true, true, true, true, true, true, true, true, true, true, true, true, true, true, true, true] rfl rfl (by kernel_rfl) (fun _ _ _ h => h) (Or.inl ⟨by rfl, ?_⟩) ?_ ?_
      rotate_left
      ·intro w'
       go_simp
       with_reducible rfl
      rotate_left
      ·simp only [Act.put, List.setIfInBounds_toArray, List.set_cons_zero, List.set_cons_succ, i64_w]
       rfl
      refine done_ (by kernel_rfl) ?_
      obtain ⟨k3_, k4_, k5_⟩ := fill8 hlb m0 m1 m2 m3 m4 m5 m6 m7
      have HB5 := Aside0.mk (k5_ w4 hHeld hlbn)
      have HV5 := Aside0.mk (show okb = true → ∃ s', res = some (s', [m0, m1, m2, m3, m4, m5, m6, m7]) ∧ StkR ((((((((w5.setCell ⟨lb, 0, none⟩ (.int .i64 m0)).setCell ⟨lb, 1, none⟩ (.int .i64 m1)).setCell ⟨lb, 2, none⟩ (.int .i64 m2)).setCell ⟨lb, 3, none⟩ (.int .i64 m3)).setCell ⟨lb, 4, none⟩ (.int .i64 m4)).setCell ⟨lb, 5, none⟩ (.int .i64 m5)).setCell ⟨lb, 6, none⟩ (.int .i64 m6)).setCell ⟨lb, 7, none⟩ (.int .i64 m7)) v5 s' from fun h => (by obtain ⟨s_, h1, h2⟩ := hok5 h; exact ⟨s_, h1, k4_ _ _ h2⟩))
      have HLB := Aside0.mk k3_
      have HLN := Aside0.mk (show lb ≠ g by have := HS4.out.lt; omega)
      clear k3_ k4_ k5_ hok5 hlb hHeld hlbn hr0 hf0 hr1 hf1 hr2 hf2 hr3 hf3 hr4 hf4 hr5 hf5 hr6 hf6 hr7 hf7
      generalize ((((((((w5.setCell ⟨lb, 0, none⟩ (.int .i64 m0)).setCell ⟨lb, 1, none⟩ (.int .i64 m1)).setCell ⟨lb, 2, none⟩ (.int .i64 m2)).setCell ⟨lb, 3, none⟩ (.int .i64 m3)).setCell ⟨lb, 4, none⟩ (.int .i64 m4)).setCell ⟨lb, 5, none⟩ (.int .i64 m5)).setCell ⟨lb, 6, none⟩ (.int .i64 m6)).setCell ⟨lb, 7, none⟩ (.int .i64 m7)) = w7 at HB5 HV5 HLB ⊢
      have HC7 := Aside0.mk ((HB5.out.block _ (blk_lt HC4.out)).trans HC4.out)
      have HS7 := Aside0.mk (HS4.out.below HB5.out)
      have HB7 := Aside0.mk (below_then HB4.out HB4.out.size HB5.out)
      have hk := HSK27.out _ HB5.out
      have hi0 := hk.2.1
      have hi1 := hk.2.2.1
      clear hk HC4 HS4 HB4 HB5 HBQ HSK27 HV
      rcases okb with _ | _
      ·have HRB := Aside0.mk (HRG.out.trans (run_fault HDU.out (.inr (HLK.out.trans (by
        have h := HOKB.out
        rcases res with _ | y
        ·rfl
        cases h)))))
       go_wp2
       go_ret2
       exact ⟨⟨_, by have := HRB.out; subst this; rfl⟩, HB7.out⟩
      obtain ⟨sv, hsv, hvv⟩ := HV5.out rfl
      have HLK2 := Aside0.mk (show lookP aft (nxOf L) j ss = reachAll sv [m0, m1, m2, m3, m4, m5, m6, m7] (nxOf L j) S1 from HLK.out.trans (by rw [hsv]; rfl))
      have HSL := Aside0.mk (show sv.length ≤ 32 from HAFS.out _ hsv)
      obtain ⟨Av, cv, hve, _⟩ := hvv.slice
      subst hve
      have HVV := Aside0.mk hvv
      have HIOK := Aside0.mk (show InsOk L.length x x.f0.toNat x.f1.toNat from by rw [HXE.out]; exact insOk_of (HQA.out j HJL.out))
      have HON := Aside0.mk (show sluiceref11_Next.f x.f0 x.f1 (j : Int) = some ((nxOf L j).map (fun (t : Nat) => (t : Int))) from by
       have h := onward_val HIOK.out j (by have := HJL.out; have := HN5.out; omega)
       rw [← nx_next HIOK.out] at h
       rw [h, HXE.out]
       rfl)
      have HXT := Aside0.mk (show (∀ t ∈ nxOf L j, t < L.length + 1) ∧ (nxOf L j).length ≤ 2 from by
       have h := nx_lt HIOK.out (i := j) HJL.out
       rw [HXE.out] at h
       exact h)
      clear HV5 HLK HAFS HOKB hsv hvv HIOK
      generalize hnx : nxOf L j = nx at HON HLK2 HXT
      obtain ⟨xs, hxs⟩ : ∃ xs : List Int, xs = nx.map (fun (t : Nat) => (t : Int)) := ⟨_, rfl⟩
      rw [← hxs] at HON
      have HXS := Aside0.mk hxs
      clear hxs hnx
      go_upto_region 31 with (go_at_call 31; refine (sluiceref11_Next.calls _ _ _ _ _ HON.out).mono ?_; rintro e w8 ⟨v0, rfl, hR, hb⟩; obtain ⟨A0, c0, hv0⟩ := Kd.R_slice hR; subst hv0; have HWI := Aside0.mk (show WI w g lb (.cells #[.int .i64 words, .int .i64 s0, .int .i64 s1, .int .i64 s2, .int .i64 s3, .int .i64 s4, .int .i64 s5, .int .i64 s6, .int .i64 s7, .int .i64 g0, .int .i64 g1, .int .i64 g2, .int .i64 g3, .int .i64 g4, .int .i64 g5, .int .i64 g6, .int .i64 g7, .int .i64 t0, .int .i64 t1, .int .i64 t2, .int .i64 t3, .int .i64 ma, .int .i64 mb, .int .i64 sa, .int .i64 na, .int .i64 sb, .int .i64 nb, .bool both, h0, h1, h2, h3, h4] 31 (0, 0)) (.cells #[.int .i64 m0, .int .i64 m1, .int .i64 m2, .int .i64 m3, .int .i64 m4, .int .i64 m5, .int .i64 m6, .int .i64 m7] 23 (0, 0)) (.slice Av sv.length cv) (.slice A0 xs.length c0) sv xs w8 from ⟨(hb.block _ (blk_lt HC7.out)).trans HC7.out, (hb.block _ (blk_lt HLB.out)).trans HLB.out, HVV.out.below hb, Kd.R_lower hR (Nat.zero_le _), below_then HB7.out HB7.out.size hb, HGB.out, HLN.out, ⟨_, blk_of_sg (HS7.out.below hb)⟩⟩); have HG := Aside0.mk (HS7.out.below hb); clear HC7 HLB HVV HB7 HS7 hi0 hi1 hR hb)
      obtain ⟨F4, hF4⟩ : ∃ F, reachAll sv [m0, m1, m2, m3, m4, m5, m6, m7] nx S1 = F := ⟨_, rfl⟩
      rw [hF4] at HLK2
      have HF4 := Aside0.mk hF4
      have HSZ := Aside0.mk (show AllOk S1 ∧ S1.length = n1 from by
       rw [HS1.out]
       have h1 := HMU.out.2.1.getD j
       exact ⟨HMU.out.2.1.set j ⟨h1.1, h1.2.1, fun h => by cases h⟩, by rw [List.length_set]; exact HMU.out.2.2⟩)
      clear hF4
      go_wp2
      go_loopg [16] xs.length (fun kq v16 w' => ∃ (i2 : Nat) (sj : List Sg), v16 = .int .i64 (i2 : Int) ∧ Aside0 (kq + i2 = xs.length) ∧ Aside0 (reachAll sv [m0, m1, m2, m3, m4, m5, m6, m7] (nx.drop i2) sj = F4) ∧ Aside0 (AllOk sj ∧ sj.length = n1) ∧ Aside0 (SgAt 77 g w' sj) ∧ Aside0 (WI w g lb (.cells #[.int .i64 words, .int .i64 s0, .int .i64 s1, .int .i64 s2, .int .i64 s3, .int .i64 s4, .int .i64 s5, .int .i64 s6, .int .i64 s7, .int .i64 g0, .int .i64 g1, .int .i64 g2, .int .i64 g3, .int .i64 g4, .int .i64 g5, .int .i64 g6, .int .i64 g7, .int .i64 t0, .int .i64 t1, .int .i64 t2, .int .i64 t3, .int .i64 ma, .int .i64 mb, .int .i64 sa, .int .i64 na, .int .i64 sb, .int .i64 nb, .bool both, h0, h1, h2, h3, h4] 31 (0, 0)) (.cells #[.int .i64 m0, .int .i64 m1, .int .i64 m2, .int .i64 m3, .int .i64 m4, .int .i64 m5, .int .i64 m6, .int .i64 m7] 23 (0, 0)) (.slice Av sv.length cv) (.slice A0 xs.length c0) sv xs w'))
      case atStart => exact ⟨0, S1, rfl, ⟨rfl⟩, HF4, HSZ, HG, HWI⟩
      case round =>
       clear HF4 HSZ HG HWI
       obtain ⟨i2, sj, rfl, HJ, HFJ, HSZ, HG, HWI⟩ := hrel
       have hnl : nx.length = xs.length := by rw [HXS.out, List.length_map]
       by_cases hjx : i2 < xs.length
       ·have d1 : decide ((i2 : Int) < (xs.length : Int)) = true := decide_eq_true (by omega)
        have d2 : decide (i2 < xs.length) = true := decide_eq_true hjx
        obtain ⟨A1, c1_, he, hcl, hC⟩ := Kd.R_reads HWI.out.r
        injection he with e1 e2 e3
        subst e1
        obtain ⟨ad1, hA1, hcell⟩ := int_at hC i2 hjx
        subst hA1
        have q3 : 0 ≤ (i2 : Int) ∧ (i2 : Int) < (xs.length : Int) := ⟨Int.natCast_nonneg i2, Int.ofNat_lt.mpr hjx⟩
        obtain ⟨t, ht⟩ : ∃ t, t = nx.getD i2 0 := ⟨_, rfl⟩
        have hxt : xs.getD i2 0 = (t : Int) := by
         rw [HXS.out, ht, List.getD_eq_getElem?_getD, List.getElem?_map, List.getD_eq_getElem?_getD, List.getElem?_eq_getElem (by omega)]
         rfl
        rw [hxt] at hcell
        have htm : t ∈ nx := by
         rw [ht, List.getD_eq_getElem?_getD, List.getElem?_eq_getElem (by omega)]
         exact List.getElem_mem _
        have hdr : nx.drop i2 = t :: nx.drop (i2 + 1) := by
         rw [List.drop_eq_getElem_cons (by omega), ht, List.getD_eq_getElem?_getD, List.getElem?_eq_getElem (by omega)]
         rfl
        have hF2 : (reachP sv [m0, m1, m2, m3, m4, m5, m6, m7] (sj.getD t Sg.zero)).bind (fun g' => reachAll sv [m0, m1, m2, m3, m4, m5, m6, m7] (nx.drop (i2 + 1)) (sj.set t g')) = F4 := by
         have := HFJ.out
         rw [hdr] at this
         exact this
        have HWR := Aside0.mk (show wrap64 ((i2 : Int) + 1) = ((i2 + 1 : Nat) : Int) by
         have := HXT.out.2
         unfold wrap64
         omega)
        have HTT := Aside0.mk (show t < sj.length by have := HXT.out.1 t htm; have := HSZ.out.2; have := HN1.out; omega)
        have HJX := Aside0.mk hjx
        have q6 : 0 ≤ (t : Int) ∧ (t : Int) < (n1 : Int) := by have := HTT.out; have := HSZ.out.2; omega
        obtain ⟨sg, hsg⟩ : ∃ s, s = sj.getD t Sg.zero := ⟨_, rfl⟩
        have hcs := HG.out.cells t HTT.out
        rw [← hsg] at hcs hF2
        have HSG := Aside0.mk hsg
        obtain ⟨c0_, c1_', ⟨vt, c2_, hvt⟩, hn8, _⟩ := hcs
        obtain ⟨rt, hrt⟩ : ∃ r, r = sg.reached := ⟨_, rfl⟩
        rw [← hrt] at c0_
        have HRT := Aside0.mk hrt
        have HGO := Aside0.mk (show sg.ok by rw [hsg]; exact HSZ.out.1.getD t)
        clear hC hcl e2 e3 hxt htm hdr ht hjx hnl hsg hrt
        obtain ⟨k5_, rfl⟩ : ∃ k5_, gk = k5_ + 1 := ⟨gk - 1, by have := HJ.out; have := HJX.out; omega⟩
        rcases rt with _ | _
        ·have hP : reachP sv [m0, m1, m2, m3, m4, m5, m6, m7] sg = some ⟨true, true, sv, [m0, m1, m2, m3, m4, m5, m6, m7]⟩ := reachF HRT.out.symm
         have HOK2 := Aside0.mk (show AllOk (sj.set t ⟨true, true, sv, [m0, m1, m2, m3, m4, m5, m6, m7]⟩) ∧ (sj.set t ⟨true, true, sv, [m0, m1, m2, m3, m4, m5, m6, m7]⟩).length = n1 from ⟨HSZ.out.1.set t (reachP_mu HGO.out rfl HSL.out hP).2, by rw [List.length_set]; exact HSZ.out.2⟩)
         rw [hP] at hF2
         have HF2 := Aside0.mk (show reachAll sv [m0, m1, m2, m3, m4, m5, m6, m7] (nx.drop (i2 + 1)) (sj.set t ⟨true, true, sv, [m0, m1, m2, m3, m4, m5, m6, m7]⟩) = F4 from hF2)
         clear hF2 hP c2_ hvt hn8
         have hf0 := HG.out.frozen (t * 11)
         have hf1 := HG.out.frozen (t * 11 + 1)
         go_upto_region 38 with (fail)
         have a1 := HG.out.putR (by decide) HTT.out true
         have a2 := a1.putD (by decide) (i := t) (by rw [List.length_set]; exact HTT.out) true
         rw [getD_set_eq _ HTT.out, List.set_set] at a2
         have HG2 := Aside0.mk a2
         have HW2 := Aside0.mk ((HWI.out.put (t * 11) (.bool true)).put (t * 11 + 1) (.bool true))
         clear a1 a2 HG HWI c0_ c1_' hf0 hf1 hcell
         generalize (wr.setCell ⟨g, t * 11, none⟩ (.bool true)).setCell ⟨g, t * 11 + 1, none⟩ (.bool true) = w9 at HG2 HW2 ⊢
         have HO : Aside0 ((w9.alloc (.cells #[] 22)).ownsRow w9.heap.size 22 1 (.slice (some ⟨w9.heap.size, 0, none⟩) 0 0) ([] : List Int).length (nums .i64 [])) := ⟨rfl, .inr ⟨w9.heap.size, 0, #[], rfl, Nat.le_refl _, heap_alloc_new w9 _, Nat.le_refl _, by decide, rfl, rfl⟩⟩
         have HRV := Aside0.mk (HW2.out.v.below (below_alloc (Below.refl w9.heap.size w9) (.cells #[] 22)))
         have HRS := Aside0.mk (show w9.heap.size ≤ (w9.alloc (.cells #[] 22)).heap.size by rw [World.size_alloc]; omega)
         go_upto_region 39 with ((with_reducible refine gate_builtin (b := .append) (xs := #[.tmp 174, .tmp 175]) rfl ?_); at_builtin; refine stk_concat w9.heap.size rfl (.tmp 174) (.tmp 175) rfl _ _ [] sv rfl rfl HO.out HRV.out HRS.out (by simpa using Nat.le_trans HSL.out (by decide)) ?_; intro v1 w10 hv1 hb1; rw [List.nil_append] at hv1; obtain ⟨A2, c2, hv2, _⟩ := hv1.read.slice; subst hv2; have hbw := below_trans (below_alloc (Below.refl w9.heap.size w9) (.cells #[] 22)) hb1; have HG3 := Aside0.mk (HG2.out.below hbw); have HW3 := Aside0.mk (HW2.out.step hbw); have HV3 := Aside0.mk hv1.read; obtain ⟨vo, hc2, _⟩ := (HG3.out.cells t (by rw [List.length_set]; exact HTT.out)).2.2.1; have hf2 := HG3.out.frozen (t * 11 + 2); clear HG2 HW2 HO HRV HRS hbw hv1 hb1)
         have b1 := HG3.out.putS (by decide) (i := t) (by rw [List.length_set]; exact HTT.out) (.slice A2 sv.length c2) sv HV3.out
         rw [getD_set_eq _ HTT.out, List.set_set] at b1
         have HG4 := Aside0.mk b1
         have HW4 := Aside0.mk (HW3.out.put (t * 11 + 2) (.slice A2 sv.length c2))
         clear b1 HG3 HW3 HV3 hc2 hf2
         generalize w10.setCell ⟨g, t * 11 + 2, none⟩ (.slice A2 sv.length c2) = w11 at HG4 HW4 ⊢
         have hcq := (HG4.out.cells t (by rw [List.length_set]; exact HTT.out)).2.2.2.2
         have hq0 := hcq 0 (by omega)
         have hq1 := hcq 1 (by omega)
         have hq2 := hcq 2 (by omega)
         have hq3 := hcq 3 (by omega)
         have hq4 := hcq 4 (by omega)
         have hq5 := hcq 5 (by omega)
         have hq6 := hcq 6 (by omega)
         have hq7 := hcq 7 (by omega)
         have hp0 := HG4.out.frozen (t * 11 + 3)
         have hp1 := HG4.out.frozen (t * 11 + 4)
         have hp2 := HG4.out.frozen (t * 11 + 5)
         have hp3 := HG4.out.frozen (t * 11 + 6)
         have hp4 := HG4.out.frozen (t * 11 + 7)
         have hp5 := HG4.out.frozen (t * 11 + 8)
         have hp6 := HG4.out.frozen (t * 11 + 9)
         have hp7 := HG4.out.frozen (t * 11 + 10)
         clear hcq
         have b2 := HG4.out.putL8 (by decide) (i := t) (by rw [List.length_set]; exact HTT.out) m0 m1 m2 m3 m4 m5 m6 m7
         rw [getD_set_eq _ HTT.out, List.set_set] at b2
         have HG5 := Aside0.mk b2
         have HW5 := Aside0.mk (((((((((HW4.out.put (t * 11 + 3 + 0) (.int .i64 m0)).put (t * 11 + 3 + 1) (.int .i64 m1)).put (t * 11 + 3 + 2) (.int .i64 m2)).put (t * 11 + 3 + 3) (.int .i64 m3)).put (t * 11 + 3 + 4) (.int .i64 m4)).put (t * 11 + 3 + 5) (.int .i64 m5)).put (t * 11 + 3 + 6) (.int .i64 m6)).put (t * 11 + 3 + 7) (.int .i64 m7)))
         clear b2
         go_wp2_with ((with_reducible refine wpList_load_row rfl 23 (.tmp 13) rfl lb rfl _ _ _ _ HW4.out.l Try.underlying23 rfl (by kernel_rfl) ?_))
         go_roundg k5_
         case measure => omega
         case rel => exact ⟨i2 + 1, _, (by first | rfl | (rw [HWR.out])), ⟨by have := HJ.out; omega⟩, HF2, HOK2, HG5, HW5⟩
        obtain ⟨dq, hdq⟩ : ∃ q, q = decide (sg.stack = sv) := ⟨_, rfl⟩
        have HCE := Aside0.mk (show Calls Try.prog 32 #[vt, .slice Av sv.length cv] wr fun e w' => e = .returned (.bool dq) ∧ Drawn0 wr w' from by rw [hdq]; exact sameKR wr vt _ sg.stack sv hvt HWI.out.v (by have := HGO.out.2.1; omega))
        have HDQ := Aside0.mk hdq
        have HF0 := Aside0.mk hF2
        clear hdq hvt hn8 hF2
        rcases dq with _ | _
        ·have HRB := Aside0.mk (HRG.out.trans (run_fault HDU.out (.inr (HLK2.out.trans (by
          have h := HF0.out
          rw [reachN HRT.out.symm (of_decide_eq_false HDQ.out.symm)] at h
          exact h.symm)))))
         go_wp2_with (go_at_call 32; refine HCE.out.mono ?_; rintro e w9 ⟨rfl, ⟨nd, rfl⟩⟩)
         go_ret2
         exact ⟨⟨_, by have := HRB.out; subst this; rfl⟩, pw_below_drewN HWI.out.b nd⟩
        have hP := reachY (s := sv) (lo := [m0, m1, m2, m3, m4, m5, m6, m7]) HRT.out.symm (of_decide_eq_true HDQ.out.symm)
        have HOK2 := Aside0.mk (show AllOk (sj.set t ⟨true, (meetTo sg.locals [m0, m1, m2, m3, m4, m5, m6, m7] sg.due 8).2, sg.stack, (meetTo sg.locals [m0, m1, m2, m3, m4, m5, m6, m7] sg.due 8).1⟩) ∧ (sj.set t ⟨true, (meetTo sg.locals [m0, m1, m2, m3, m4, m5, m6, m7] sg.due 8).2, sg.stack, (meetTo sg.locals [m0, m1, m2, m3, m4, m5, m6, m7] sg.due 8).1⟩).length = n1 from ⟨HSZ.out.1.set t (reachP_mu HGO.out rfl HSL.out hP).2, by rw [List.length_set]; exact HSZ.out.2⟩)
        have HF2 := Aside0.mk (show reachAll sv [m0, m1, m2, m3, m4, m5, m6, m7] (nx.drop (i2 + 1)) (sj.set t ⟨true, (meetTo sg.locals [m0, m1, m2, m3, m4, m5, m6, m7] sg.due 8).2, sg.stack, (meetTo sg.locals [m0, m1, m2, m3, m4, m5, m6, m7] sg.due 8).1⟩) = F4 from by
         have h := HF0.out
         rw [hP] at h
         exact h)
        clear hP
        go_wp2_with (go_at_call 32; refine HCE.out.mono ?_; rintro e w9 ⟨rfl, ⟨nd, rfl⟩⟩; have n0_ := Aside0.mk (HG.out.below (pw_below_drewN (Below.refl wr.heap.size wr) nd)); have n1_ := Aside0.mk (HWI.out.step (pw_below_drewN (Below.refl wr.heap.size wr) nd)); clear HG HWI HCE c0_ c1_' c2_ hcell; have HG := n0_; have HWI := n1_; clear n0_ n1_)
        go_loopg [18] 8 (fun kq v18 w' => ∃ k : Nat, v18 = .int .i64 (k : Int) ∧ Aside0 (kq + k = 8) ∧ Aside0 (SgAt 77 g w' (sj.set t ⟨true, (meetTo sg.locals [m0, m1, m2, m3, m4, m5, m6, m7] sg.due k).2, sg.stack, (meetTo sg.locals [m0, m1, m2, m3, m4, m5, m6, m7] sg.due k).1⟩)) ∧ Aside0 (WI w g lb (.cells #[.int .i64 words, .int .i64 s0, .int .i64 s1, .int .i64 s2, .int .i64 s3, .int .i64 s4, .int .i64 s5, .int .i64 s6, .int .i64 s7, .int .i64 g0, .int .i64 g1, .int .i64 g2, .int .i64 g3, .int .i64 g4, .int .i64 g5, .int .i64 g6, .int .i64 g7, .int .i64 t0, .int .i64 t1, .int .i64 t2, .int .i64 t3, .int .i64 ma, .int .i64 mb, .int .i64 sa, .int .i64 na, .int .i64 sb, .int .i64 nb, .bool both, h0, h1, h2, h3, h4] 31 (0, 0)) (.cells #[.int .i64 m0, .int .i64 m1, .int .i64 m2, .int .i64 m3, .int .i64 m4, .int .i64 m5, .int .i64 m6, .int .i64 m7] 23 (0, 0)) (.slice Av sv.length cv) (.slice (some ad1) xs.length c0) sv xs w'))
        case atStart => exact ⟨0, rfl, ⟨rfl⟩, ⟨by rw [show (⟨true, (meetTo sg.locals [m0, m1, m2, m3, m4, m5, m6, m7] sg.due 0).2, sg.stack, (meetTo sg.locals [m0, m1, m2, m3, m4, m5, m6, m7] sg.due 0).1⟩ : Sg) = sj.getD t Sg.zero from (sg_true HRT.out.symm).trans HSG.out, set_self]; exact HG.out⟩, HWI⟩
        case round =>
         clear HG HWI
         obtain ⟨k, rfl, HK, HGK, HIK⟩ := hrel
         by_cases hk : k < 8
         ·have e1 : decide ((k : Int) < 8) = true := decide_eq_true (by omega)
          have q5 : 0 ≤ (k : Int) ∧ (k : Int) < 8 := by omega
          have HKL := Aside0.mk hk
          have hcs := HGK.out.cells t (by rw [List.length_set]; exact HTT.out)
          rw [getD_set_eq _ HTT.out] at hcs
          have hcl := hcs.2.2.2.2 k hk
          have hcd := hcs.2.1
          simp only at hcl hcd
          rw [meet_get _ _ _ k k (Nat.le_refl _)] at hcl
          have hlk := lo_cell HIK.out.l k hk
          have hfl := HGK.out.frozen (t * 11 + 3 + k)
          have hfd := HGK.out.frozen (t * 11 + 1)
          obtain ⟨x_, hx_⟩ : ∃ y, y = sg.locals.getD k 0 := ⟨_, rfl⟩
          obtain ⟨u_, hu_⟩ : ∃ y, y = [m0, m1, m2, m3, m4, m5, m6, m7].getD k 0 := ⟨_, rfl⟩
          have HME := Aside0.mk (show meetTo sg.locals [m0, m1, m2, m3, m4, m5, m6, m7] sg.due (k + 1) = if x_ ≠ 0 ∧ x_ ≠ u_ then ((meetTo sg.locals [m0, m1, m2, m3, m4, m5, m6, m7] sg.due k).1.set k 0, true) else meetTo sg.locals [m0, m1, m2, m3, m4, m5, m6, m7] sg.due k from by rw [hx_, hu_]; exact meet_succ _ _ _ _)
          rw [← hx_] at hcl
          rw [← hu_] at hlk
          have HWK := Aside0.mk (show wrap64 ((k : Int) + 1) = ((k + 1 : Nat) : Int) by
           unfold wrap64
           omega)
          generalize hcdv : (meetTo sg.locals [m0, m1, m2, m3, m4, m5, m6, m7] sg.due k).2 = cdv at hcd
          clear hcs hx_ hu_ hk hcdv
          obtain ⟨k6_, rfl⟩ : ∃ k6_, gk = k6_ + 1 := ⟨gk - 1, by have := HK.out; have := HKL.out; omega⟩
          go_upto_region 45 with (fail)
          clear e1
          by_cases hz : x_ = 0
          ·have f1 : (x_ != 0) = false := bne_eq_false_iff_eq.mpr hz
           have HM2 := Aside0.mk (HME.out.trans (if_neg (fun h => h.1 hz)))
           clear hz
           go_big_quiet (fail)
           go_wp2
           go_roundg k6_
           case measure => omega
           case rel => exact ⟨k + 1, (by first | rfl | (rw [HWK.out])), ⟨by have := HK.out; omega⟩, ⟨by rw [HM2.out]; exact HGK.out.below (pw_below_drewN (Below.refl _ _) _)⟩, ⟨HIK.out.step (pw_below_drewN (Below.refl _ _) _)⟩⟩
          have f1 : (x_ != 0) = true := bne_iff_ne.mpr hz
          by_cases hy : x_ = u_
          ·have f2 : (x_ != u_) = false := bne_eq_false_iff_eq.mpr hy
           have HM2 := Aside0.mk (HME.out.trans (if_neg (fun h => h.2 hy)))
           clear hz hy
           go_big_quiet (fail)
           go_wp2
           go_roundg k6_
           case measure => omega
           case rel => exact ⟨k + 1, (by first | rfl | (rw [HWK.out])), ⟨by have := HK.out; omega⟩, ⟨by rw [HM2.out]; exact HGK.out.below (pw_below_drewN (Below.refl _ _) _)⟩, ⟨HIK.out.step (pw_below_drewN (Below.refl _ _) _)⟩⟩
          have f2 : (x_ != u_) = true := bne_iff_ne.mpr hy
          have HM2 := Aside0.mk (HME.out.trans (if_pos ⟨hz, hy⟩))
          clear hz hy
          go_big_quiet (fail)
          have n0_ := HGK.out.below (pw_below_drewN (Below.refl wr.heap.size wr) nq)
          have n1_ := Aside0.mk (HIK.out.step (pw_below_drewN (Below.refl wr.heap.size wr) nq))
          have hcl : (wr.drewN nq).cell? ⟨g, t * 11 + 3 + k, none⟩ = some (.int .i64 x_) := hcl
          have hcd : (wr.drewN nq).cell? ⟨g, t * 11 + 1, none⟩ = some (.bool cdv) := hcd
          have hfl : (wr.drewN nq).frozen? ⟨g, t * 11 + 3 + k, none⟩ = false := hfl
          have hfd : (wr.drewN nq).frozen? ⟨g, t * 11 + 1, none⟩ = false := hfd
          generalize wr.drewN nq = w10 at n0_ n1_ hcl hcd hfl hfd ⊢
          have hA := n0_.putL (by decide) (i := t) (by rw [List.length_set]; exact HTT.out) k HKL.out 0
          rw [getD_set_eq _ HTT.out, List.set_set] at hA
          have hB := hA.putD (by decide) (i := t) (by rw [List.length_set]; exact HTT.out) true
          rw [getD_set_eq _ HTT.out, List.set_set] at hB
          have HBX := Aside0.mk hB
          have HWX := Aside0.mk ((n1_.out.put (t * 11 + 3 + k) (.int .i64 0)).put (t * 11 + 1) (.bool true))
          clear hA hB n0_ n1_
          go_wp2
          go_roundg k6_
          case measure => omega
          case rel => exact ⟨k + 1, (by first | rfl | (rw [HWK.out])), ⟨by have := HK.out; omega⟩, ⟨by rw [HM2.out]; exact HBX.out⟩, HWX⟩
         have e1 : decide ((k : Int) < 8) = false := decide_eq_false (by omega)
         obtain rfl : k = 8 := by have := HK.out; omega
         go_wp2
         go_roundg k5_
         case measure => omega
         case rel => exact ⟨i2 + 1, _, (by first | rfl | (rw [HWR.out])), ⟨by have := HJ.out; omega⟩, HF2, HOK2, HGK, HIK⟩
       have d1 : decide ((i2 : Int) < (xs.length : Int)) = false := decide_eq_false (by omega)
       have d2 : decide (i2 < xs.length) = false := decide_eq_false hjx
       have HF4s := Aside0.mk (show F4 = some sj by
        have h1 := HFJ.out
        rw [List.drop_eq_nil_of_le (by omega)] at h1
        exact h1.symm)
       have hss := HLK2.out.trans HF4s.out
       have HRN := Aside0.mk (HRG.out.trans (run_next HDU.out (show j ≠ L.length by have := HJL.out; omega) hss))
       have hm2 := lookP_mu HAF.out HJL.out (HMU.out.2.2.trans HN1.out) HMU.out.2.1 HDD.out.symm hss
       have HM2 := Aside0.mk (show mu sj < k1_ ∧ AllOk sj ∧ sj.length = n1 from ⟨by have := HMU.out.1; omega, hm2.2.1, hm2.2.2.trans HN1.out.symm⟩)
       clear hjx hnl hss hm2
       go_wp2
       go_roundg k1_
       case measure => omega
       case rel => exact ⟨sj, HRN, HM2, HG, ⟨HWI.out.c⟩, ⟨HWI.out.b⟩⟩
     have hjn : j = n1 := by have := HJ.out; omega
     have HRB := Aside0.mk (HRG.out.trans (run_done (due_none (fun q hq => HQ.out q (by rw [hjn]; rw [HMU.out.2.2] at hq; exact hq)))))
     clear hj HJ HQ
     subst hjn
     have d1 : decide ((j : Int) < (j : Int)) = false := decide_eq_false (by omega)
     have d2 : decide (j < j) = false := decide_eq_false (by omega)
     have d3 : ((j : Int) == (j : Int)) = true := beq_iff_eq.mpr rfl
     go_wp2
     go_ret2
     exact ⟨⟨_, by have := HRB.out; subst this; rfl⟩, HB.out⟩
end WQ
end Go.Proofs.Ytcpcpmojallcdaa.QLoomChecks
