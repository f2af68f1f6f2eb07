/- RosterAll for arguments of bulk at most 1048576: the law's row of the second form, out of its pure statement and the walk. Conditions: the bulk (the statement's own). -/
import Derived.Test.YtnmhfcfojbfikaaRows
import Derived.Test.YtnmhfcfojbfikaaRostAllPure
import Derived.Test.YtnmhfcfojbfikaaRostReadB
import Derived.Test.YtnmhfcfojbfikaaBulk
import Derived.WalkKit
import Derived.ProofKit
import Derived.OpenShut
import Derived.ShutString
import Derived.ChangeOld
import Derived.Below
import Derived.SizedLaws
import Derived.Deep.CondSized
import Derived.Test.YtnmhfcfojbfikaaWSized
namespace Go.Proofs.Ytnmhfcfojbfikaa.rosterAllUpto
open Go.ChangeShapes Go.WideShapes Go.ChangeAt Go.RowKit
open Go.ChangeMaps (open_string shut_string)
set_option linter.unusedVariables false
open Go.Proofs.Ytnmhfcfojbfikaa.QRosterLays Go.Proofs.YtnmhfcfojbfikaaW.PrintWords Go.Proofs.YtnmhfcfojbfikaaW.PrintLast in
theorem walkUpto (A0 : Option Addr) (c0 : Nat) (l0 : List S101) (stop : Int) (w : World) (hr0 : k101.C w A0 l0.length l0) (hc0 : l0.length ≤ c0) (hx0 : ∀ x ∈ l0, x.f1.length ≤ 9223372036854775807) (hz : Sized l0) :
    Calls Try.prog 8 #[.slice A0 l0.length c0, .int .i64 stop] w fun e w' => e = .returned (.bool true) ∧ Below w.heap.size w w' := by
  obtain ⟨k, b0, h0, hf⟩ := pure_allA l0 hr0.2.1 hx0 hz
  exact allLaw k A0 c0 l0 stop _ b0 w hr0 hc0 h0 hf
theorem own : ownKnob Try.prog.godebug = none := by kernel_rfl
theorem laidOut : laidOutB Try.prog = true := by kernel_rfl
set_option maxRecDepth 100000 in
theorem lifted (os : Os) (started : os.Started) (H : Type) (enc : TypeId × Value → H) (F : Stop.Interp) :
    ReturnsInHanded {} Try.checked os 8 .any ((Rows.OpenSpec.upto Rows.rosterAllSpec).pre6 enc Try.prog Try.f8 Rows.rosterAllUptoRow.domain false) (((Rows.OpenSpec.upto Rows.rosterAllSpec).at F).post enc Try.prog Try.f8 false true false false) := by
  refine returnsInHanded_of_cond_sized (C := Try.checked) (s := Rows.OpenSpec.upto Rows.rosterAllSpec) (k := Rows.uptoSmall) rfl own started (by kernel_rfl) Try.func8
    (OpenSpec.witness (enc := enc) (C := Try.checked) (s := Rows.OpenSpec.upto Rows.rosterAllSpec) (k := Rows.uptoSmall) rfl false ⟨#[], #[.slice none 0 0, .int .i64 0], []⟩ 8 (by kernel_rfl) (by kernel_rfl) (by kernel_rfl)
      (x := ([.nil, .lit (.int .i64 0)], [], [])) (by kernel_rfl) rfl (by kernel_rfl)) ?_
  intro W base args ds gs before hval0 hW hcnd hkk0 hsz0 _
  have hbk := bulks.bound hkk0
  have hval : ∀ (j : Nat) t v, Try.f8.params[j]? = some t → args[j]? = some v → Value.okWide Try.prog W .any base t v := hval0
  have hW' := hW
  obtain ⟨p, q, hA0, hV, rfl, hfz, hnd⟩ := hW
  have hA : DataW.TrodAll enc Try.prog W 0 (fun _ => true) true Try.f8.params.toList args.toList ds p := hA0
  rw [Try.params8] at hA hval
  obtain ⟨v0, vs0, d0, ds0, p0, q0, hargs, rfl, rfl, h0, r0⟩ := trodAll_cons hA
  obtain ⟨v1, vs1, d1, ds1, p1, q1, rfl, rfl, rfl, h1, r1⟩ := trodAll_cons r0
  obtain ⟨rfl, rfl, rfl⟩ := trodAll_nil r1
  obtain rfl : args = #[v0, v1] := by cases args; simp_all
  obtain ⟨rfl, rfl⟩ := trodVars_none hV
  obtain ⟨a0, len0, cap0, rfl⟩ := okWide_slice Try.underlying25 (hval 0 25 v0 rfl rfl)
  obtain ⟨a1, rfl, rfl, rfl, w1⟩ := open_int Try.underlying3 (hval 1 3 v1 rfl rfl) h1
  have k0 := h0
  have lt0 : ∀ x ∈ p0, x.block < W.heap.size := by obtain ⟨m, hm⟩ := k0; exact DataW.trod_lt m _ _ _ hm
  have hpart : Rows.uptoBulk d0 ≤ 1048576 := Nat.le_trans (bulks.part_le (by simp)) hbk
  obtain ⟨l0, rfl, w0, c0, x0, z0⟩ : ∃ l : List QRosterLays.S101, len0 = l.length ∧ l.length ≤ cap0 ∧ Go.Proofs.YtnmhfcfojbfikaaW.PrintWords.Kd.C QRosterLays.k101 W a0 l.length l ∧ (∀ x ∈ l, x.f1.length ≤ 9223372036854775807) ∧ QRosterLays.Sized l := by
    obtain ⟨m, hm⟩ := h0
    obtain ⟨A, c, l, e, g1, g2, g3, g4⟩ := QRosterLays.read101b hm
    simp [Value.cells] at e
    obtain ⟨rfl, rfl, rfl⟩ := e
    exact ⟨l, rfl, g1, g2, g3, fun x hx => ⟨Nat.le_trans (g4 x hx).1 (Nat.le_trans hpart (by omega)), fun e he => Nat.le_trans ((g4 x hx).2 e he) (Nat.le_trans hpart (by omega))⟩⟩
  clear hA0 hval0 hsz0 hkk0 hbk hpart
  refine (walkUpto a0 cap0 l0 a1 W c0 w0 x0 z0).mono fun e W' ⟨he, bel⟩ => ?_
  subst he
  exact ⟨_, rfl, _, _, _, [], _, [], hW', trodAll_mk1 (shut_bool Try.underlying4 _), (trodAll_cons_mk (Below.trod laidOut (by kernel_rfl) (of_decide_eq_true (by kernel_rfl)) k0 bel lt0) (trodAll_cons_mk (shut_int Try.underlying3 w1) trodAll_mk0)), rfl, bel.frame _, fun h => by cases h⟩
theorem over : Rows.rosterAllUptoRow.holds Try.pinned (Rows.OpenSpec.upto Rows.rosterAllSpec) :=
  OpenClaim.holds_of_cond 8 Try.f8 rfl rfl rfl rfl rfl rfl rfl ⟨rfl, rfl, rfl, rfl, rfl⟩ rfl rfl rfl rfl rfl (by kernel_rfl) Try.func8 (by kernel_rfl)
    (of_decide_eq_true (by kernel_rfl)) (by unfold Func.isWrapper; first | (rw [if_pos (by decide +kernel)]; kernel_rfl) | (rw [if_neg (by decide +kernel)]; exact ⟨rfl, rfl⟩))
    (fun os started H enc _ F => lifted os started H enc F)
theorem proved : Rows.RosterAllUptoSaid := over
#print axioms proved
end Go.Proofs.Ytnmhfcfojbfikaa.rosterAllUpto
namespace Go.Proofs.Ytnmhfcfojbfikaa
/-- The row, under a short name, for the claim. -/
theorem rosterAllUpto_holds : Rows.RosterAllUptoSaid := rosterAllUpto.proved
end Go.Proofs.Ytnmhfcfojbfikaa
