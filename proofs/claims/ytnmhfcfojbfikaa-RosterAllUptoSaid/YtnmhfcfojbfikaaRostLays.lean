/- The walk of sluicelaw07.RosterLays. Conditions: as each theorem says. -/
import Derived.Test.YtnmhfcfojbfikaaRostSpoil
import Derived.Test.YtnmhfcfojbfikaaRostTwin
import Derived.Test.YtnmhfcfojbfikaaRostUnt
import Derived.Test.YtnmhfcfojbfikaaRostRLay
import Derived.Test.YtnmhfcfojbfikaaRostPLay
namespace Go.Proofs.Ytnmhfcfojbfikaa.QRosterLays
open Go.RowKit Go.Proofs.YtnmhfcfojbfikaaW.PrintWords Go.Proofs.YtnmhfcfojbfikaaW.PrintLast Go.Proofs.YtnmhfcfojbfikaaW.PrintMore
set_option linter.unusedVariables false
set_option linter.unusedSimpArgs false
set_option maxHeartbeats 8000000 in
set_option maxRecDepth 100000 in
theorem spoil0 (lo hi cap : Nat) (A : Option Addr) (w : World) : Calls Try.prog 23 #[.slice A 0 cap] w fun e w' => e = .returned (.tuple #[]) ∧ Outs lo hi w w' := by
  go_enter Try.func23, Try.ntmps23
  go_wp2
  go_loopg [2] 0 (fun kq v2 w' => v2 = .int .i64 0 ∧ w' = w)
  case atStart => exact ⟨rfl, rfl⟩
  case round =>
    obtain ⟨rfl, rfl⟩ := hrel
    go_wp2
    go_loopg [4] 0 (fun kq v4 w' => v4 = .int .i64 0 ∧ w' = wr)
    case atStart => exact ⟨rfl, rfl⟩
    case round =>
      obtain ⟨rfl, rfl⟩ := hrel
      go_wp2
      go_end0
      exact ⟨rfl, Outs.refl _ _ _⟩
theorem spoilA (lo hi c : Nat) (A : Option Addr) (xs : List S101) (w : World) (hS : Kd.S k101 101 w lo (fun k => lo ≤ k ∧ k < hi) (.slice A xs.length c) xs) (hlo : lo ≤ w.heap.size) (hm : ∀ x ∈ xs, x.f1.length ≤ 1000000000) (hn : xs.length ≤ 1000000000) :
    Calls Try.prog 23 #[.slice A xs.length c] w fun e w' => e = .returned (.tuple #[]) ∧ Outs lo hi w w' := by
  by_cases h0 : 0 < xs.length
  · obtain ⟨g, cap, e, _⟩ := Kd.S_form hS h0
    injection e with e1 _ e3
    subst e1
    exact spoil lo hi g xs.length c xs w hS hlo hm hn
  · have : xs.length = 0 := by omega
    rw [this]
    exact spoil0 lo hi c A w
theorem drawn_below {w w' : World} (h : Drawn0 w w') : Below w.heap.size w w' := by
  obtain ⟨n, rfl⟩ := h
  exact pw_below_drewN (Below.refl _ _) n
theorem twin_reads {w' : World} {base n c : Nat} {ok : Nat → Prop} {A : Option Addr} {l : List S101} (hl : (l.map some ++ [none]).length = n + 1) (hN : Kd.N kO 101 w' base ok (.slice A (n + 1) c) (l.map some ++ [none])) : n = l.length ∧ l.length + 1 ≤ c ∧ kO.C w' A (l.length + 1) (l.map some ++ [none]) := by
  rw [List.length_append, List.length_map, List.length_singleton] at hl
  obtain rfl : n = l.length := by omega
  obtain ⟨h1, h2, h3⟩ := Kd.N_reads' hN
  rw [← h1] at h3
  exact ⟨rfl, h2, h3⟩
theorem S_within {w : World} {base : Nat} {v : Value} {xs : List S101} {ok : Nat → Prop} (h : Kd.S k101 101 w base ok v xs) : Kd.S k101 101 w base (fun k => base ≤ k ∧ k < w.heap.size) v xs := Kd.S_mono (Kd.S_bound h) (fun k hk => ⟨hk.2.1, hk.2.2.1⟩)
/-- What the law's lists answer. -/
structure Facts (k : Nat) (l0 l1 r : List S101) : Prop where
  t0 : twinM.f k l0 = some (l0.map some ++ [none])
  t1 : twinM.f k l1 = some (l1.map some ++ [none])
  rl : sluiceref07_Lay.f k l0 l1 = some r
  pl : roster_Lay.f k l0 l1 = some r
  sr : sluicelaw07_same.f k r r = some true
  s0 : sluicelaw07_same.f k l0 l0 = some true
  s1 : sluicelaw07_same.f k l1 l1 = some true
  n0 : l0.length < 1000000000000
  n1 : l1.length < 1000000000000
  nr : r.length ≤ 1000000000
  er : ∀ x ∈ r, x.f1.length ≤ 1000000000
set_option maxHeartbeats 8000000 in
set_option maxRecDepth 100000 in
theorem lays (k : Nat) (A0 : Option Addr) (c0 : Nat) (l0 : List S101) (A1 : Option Addr) (c1 : Nat) (l1 r : List S101) (b0 b1 : Bool) (w : World) (hr0 : Kd.C k101 w A0 l0.length l0) (hc0 : l0.length ≤ c0) (hr1 : Kd.C k101 w A1 l1.length l1) (hc1 : l1.length ≤ c1) (hv0 : sluicelaw07_vast.f k l0 = some b0) (hv1 : sluicelaw07_vast.f k l1 = some b1) (hf : b0 = false → b1 = false → Facts k l0 l1 r) :
    Calls Try.prog 9 #[.slice A0 l0.length c0, .slice A1 l1.length c1] w fun e w' => e = .returned (.bool true) ∧ Below w.heap.size w w' := by
  have HR0 := Aside0.mk hr0
  have HC0 := Aside0.mk hc0
  have HR1 := Aside0.mk hr1
  have HC1 := Aside0.mk hc1
  have HV0 := Aside0.mk hv0
  have HV1 := Aside0.mk hv1
  have HF := Aside0.mk hf
  clear hr0 hc0 hr1 hc1 hv0 hv1 hf
  cases b0
  case true =>
    go_enter Try.func9, Try.ntmps9
    go_wp2_with (go_at_call 15; (with_reducible refine (sluicelaw07_vast.calls k _ _ l0 true _ HR0.out HC0.out HV0.out).mono ?_); rintro e w' ⟨rfl, ⟨nd, rfl⟩⟩)
    go_ret
    exact ⟨rfl, pw_below_drewN (Below.refl _ _) _⟩
  case false =>
    cases b1
    case true =>
      go_enter Try.func9, Try.ntmps9
      go_wp2_with (go_at_call 15; first | ((with_reducible refine (sluicelaw07_vast.calls k _ _ l0 false _ HR0.out HC0.out HV0.out).mono ?_); rintro e w' ⟨rfl, ⟨nd, rfl⟩⟩) | ((with_reducible refine (sluicelaw07_vast.calls k _ _ l1 true _ (Kd.C_drewN HR1.out _) HC1.out HV1.out).mono ?_); rintro e w' ⟨rfl, ⟨nd1, rfl⟩⟩))
      go_ret
      exact ⟨rfl, by repeat (first | exact Below.refl _ _ | apply pw_below_drewN)⟩
    case false =>
      have F := HF.out rfl rfl
      clear HF
      have HZ := Aside0.mk (Below.refl w.heap.size w)
      go_enter Try.func9, Try.ntmps9
      go_upto_region 3 with (go_at_call 15; first | ((with_reducible refine (sluicelaw07_vast.calls k _ _ l0 false _ HR0.out HC0.out HV0.out).mono ?_); rintro e w' ⟨rfl, hd⟩; have hb := drawn_below hd; have n0_ := Aside0.mk (Kd.C_below HR0.out hb); have n1_ := Aside0.mk (Kd.C_below HR1.out hb); have n9_ := Aside0.mk (below_lo HZ.out (Nat.le_refl _) hb); clear HZ HR0 HR1 hd hb; have HZ := n9_; have HR0 := n0_; have HR1 := n1_; clear n0_ n1_ n9_) | ((with_reducible refine (sluicelaw07_vast.calls k _ _ l1 false _ HR1.out HC1.out HV1.out).mono ?_); rintro e w' ⟨rfl, hd⟩; have hb := drawn_below hd; have n0_ := Aside0.mk (Kd.C_below HR0.out hb); have n1_ := Aside0.mk (Kd.C_below HR1.out hb); have n9_ := Aside0.mk (below_lo HZ.out (Nat.le_refl _) hb); clear HZ HR0 HR1 hd hb; have HZ := n9_; have HR0 := n0_; have HR1 := n1_; clear n0_ n1_ n9_))
      clear HV0 HV1
      go_upto_region 4 with (go_at_call 16; (with_reducible refine (twinM.calls k _ _ l0 _ _ HR0.out HC0.out F.t0).mono ?_); rintro e w' ⟨n, At, ct, rfl, hl, hN, hb⟩; obtain ⟨rfl, h2, h3⟩ := twin_reads hl hN; have HT := Aside0.mk h3; have HTC := Aside0.mk h2; have n0_ := Aside0.mk (Kd.C_below HR0.out hb); have n1_ := Aside0.mk (Kd.C_below HR1.out hb); have n9_ := Aside0.mk (below_lo HZ.out (Nat.le_refl _) hb); clear HZ HR0 HR1 hl hN hb h2 h3; have HZ := n9_; clear n9_; have HR0 := n0_; have HR1 := n1_; clear n0_ n1_)
      go_upto_region 5 with (go_at_call 16; (with_reducible refine (twinM.calls k _ _ l1 _ _ HR1.out HC1.out F.t1).mono ?_); rintro e w' ⟨n, Au, cu, rfl, hl, hN, hb⟩; obtain ⟨rfl, h2, h3⟩ := twin_reads hl hN; have HU := Aside0.mk h3; have HUC := Aside0.mk h2; have n0_ := Aside0.mk (Kd.C_below HR0.out hb); have n1_ := Aside0.mk (Kd.C_below HR1.out hb); have n2_ := Aside0.mk (Kd.C_below HT.out hb); have n9_ := Aside0.mk (below_lo HZ.out (Nat.le_refl _) hb); clear HZ HR0 HR1 HT hl hN hb h2 h3; have HZ := n9_; clear n9_; have HR0 := n0_; have HR1 := n1_; have HT := n2_; clear n0_ n1_ n2_)
      go_upto_region 6 with (go_at_call 20; (with_reducible refine (sluiceref07_Lay.calls k _ _ l0 _ _ l1 r _ HR0.out HC0.out HR1.out HC1.out F.rl).mono ?_); rintro e w3 ⟨v, rfl, hS, hb⟩; obtain ⟨Aw, cw, rfl⟩ := Kd.S_slice hS; have HW := Aside0.mk (Kd.S_reads' hS).2.2; have HWC := Aside0.mk (Kd.S_reads' hS).2.1; have n0_ := Aside0.mk (Kd.C_below HR0.out hb); have n1_ := Aside0.mk (Kd.C_below HR1.out hb); have n2_ := Aside0.mk (Kd.C_below HT.out hb); have n3_ := Aside0.mk (Kd.C_below HU.out hb); have HP := Aside0.mk (Below.refl w3.heap.size w3); have n9_ := Aside0.mk (below_lo HZ.out (Nat.le_refl _) hb); clear HZ HR0 HR1 HT HU hS hb; have HZ := n9_; clear n9_; have HR0 := n0_; have HR1 := n1_; have HT := n2_; have HU := n3_; clear n0_ n1_ n2_ n3_)
      go_upto_region 7 with (go_at_call 21; (with_reducible refine (roster_Lay.calls k _ _ l0 _ _ l1 r _ (C_marked (Kd.C_below HT.out HP.out) rfl) (Nat.le_of_succ_le HTC.out) (C_marked (Kd.C_below HU.out HP.out) rfl) (Nat.le_of_succ_le HUC.out) F.pl).mono ?_); rintro e w4 ⟨v, rfl, hS, hb⟩; obtain ⟨Aa, ca, rfl⟩ := Kd.S_slice hS; have HA := Aside0.mk (S_within hS); clear hS; have H4 := Aside0.mk hb.size; have n0_ := Aside0.mk (below_lo HP.out (Nat.le_refl _) hb); clear HP hb; have HP := n0_; clear n0_)
      go_upto_region 8 with (go_at_call 21; (with_reducible refine (roster_Lay.calls k _ _ l0 _ _ l1 r _ (C_marked (Kd.C_below HT.out HP.out) rfl) (Nat.le_of_succ_le HTC.out) (C_marked (Kd.C_below HU.out HP.out) rfl) (Nat.le_of_succ_le HUC.out) F.pl).mono ?_); rintro e w5 ⟨v, rfl, hS, hb⟩; obtain ⟨Ab, cb, rfl⟩ := Kd.S_slice hS; have HB := Aside0.mk (S_within hS); clear hS; have n0_ := Aside0.mk (below_lo HP.out (Nat.le_refl _) hb); have n1_ := Aside0.mk (Kd.S_below HA.out hb); clear HP HA hb; have HP := n0_; have HA := n1_; clear n0_ n1_)
      go_upto_region 10 with (first | (go_at_call 22; (with_reducible refine (sluicelaw07_same.calls k _ _ r _ _ r true _ (Kd.S_reads' HA.out).2.2 (Kd.S_reads' HA.out).2.1 (Kd.C_below HW.out HP.out) HWC.out F.sr).mono ?_); rintro e w' ⟨rfl, hd⟩; have hb := drawn_below hd; clear hd; have n0_ := Aside0.mk (below_lo HP.out (Nat.le_refl _) hb); have n1_ := Aside0.mk (Kd.S_below HA.out hb); have n2_ := Aside0.mk (Kd.S_below HB.out hb); clear HP HA HB hb; have HP := n0_; have HA := n1_; have HB := n2_; clear n0_ n1_ n2_) | (go_at_call 22; (with_reducible refine (sluicelaw07_same.calls k _ _ r _ _ r true _ (Kd.S_reads' HB.out).2.2 (Kd.S_reads' HB.out).2.1 (Kd.C_below HW.out HP.out) HWC.out F.sr).mono ?_); rintro e w' ⟨rfl, hd⟩; have hb := drawn_below hd; clear hd; have n0_ := Aside0.mk (below_lo HP.out (Nat.le_refl _) hb); have n1_ := Aside0.mk (Kd.S_below HA.out hb); have n2_ := Aside0.mk (Kd.S_below HB.out hb); clear HP HA HB hb; have HP := n0_; have HA := n1_; have HB := n2_; clear n0_ n1_ n2_) | (go_at_call 19; (with_reducible refine (untouchedM k _ _ l0 _ _ l0 _ (Kd.C_below HT.out HP.out) HTC.out (Kd.C_below HR0.out HP.out) HC0.out F.s0 rfl F.n0).mono ?_); rintro e w' ⟨rfl, hd⟩; have hb := drawn_below hd; clear hd; have n0_ := Aside0.mk (below_lo HP.out (Nat.le_refl _) hb); have n1_ := Aside0.mk (Kd.S_below HA.out hb); have n2_ := Aside0.mk (Kd.S_below HB.out hb); clear HP HA HB hb; have HP := n0_; have HA := n1_; have HB := n2_; clear n0_ n1_ n2_) | (go_at_call 19; (with_reducible refine (untouchedM k _ _ l1 _ _ l1 _ (Kd.C_below HU.out HP.out) HUC.out (Kd.C_below HR1.out HP.out) HC1.out F.s1 rfl F.n1).mono ?_); rintro e w' ⟨rfl, hd⟩; have hb := drawn_below hd; clear hd; have n0_ := Aside0.mk (below_lo HP.out (Nat.le_refl _) hb); have n1_ := Aside0.mk (Kd.S_below HA.out hb); have n2_ := Aside0.mk (Kd.S_below HB.out hb); clear HP HA HB hb; have HP := n0_; have HA := n1_; have HB := n2_; clear n0_ n1_ n2_))
      go_upto_region 11 with (go_at_call 23; (with_reducible refine (spoilA w3.heap.size w4.heap.size _ _ r _ HA.out HP.out.size F.er F.nr).mono ?_); rintro e w6 ⟨rfl, ho⟩; have n0_ := Aside0.mk (HP.out.trans (Outs.below ho HP.out.size)); have n1_ := Aside0.mk (Kd.S_step HB.out (fun j hj hl => ho.block j hl (fun hq => by have := hj.1; have := hq.2; omega))); clear HP HA HB ho; have HP := n0_; have HB := n1_; clear n0_ n1_)
      go_upto_region 13 with (first | (go_at_call 22; (with_reducible refine (sluicelaw07_same.calls k _ _ r _ _ r true _ (Kd.S_reads' HB.out).2.2 (Kd.S_reads' HB.out).2.1 (Kd.C_below HW.out HP.out) HWC.out F.sr).mono ?_); rintro e w' ⟨rfl, hd⟩; have hb := drawn_below hd; clear hd; have n0_ := Aside0.mk (below_lo HP.out (Nat.le_refl _) hb); have n1_ := Aside0.mk (Kd.S_below HB.out hb); clear HP HB hb; have HP := n0_; have HB := n1_; clear n0_ n1_) | (go_at_call 19; (with_reducible refine (untouchedM k _ _ l0 _ _ l0 _ (Kd.C_below HT.out HP.out) HTC.out (Kd.C_below HR0.out HP.out) HC0.out F.s0 rfl F.n0).mono ?_); rintro e w' ⟨rfl, hd⟩; have hb := drawn_below hd; clear hd; have n0_ := Aside0.mk (below_lo HP.out (Nat.le_refl _) hb); have n1_ := Aside0.mk (Kd.S_below HB.out hb); clear HP HB hb; have HP := n0_; have HB := n1_; clear n0_ n1_) | (go_at_call 19; (with_reducible refine (untouchedM k _ _ l1 _ _ l1 _ (Kd.C_below HU.out HP.out) HUC.out (Kd.C_below HR1.out HP.out) HC1.out F.s1 rfl F.n1).mono ?_); rintro e w' ⟨rfl, hd⟩; have hb := drawn_below hd; clear hd; have n0_ := Aside0.mk (below_lo HP.out (Nat.le_refl _) hb); have n1_ := Aside0.mk (Kd.S_below HB.out hb); clear HP HB hb; have HP := n0_; have HB := n1_; clear n0_ n1_))
      have HB3 := Aside0.mk (Kd.S_mono (ok' := fun j => w3.heap.size ≤ j ∧ j < w5.heap.size) (Kd.S_lower HB.out H4.out) (fun j hj => ⟨Nat.le_trans H4.out hj.1, hj.2⟩))
      clear HB
      go_upto_region 14 with (go_at_call 23; (with_reducible refine (spoilA w3.heap.size w5.heap.size _ _ r _ HB3.out HP.out.size F.er F.nr).mono ?_); rintro e w6 ⟨rfl, ho⟩; have n0_ := Aside0.mk (HP.out.trans (Outs.below ho HP.out.size)); clear HP HB3 ho; have HP := n0_; clear n0_)
      go_wp2_with (first | (go_at_call 21; (with_reducible refine (roster_Lay.calls k _ _ l0 _ _ l1 r _ (C_marked (Kd.C_below HT.out HP.out) rfl) (Nat.le_of_succ_le HTC.out) (C_marked (Kd.C_below HU.out HP.out) rfl) (Nat.le_of_succ_le HUC.out) F.pl).mono ?_); rintro e w7 ⟨v, rfl, hS, hb⟩; obtain ⟨Ac, cc, rfl⟩ := Kd.S_slice hS; have HC := Aside0.mk (S_within hS); clear hS; have n0_ := Aside0.mk (below_lo HP.out (Nat.le_refl _) hb); clear HP hb; have HP := n0_; clear n0_) | (go_at_call 22; (with_reducible refine (sluicelaw07_same.calls k _ _ r _ _ r true _ (Kd.S_reads' HC.out).2.2 (Kd.S_reads' HC.out).2.1 (Kd.C_below HW.out HP.out) HWC.out F.sr).mono ?_); rintro e w' ⟨rfl, hd⟩; have hb := drawn_below hd; clear hd; have n0_ := Aside0.mk (below_lo HP.out (Nat.le_refl _) hb); have n1_ := Aside0.mk (Kd.S_below HC.out hb); clear HP HC hb; have HP := n0_; have HC := n1_; clear n0_ n1_) | (go_at_call 19; (with_reducible refine (untouchedM k _ _ l0 _ _ l0 _ (Kd.C_below HT.out HP.out) HTC.out (Kd.C_below HR0.out HP.out) HC0.out F.s0 rfl F.n0).mono ?_); rintro e w' ⟨rfl, hd⟩; have hb := drawn_below hd; clear hd; have n0_ := Aside0.mk (below_lo HP.out (Nat.le_refl _) hb); have n1_ := Aside0.mk (Kd.S_below HC.out hb); clear HP HC hb; have HP := n0_; have HC := n1_; clear n0_ n1_) | (go_at_call 19; (with_reducible refine (untouchedM k _ _ l1 _ _ l1 _ (Kd.C_below HU.out HP.out) HUC.out (Kd.C_below HR1.out HP.out) HC1.out F.s1 rfl F.n1).mono ?_); rintro e w' ⟨rfl, hd⟩; have hb := drawn_below hd; clear hd; have n0_ := Aside0.mk (below_lo HP.out (Nat.le_refl _) hb); have n1_ := Aside0.mk (Kd.S_below HC.out hb); clear HP HC hb; have HP := n0_; have HC := n1_; clear n0_ n1_))
      go_ret
      exact ⟨rfl, below_lo HZ.out (Nat.le_refl _) HP.out⟩
end Go.Proofs.Ytnmhfcfojbfikaa.QRosterLays
