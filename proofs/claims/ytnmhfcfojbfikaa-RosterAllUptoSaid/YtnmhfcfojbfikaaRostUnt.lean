/- untouched of a marked list of sections that reads as the other: it answers true and turns nothing. Conditions: as each theorem says. -/
import Derived.Test.YtnmhfcfojbfikaaQRosterLaysx3
import Derived.Test.YtnmhfcfojbfikaaRostKinds
namespace Go.Proofs.Ytnmhfcfojbfikaa.QRosterLays
open Go.RowKit Go.Proofs.YtnmhfcfojbfikaaW.PrintWords Go.Proofs.YtnmhfcfojbfikaaW.PrintLast Go.Proofs.YtnmhfcfojbfikaaW.PrintMore
set_option linter.unusedVariables false
set_option linter.unusedSimpArgs false
theorem at_marked {w : World} {A : Option Addr} {xs : List S101} (h : kO.C w A (xs.length + 1) (xs.map some ++ [none])) (i : Nat) (hi : i < xs.length) :
    ∃ ad A1 c1, A = some ad ∧ w.cell? (ad.add (i * 2)) = some (.string xs[i].f0) ∧ w.cell? ⟨(ad.add (i * 2)).block, (ad.add (i * 2)).off + 1, none⟩ = some (.slice A1 xs[i].f1.length c1) ∧ xs[i].f1.length + 1 ≤ c1 ∧ k34.C w A1 (xs[i].f1.length + 1) (xs[i].f1 ++ [mk34]) := by
  obtain ⟨ad, e, hc⟩ := h.2.2 (by omega)
  have hj : (xs.map some ++ [none])[i]? = some (some xs[i]) := by
    rw [List.getElem?_append_left (by rw [List.length_map]; exact hi), List.getElem?_map, List.getElem?_eq_getElem hi]
    rfl
  obtain ⟨c, hs, hk, hcell⟩ := hc i _ hj
  obtain ⟨A1, c1, rfl, hl1, hc1⟩ := hk
  exact ⟨ad, A1, c1, e, hcell 0 _ rfl, by rw [← add_field _ _ 1 (by omega)]; exact hcell 1 _ rfl, hl1, hc1⟩
theorem at_mark {w : World} {A : Option Addr} {xs : List S101} (h : kO.C w A (xs.length + 1) (xs.map some ++ [none])) :
    ∃ ad, A = some ad ∧ w.cell? (ad.add (xs.length * 2)) = some (.string (⟨#[109, 97, 114, 107]⟩ : ByteArray)) := by
  obtain ⟨ad, e, hc⟩ := h.2.2 (by omega)
  have hj : (xs.map some ++ [none])[xs.length]? = some none := by
    rw [List.getElem?_append_right (by rw [List.length_map]; exact Nat.le_refl _), List.length_map, Nat.sub_self]
    rfl
  obtain ⟨c, hs, hk, hcell⟩ := hc _ _ hj
  obtain rfl : c = [.string (⟨#[109, 97, 114, 107]⟩ : ByteArray), .slice none 0 0] := hk
  exact ⟨ad, e, hcell 0 _ rfl⟩
theorem cut_more (t e : TypeId) (kh : IntKind) {i : TypeInfo} (ht : Try.prog.underlying t = some (.slice e)) (hi : Try.prog.info? e = some i) (A : Option Addr) (n c : Nat) (hc : n + 1 ≤ c) :
    ∀ W : World, (Instr.slice t (.slice A n c) none (some (.int kh ((n : Int) + 1))) none).run Try.prog W = .ok (.slice A (n + 1) c) W := by
  intro W
  have hel : Try.prog.elem t = e := by simp [Program.elem, ht]
  have hu : Try.prog.underlying t = some (.slice (Try.prog.elem t)) := by rw [hel]; exact ht
  rw [run_slice_h W t A n c hu kh ((n : Int) + 1) (by omega) (by omega), hel]
  have ha : (A.map fun x => x.add 0) = A := by cases A <;> simp [Addr.add]
  simp [sizeOf, typeInfo, hi, sliced, Result.andThen, ha]
set_option maxHeartbeats 8000000 in
set_option maxRecDepth 100000 in
theorem untouchedM (k : Nat) (A0 : Option Addr) (c0 : Nat) (xs : List S101) (A1 : Option Addr) (c1 : Nat) (ys : List S101) (w : World) (hr0 : kO.C w A0 (xs.length + 1) (xs.map some ++ [none])) (hc0 : xs.length + 1 ≤ c0) (hr1 : Kd.C k101 w A1 ys.length ys) (hc1 : ys.length ≤ c1) (h : sluicelaw07_same.f k xs ys = some true) (hl : xs.length = ys.length) (hm : xs.length < 1000000000000) :
    Calls Try.prog 19 #[.slice A0 xs.length c0, .slice A1 ys.length c1] w fun e w' => e = .returned (.bool true) ∧ Drawn0 w w' := by
  have hu34 := Try.underlying34
  have HR0 := Aside0.mk hr0
  have HC0 := Aside0.mk (show xs.length ≤ c0 by omega)
  have HR1 := Aside0.mk hr1
  have HC1 := Aside0.mk hc1
  have HS := Aside0.mk h
  have HL := Aside0.mk hl
  have hC0 : k101.C w A0 xs.length xs := C_marked hr0 rfl
  have HX := Aside0.mk hC0
  obtain ⟨i1, hi1, _, _, _⟩ := info_parts info101
  obtain ⟨i2, hi2, _, _, _⟩ := info_parts info34
  have hcA := cut_more 25 101 .i64 Try.underlying25 hi1 A0 xs.length c0 hc0
  obtain ⟨ad, rfl, hmk⟩ := at_mark hr0
  have b1 : ((xs.length : Int) != (ys.length : Int)) = false := by rw [hl]; simp
  have p1 : (0 ≤ (xs.length : Int)) = True := eq_true (by omega)
  have p2 : ((xs.length : Int) < (xs.length : Int) + 1) = True := eq_true (by omega)
  have p3 : (xs.length : Int) ≤ 1000000000000 := by omega
  clear hr0 hr1 hc1 h hl hC0 hc0 hi1
  go_enter Try.func19, Try.ntmps19
  go_wp2_with (go_at_call 22; (with_reducible refine (sluicelaw07_same.calls k _ _ xs _ _ ys true _ HX.out HC0.out HR1.out HC1.out HS.out).mono ?_); rintro e w' ⟨rfl, ⟨nd, rfl⟩⟩)
  go_loopg [6] xs.length (fun kq v6 w' => ∃ (i : Nat), v6 = .int .i64 (i : Int) ∧ Aside0 (kq + i = xs.length) ∧ Drawn0 w w')
  case atStart => exact ⟨0, rfl, ⟨rfl⟩, by repeat (first | exact Drawn0.refl _ | apply Drawn0.step)⟩
  case round =>
    clear hmk b1 p1 p2
    obtain ⟨i, rfl, HK, ⟨m1, rfl⟩⟩ := hrel
    by_cases hi : i < xs.length
    · obtain ⟨ad', A2, c2, e', hx0, hx1, hl2, hc2⟩ := at_marked HR0.out i hi
      cases e'
      have q1 : ((i : Int) < (xs.length : Int)) = True := eq_true (by omega)
      have b1 : decide ((i : Int) < (xs.length : Int)) = true := decide_eq_true (by omega)
      have p1 : (0 ≤ (i : Int)) = True := eq_true (by omega)
      have hlen := hc2.2.1
      obtain ⟨ad2, e2, hy0, hy1⟩ := at_T34 hc2 (xs[i].f1.length : Int) (by omega) (by omega)
      have hrd : rd_T34 (xs[i].f1 ++ [mk34]) (xs[i].f1.length : Int) = mk34 := by
        unfold rd_T34
        rw [Int.toNat_natCast, List.getD_eq_getElem?_getD, List.getElem?_append_right (Nat.le_refl _), Nat.sub_self]
        rfl
      rw [hrd, Int.toNat_natCast] at hy0 hy1
      replace hy0 : w.cell? (ad2.add (xs[i].f1.length * 2)) = some (.string (⟨#[109, 97, 114, 107]⟩ : ByteArray)) := hy0
      replace hy1 : w.cell? ⟨(ad2.add (xs[i].f1.length * 2)).block, (ad2.add (xs[i].f1.length * 2)).off + 1, none⟩ = some (.string (⟨#[98, 101, 104, 105, 110, 100]⟩ : ByteArray)) := hy1
      have hcB := cut_more 28 34 .i64 Try.underlying28 hi2 A2 xs[i].f1.length c2 hl2
      generalize xs[i].f1.length = n at hx1 hlen hy0 hy1 hcB
      subst e2
      clear hrd hc2 hl2
      have p4 : (0 ≤ (n : Int)) = True := eq_true (by omega)
      have p5 : ((n : Int) < (n : Int) + 1) = True := eq_true (by omega)
      have hgk : 0 < gk := by have := HK.out; omega
      have HK' : Aside0 (gk - 1 + (i + 1) = xs.length) := ⟨by have := HK.out; omega⟩
      have hw : wrap64 ((i : Int) + 1) = ((i + 1 : Nat) : Int) := by unfold wrap64; omega
      clear HK
      go_wp2
      go_roundg (gk - 1)
      case measure => omega
      case rel => exact ⟨i + 1, (by first | rfl | (simp; done)), HK', by repeat (first | exact Drawn0.refl _ | apply Drawn0.step)⟩
    · have hi' : i = xs.length := by have := HK.out; omega
      subst hi'
      have b1 : decide ((xs.length : Int) < (xs.length : Int)) = false := decide_eq_false (by omega)
      clear HK
      go_wp2
      go_ret
      exact ⟨rfl, by repeat (first | exact Drawn0.refl _ | apply Drawn0.step)⟩
end Go.Proofs.Ytnmhfcfojbfikaa.QRosterLays
