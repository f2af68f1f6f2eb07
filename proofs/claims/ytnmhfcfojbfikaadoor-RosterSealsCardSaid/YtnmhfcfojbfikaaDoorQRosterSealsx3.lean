/- What the functions that the statement RosterSeals reaches come to, and that the given program's calls come to it; written by this session's program printx.py (wip/tpl), which runs the kit's print over the translation with additions of its own. No printed file. Conditions: as each theorem says. -/
import Derived.Test.YtnmhfcfojbfikaaDoorQRosterSealsx0
import Derived.Test.YtnmhfcfojbfikaaDoorQRosterSealsx2
namespace Go.Proofs.YtnmhfcfojbfikaaDoor.QRosterSeals
open Go.RowKit Go.Proofs.YtnmhfcfojbfikaaDoorW.PrintWords Go.Proofs.YtnmhfcfojbfikaaDoorW.PrintLast Go.Proofs.YtnmhfcfojbfikaaDoorW.PrintMore
attribute [local go_sem] max2_int min2_int max_two min_two max_three min_three max_four min_four   -- for this text's walks alone
set_option linter.unusedVariables false
set_option linter.unusedSimpArgs false

/-! ### grain_steps8: function 22 -/
/-- Four steps of the register. -/
def grain_steps8.s4 (r : Int) : Int := Go.bits .xor .u32 (Glob.steps.getD (Go.bits .and .u32 r 15).toNat 0) (r / 16)
def grain_steps8.f (a0 : Int) : Option (Int) := some (grain_steps8.s4 (grain_steps8.s4 a0))
theorem grain_steps8.and_range (r : Int) : 0 ≤ Go.bits .and .u32 r 15 ∧ Go.bits .and .u32 r 15 < 16 := by
  have e : Go.bits .and .u32 r 15 = IntKind.u32.wrap (((BitVec.ofInt 32 r &&& BitVec.ofInt 32 15).toNat : Nat) : Int) := rfl
  have h : (BitVec.ofInt 32 r &&& BitVec.ofInt 32 15).toNat < 2 ^ 4 := by
    rw [BitVec.toNat_and]
    exact Nat.and_lt_two_pow _ (by decide)
  rw [e, IntKind.wrap_u32]
  omega
set_option maxHeartbeats 2000000 in
set_option maxRecDepth 100000 in
theorem grain_steps8.calls (a0 : Int) (r : Int) (w : World) (h : grain_steps8.f a0 = some r) (hGS : Glob.GS w) :
    Calls Tryd.prog 22 #[.int .u32 a0] w fun e w' => e = .returned (.int .u32 r) ∧ Drawn0 w w' := by
  obtain rfl := Option.some.inj h
  clear h
  go_enter Tryd.func22, Tryd.ntmps22
  go_wp2
  go_loopg [0, 3] 2 (fun kq v0 v3 w' => ∃ (i : Nat) (x : Int), v0 = .int .u32 x ∧ v3 = .int .i64 i ∧ kq + i = 2 ∧ Aside0 ((i = 0 → x = a0) ∧ (i = 1 → x = grain_steps8.s4 a0) ∧ (i = 2 → x = grain_steps8.s4 (grain_steps8.s4 a0))) ∧ Drawn0 w w')
  case atStart => exact ⟨0, a0, rfl, rfl, rfl, ⟨⟨fun _ => rfl, (fun h => by cases h), (fun h => by cases h)⟩⟩, Drawn0.refl _⟩
  case round =>
    obtain ⟨i, x, rfl, rfl, hk, HX, ⟨m1, rfl⟩⟩ := hrel
    by_cases hlt : i < 2
    · have hr := grain_steps8.and_range x
      have hc := hGS.cell _ hr.1 hr.2
      obtain ⟨h0, h1⟩ := hr
      have hlt' : (i : Int) < 2 := by omega
      generalize hT : Glob.steps.getD (Go.bits .and .u32 x 15).toNat 0 = T at hc
      have HT := Aside0.mk hT
      clear hT
      go_wp2
      go_roundg (1 - i)
      case measure => omega
      case rel =>
        refine ⟨i + 1, grain_steps8.s4 x, ?_, (by first | rfl | (simp; done)), by omega, ⟨⟨(fun h => by omega), (fun h => ?_), (fun h => ?_)⟩⟩, by repeat (first | exact Drawn0.refl _ | apply Drawn0.step)⟩
        · unfold grain_steps8.s4; rw [HT.out]
        · rw [HX.out.1 (by omega)]
        · rw [HX.out.2.1 (by omega)]
    · have hge : ¬ (i : Int) < 2 := by omega
      have hi : i = 2 := by omega
      have hx := HX.out.2.2 hi
      clear hi
      subst hx
      go_wp2
      go_ret
      exact ⟨by first | rfl | (simp; done) | (simp [*]; done), by repeat (first | exact Drawn0.refl _ | apply Drawn0.step)⟩

/-! ### grain_More: function 18 -/
def grain_More.l0 : Nat → Int → List Int → Int → Int → Option (Int)
  | 0, _, _, _, _ => none
  | k + 1, x5, x10, x11, x12 => if x12 < x11 then (if 0 ≤ x12 then (if x12 < (x10.length : Int) then ((grain_steps8.f (Go.bits .xor .u32 x5 ((rd x10 x12) % 4294967296))).bind fun t127 => (grain_More.l0 k t127 x10 x11 (wrap64 (x12 + 1)))) else (none)) else (none)) else (some (Go.bits .xor .u32 4294967295 x5))
def grain_More.f (k : Nat) (a0 : Int) (l1 : List Int) : Option (Int) := grain_More.l0 k (Go.bits .xor .u32 4294967295 a0) l1 (l1.length : Int) 0
theorem grain_More.mono_l : ∀ k, (∀ y0 y1 y2 y3, LeO (grain_More.l0 k y0 y1 y2 y3) (grain_More.l0 (k + 1) y0 y1 y2 y3))
  | 0 => fun _ _ _ _ r h => by simp [grain_More.l0] at h
  | k + 1 => by
    have ih0 := grain_More.mono_l k
    · intro y0 y1 y2 y3
      unfold grain_More.l0
      repeat' first
      | (with_reducible exact ih0 _ _ _ _)
      | (with_reducible exact LeO.refl _)
      | (with_reducible exact LeO.none _)
      | (with_reducible refine LeO.ite ?_ ?_)
      | (with_reducible refine LeO.bind ?_ (fun _ => ?_))
      | exact ih0 _ _ _ _
      | exact LeO.none _
      | refine LeO.ite ?_ ?_
      | refine LeO.bind ?_ (fun _ => ?_)
theorem grain_More.mono : ∀ a0 a1 k, LeO (grain_More.f k a0 a1) (grain_More.f (k + 1) a0 a1) := by
  intro a0 a1 k
  have ih0 := grain_More.mono_l k
  unfold grain_More.f
  repeat' first
      | (with_reducible exact ih0 _ _ _ _)
      | (with_reducible exact LeO.refl _)
      | (with_reducible exact LeO.none _)
      | (with_reducible refine LeO.ite ?_ ?_)
      | (with_reducible refine LeO.bind ?_ (fun _ => ?_))
      | exact ih0 _ _ _ _
      | exact LeO.none _
      | refine LeO.ite ?_ ?_
      | refine LeO.bind ?_ (fun _ => ?_)
set_option maxHeartbeats 8000000 in
set_option maxRecDepth 100000 in
theorem grain_More.calls (k : Nat) (a0 : Int) (A1 : Option Addr) (c1 : Nat) (l1 : List Int) (r : Int) (w : World) (hr1 : Kd.C (Kd.int .u8) w A1 l1.length l1) (hc1 : l1.length ≤ c1) (h : grain_More.f k a0 l1 = some r) (hGS : Glob.GS w) :
    Calls Tryd.prog 18 #[.int .u32 a0, .slice A1 l1.length c1] w fun e w' => e = .returned (.int .u32 r) ∧ Drawn0 w w' := by
  have HR1 := Aside0.mk hr1
  have HC1 := Aside0.mk hc1
  clear hr1 hc1
  have H : (grain_More.l0 k (Go.bits .xor .u32 4294967295 a0) l1 (l1.length : Int) 0) = some r := h
  clear h
  have H' := Aside0.mk H
  clear H
  go_enter Tryd.func18, Tryd.ntmps18
  go_wp2
  go_loopg [5, 12] k (fun kq v5 v12 w' => ∃ (x5_1 : Int) (x12_1 : Int), v5 = .int .u32 x5_1 ∧ v12 = .int .i64 x12_1 ∧ Aside0 (grain_More.l0 kq x5_1 l1 (l1.length : Int) x12_1 = some r) ∧ Aside0 (kq ≤ k) ∧ Drawn0 w w')
  case atStart => exact ⟨(Go.bits .xor .u32 4294967295 a0), (0), (by first | rfl | (simp; done) | (simp [*]; done)), (by first | rfl | (simp; done) | (simp [*]; done)), H', ⟨Nat.le_refl _⟩, by repeat (first | exact Drawn0.refl _ | apply Drawn0.step)⟩
  case round =>
    clear H'
    try clear c1
    try clear p2
    obtain ⟨x5_1, x12_1, rfl, rfl, HA, HK1, ⟨m1, rfl⟩⟩ := hrel
    cases gk with
    | zero => exact absurd HA.out (by simp [grain_More.l0])
    | succ k1 =>
      have H := HA.out
      clear HA
      simp only [grain_More.l0] at H
      by_cases c3 : x12_1 < (l1.length : Int)
      · rw [if_pos c3] at H
        have c3b0 : decide (x12_1 < (l1.length : Int)) = true := decide_eq_true c3
        clear c3
        by_cases c4 : 0 ≤ x12_1
        · rw [if_pos c4] at H
          have c4b0 : decide (0 ≤ x12_1) = true := decide_eq_true c4
          clear c4
          by_cases c5 : x12_1 < (l1.length : Int)
          · rw [if_pos c5] at H
            have c5b0 : decide (x12_1 < (l1.length : Int)) = true := decide_eq_true c5
            clear c5
            replace H := Option.bind_eq_some_iff.mp H
            obtain ⟨t127, A60, H⟩ := H
            replace H : (grain_More.l0 k1 t127 l1 (l1.length : Int) (wrap64 (x12_1 + 1))) = some r := H
            have A6 := Aside0.mk A60
            clear A60
            have H' := Aside0.mk H
            clear H
            have p126 : 0 ≤ (x12_1 : Int) := of_decide_eq_true (by first | (with_reducible assumption) | assumption)
            have q126 : x12_1 < (l1.length : Int) := of_decide_eq_true (by first | (with_reducible assumption) | assumption)
            obtain ⟨ad126, e126, hx126_0⟩ := Kd.at_int HR1.out x12_1 p126 q126
            cases e126
            replace p126 := eq_true p126
            replace q126 := eq_true q126
            go_wp2_with (first | ((with_reducible refine gate_callee (f := 22) rfl ?_); refine goesL_ (some 20) rfl rfl Tryd.func22 (by kernel_rfl) rfl #[.int .u32 (Go.bits .xor .u32 x5_1 ((rd l1 x12_1) % 4294967296))] rfl (by (try simp only [List.map_toArray, List.map_cons, List.map_nil]); first | done | rfl | (simp only [List.length_drop, List.length_take]; rfl)) ?_; (with_reducible refine (grain_steps8.calls (Go.bits .xor .u32 x5_1 ((rd l1 x12_1) % 4294967296)) t127 _ A6.out (by first | exact hGS | ((repeat (first | exact hGS | apply Glob.GS.drewN | apply Glob.GS.drew | apply Glob.GS.alloc)); done) | exact Glob.GS.below hGS (by repeat (first | (with_reducible first | exact HB.out | apply below_alloc | apply pw_below_drewN | apply below_drew1) | exact HB.out)))).mono ?_); rintro e w' ⟨rfl, ⟨nd, rfl⟩⟩; refine ⟨_, rfl, ?_⟩))
            go_roundg k1
            case measure => have := HK1.out; omega
            case rel => exact ⟨(t127), (wrap64 (x12_1 + 1)), (by first | rfl | (simp; done) | (simp [*]; done)), (by first | rfl | (simp; done) | (simp [*]; done)), H', ⟨by have := HK1.out; omega⟩, by repeat (first | exact Drawn0.refl _ | apply Drawn0.step)⟩
          · rw [if_neg c5] at H
            exact absurd H (by simp)
        · rw [if_neg c4] at H
          exact absurd H (by simp)
      · rw [if_neg c3] at H
        have c3b0 : decide (x12_1 < (l1.length : Int)) = false := decide_eq_false c3
        clear c3
        obtain rfl := Option.some.inj H
        go_wp2
        go_ret
        exact ⟨by first | rfl | (simp; done) | (simp [*]; done), by repeat (first | exact Drawn0.refl _ | apply Drawn0.step)⟩

/-! ### grain_CRC: function 15 -/
def grain_CRC.l0 : Nat → Int → List (List Int) → Int → Int → Option (Int)
  | 0, _, _, _, _ => none
  | k + 1, x3, x6, x7, x8 => if x8 < x7 then (if 0 ≤ x8 then (if x8 < (x6.length : Int) then ((grain_More.f k x3 (rd_L1 x6 x8)).bind fun t129 => (grain_CRC.l0 k t129 x6 x7 (wrap64 (x8 + 1)))) else (none)) else (none)) else (some x3)
def grain_CRC.f (k : Nat) (l0 : List (List Int)) : Option (Int) := grain_CRC.l0 k 0 l0 (l0.length : Int) 0
theorem grain_CRC.mono_l : ∀ k, (∀ y0 y1 y2 y3, LeO (grain_CRC.l0 k y0 y1 y2 y3) (grain_CRC.l0 (k + 1) y0 y1 y2 y3))
  | 0 => fun _ _ _ _ r h => by simp [grain_CRC.l0] at h
  | k + 1 => by
    have ih0 := grain_CRC.mono_l k
    · intro y0 y1 y2 y3
      unfold grain_CRC.l0
      repeat' first
      | (with_reducible exact ih0 _ _ _ _)
      | (with_reducible exact grain_More.mono _ _ _)
      | (with_reducible exact LeO.refl _)
      | (with_reducible exact LeO.none _)
      | (with_reducible refine LeO.ite ?_ ?_)
      | (with_reducible refine LeO.bind ?_ (fun _ => ?_))
      | exact ih0 _ _ _ _
      | exact grain_More.mono _ _ _
      | exact LeO.none _
      | refine LeO.ite ?_ ?_
      | refine LeO.bind ?_ (fun _ => ?_)
theorem grain_CRC.mono : ∀ a0 k, LeO (grain_CRC.f k a0) (grain_CRC.f (k + 1) a0) := by
  intro a0 k
  have ih0 := grain_CRC.mono_l k
  unfold grain_CRC.f
  repeat' first
      | (with_reducible exact ih0 _ _ _ _)
      | (with_reducible exact grain_More.mono _ _ _)
      | (with_reducible exact LeO.refl _)
      | (with_reducible exact LeO.none _)
      | (with_reducible refine LeO.ite ?_ ?_)
      | (with_reducible refine LeO.bind ?_ (fun _ => ?_))
      | exact ih0 _ _ _ _
      | exact grain_More.mono _ _ _
      | exact LeO.none _
      | refine LeO.ite ?_ ?_
      | refine LeO.bind ?_ (fun _ => ?_)
set_option maxHeartbeats 8000000 in
set_option maxRecDepth 100000 in
theorem grain_CRC.calls (k : Nat) (A0 : Option Addr) (c0 : Nat) (l0 : List (List Int)) (r : Int) (w : World) (hr0 : Kd.C (Kd.slice 5 (Kd.int .u8)) w A0 l0.length l0) (hc0 : l0.length ≤ c0) (h : grain_CRC.f k l0 = some r) (hGS : Glob.GS w) :
    Calls Tryd.prog 15 #[.slice A0 l0.length c0] w fun e w' => e = .returned (.int .u32 r) ∧ Drawn0 w w' := by
  have HR0 := Aside0.mk hr0
  have HC0 := Aside0.mk hc0
  clear hr0 hc0
  have H : (grain_CRC.l0 k 0 l0 (l0.length : Int) 0) = some r := h
  clear h
  have H' := Aside0.mk H
  clear H
  go_enter Tryd.func15, Tryd.ntmps15
  go_wp2
  go_loopg [3, 8] k (fun kq v3 v8 w' => ∃ (x3_1 : Int) (x8_1 : Int), v3 = .int .u32 x3_1 ∧ v8 = .int .i64 x8_1 ∧ Aside0 (grain_CRC.l0 kq x3_1 l0 (l0.length : Int) x8_1 = some r) ∧ Aside0 (kq ≤ k) ∧ Drawn0 w w')
  case atStart => exact ⟨(0), (0), (by first | rfl | (simp; done) | (simp [*]; done)), (by first | rfl | (simp; done) | (simp [*]; done)), H', ⟨Nat.le_refl _⟩, by repeat (first | exact Drawn0.refl _ | apply Drawn0.step)⟩
  case round =>
    clear H'
    try clear c1
    obtain ⟨x3_1, x8_1, rfl, rfl, HA, HK1, ⟨m1, rfl⟩⟩ := hrel
    cases gk with
    | zero => exact absurd HA.out (by simp [grain_CRC.l0])
    | succ k1 =>
      have H := HA.out
      clear HA
      simp only [grain_CRC.l0] at H
      by_cases c2 : x8_1 < (l0.length : Int)
      · rw [if_pos c2] at H
        have c2b0 : decide (x8_1 < (l0.length : Int)) = true := decide_eq_true c2
        clear c2
        by_cases c3 : 0 ≤ x8_1
        · rw [if_pos c3] at H
          have c3b0 : decide (0 ≤ x8_1) = true := decide_eq_true c3
          clear c3
          by_cases c4 : x8_1 < (l0.length : Int)
          · rw [if_pos c4] at H
            have c4b0 : decide (x8_1 < (l0.length : Int)) = true := decide_eq_true c4
            clear c4
            replace H := Option.bind_eq_some_iff.mp H
            obtain ⟨t129, A50, H⟩ := H
            replace H : (grain_CRC.l0 k1 t129 l0 (l0.length : Int) (wrap64 (x8_1 + 1))) = some r := H
            have A5 := Aside0.mk A50
            clear A50
            have H' := Aside0.mk H
            clear H
            have p128 : 0 ≤ (x8_1 : Int) := of_decide_eq_true (by first | (with_reducible assumption) | assumption)
            have q128 : x8_1 < (l0.length : Int) := of_decide_eq_true (by first | (with_reducible assumption) | assumption)
            obtain ⟨ad128, A128_0, c128_0, e128, hx128_0, hl128_0, hi128_0⟩ := at_L1 HR0.out x8_1 p128 q128
            cases e128
            have HR128_0 := Aside0.mk hi128_0
            have HC128_0 := Aside0.mk hl128_0
            clear hi128_0 hl128_0
            replace p128 := eq_true p128
            replace q128 := eq_true q128
            go_wp2_with (first | ((with_reducible refine gate_callee (f := 18) rfl ?_); refine goesL_ (some 14) rfl rfl Tryd.func18 (by kernel_rfl) rfl #[.int .u32 x3_1, .slice A128_0 (rd_L1 l0 x8_1).length c128_0] rfl (by (try simp only [List.map_toArray, List.map_cons, List.map_nil]); first | done | rfl | (simp only [List.length_drop, List.length_take]; rfl)) ?_; (with_reducible refine (grain_More.calls k1 x3_1 _ _ (rd_L1 l0 x8_1) t129 _ ?side1 ?side2 A5.out (by first | exact hGS | ((repeat (first | exact hGS | apply Glob.GS.drewN | apply Glob.GS.drew | apply Glob.GS.alloc)); done) | exact Glob.GS.below hGS (by repeat (first | (with_reducible first | exact HB.out | apply below_alloc | apply pw_below_drewN | apply below_drew1) | exact HB.out)))).mono ?_); (case side1 => repeat (first | exact HR128_0.out | (with_reducible refine Kd.C_alloc ?_ _) | (with_reducible refine Kd.C_drewN ?_ _) | (with_reducible refine Kd.C_drew ?_))); (case side2 => exact HC128_0.out); rintro e w' ⟨rfl, ⟨nd, rfl⟩⟩; refine ⟨_, rfl, ?_⟩))
            go_roundg k1
            case measure => have := HK1.out; omega
            case rel => exact ⟨(t129), (wrap64 (x8_1 + 1)), (by first | rfl | (simp; done) | (simp [*]; done)), (by first | rfl | (simp; done) | (simp [*]; done)), H', ⟨by have := HK1.out; omega⟩, by repeat (first | exact Drawn0.refl _ | apply Drawn0.step)⟩
          · rw [if_neg c4] at H
            exact absurd H (by simp)
        · rw [if_neg c3] at H
          exact absurd H (by simp)
      · rw [if_neg c2] at H
        have c2b0 : decide (x8_1 < (l0.length : Int)) = false := decide_eq_false c2
        clear c2
        obtain rfl := Option.some.inj H
        go_wp2
        go_ret
        exact ⟨by first | rfl | (simp; done) | (simp [*]; done), by repeat (first | exact Drawn0.refl _ | apply Drawn0.step)⟩

/-! ### roster_sealOf: function 10 -/
/-! The line that seals a text. -/
def roster_sealOf.f (k : Nat) (a0 : ByteArray) : Option (ByteArray) := if a0.size ≤ 9223372036854775807 then (grain_CRC.f k [bytesOf a0]).bind fun s => (roster_hex32.f s).bind fun t => if t.size ≤ 1000 then some ((⟨#[59, 32, 115, 101, 97, 108, 32]⟩ ++ t) ++ ⟨#[10]⟩) else none else none
theorem roster_sealOf.mono : ∀ a0 k, LeO (roster_sealOf.f k a0) (roster_sealOf.f (k + 1) a0) := by
  intro a0 k
  unfold roster_sealOf.f
  exact LeO.ite (LeO.bind (grain_CRC.mono _ _) (fun _ => LeO.refl _)) (LeO.none _)
set_option maxHeartbeats 2000000 in
set_option maxRecDepth 100000 in
theorem roster_sealOf.calls (k : Nat) (a0 : ByteArray) (r : ByteArray) (w : World) (h : roster_sealOf.f k a0 = some r) (hGQ : Glob.GQ w) (hGS : Glob.GS w) :
    Calls Tryd.prog 10 #[.string a0] w fun e w' => e = .returned (.string r) ∧ Below w.heap.size w w' := by
  unfold roster_sealOf.f at h
  by_cases c : a0.size ≤ 9223372036854775807
  case neg => rw [if_neg c] at h; cases h
  rw [if_pos c] at h
  obtain ⟨s, hs, h⟩ := Option.bind_eq_some_iff.1 h
  obtain ⟨t, ht, h⟩ := Option.bind_eq_some_iff.1 h
  by_cases c2 : t.size ≤ 1000
  case neg => rw [if_neg c2] at h; cases h
  rw [if_pos c2] at h
  obtain rfl := Option.some.inj h
  clear h
  have HS := Aside0.mk hs
  have HT := Aside0.mk ht
  have HGQ := Aside0.mk hGQ
  have HGS := Aside0.mk hGS
  have kb := fun W => print_bytes (P := Tryd.prog) 9 37 5 Tryd.underlying9 Tryd.underlying37 Tryd.underlying5 a0 W
  have hC : ∀ W, (Kd.int .u8).C (Lib.bytesWorld W 5 a0) (some ⟨W.heap.size, 0, none⟩) (bytesOf a0).length (bytesOf a0) := fun W => by
    rw [bytesOf_length]
    exact Kd.C_of_reads (d := (0 : Int)) (h1 := fun _ => rfl) (bytes_reads W 5 a0 c)
  have HC := Aside0.mk hC
  have hcap : (bytesOf a0).length ≤ grownCap w a0.size 0 5 := by rw [bytesOf_length]; exact grownCap_ge w a0.size 0 5
  have HCAP := Aside0.mk hcap
  have hL := bytesOf_length a0
  have hbb := fun W => bytes_below (Below.refl W.heap.size W) (Nat.le_refl _) 5 a0
  have HBB := Aside0.mk hbb
  clear hs ht hGQ hGS hC hcap c hbb
  rw [← hL] at kb HCAP
  clear hL
  go_enter Tryd.func10, Tryd.ntmps10
  have hcb : Below w.heap.size w ((Lib.bytesWorld w 5 a0).alloc (Obj.cells #[Value.slice (some ⟨w.heap.size, 0, none⟩) (bytesOf a0).length (grownCap w (bytesOf a0).length 0 5)] 37)) := (HBB.out w).alloc (HBB.out w).size _
  have HCB := Aside0.mk hcb
  have hrow : (Kd.slice 5 (Kd.int .u8)).C ((Lib.bytesWorld w 5 a0).alloc (Obj.cells #[Value.slice (some ⟨w.heap.size, 0, none⟩) (bytesOf a0).length (grownCap w (bytesOf a0).length 0 5)] 37)) (some ⟨(Lib.bytesWorld w 5 a0).heap.size, 0, none⟩) [bytesOf a0].length [bytesOf a0] := by
    refine ⟨rfl, (by show 1 ≤ 9223372036854775807; decide), fun _ => ⟨_, rfl, fun j p hj => ?_⟩⟩
    have hj0 : j = 0 := by
      have := (List.getElem?_eq_some_iff.1 hj).1
      simp at this
      exact this
    subst hj0
    obtain rfl : bytesOf a0 = p := by simpa using hj
    refine ⟨[Value.slice (some ⟨w.heap.size, 0, none⟩) (bytesOf a0).length (grownCap w (bytesOf a0).length 0 5)], rfl, ⟨_, _, rfl, HCAP.out, Kd.C_alloc (HC.out w) _⟩, fun i u hi => ?_⟩
    have hi0 : i = 0 := by
      cases i with
      | zero => rfl
      | succ i => simp at hi
    subst hi0
    obtain rfl : Value.slice (some ⟨w.heap.size, 0, none⟩) (bytesOf a0).length (grownCap w (bytesOf a0).length 0 5) = u := by simpa using hi
    show World.cell? _ (Addr.add ⟨_, 0, none⟩ 0) = _
    rw [add_plain, blk_cell (heap_alloc_new _ _) 0]
    rfl
  have HROW := Aside0.mk hrow
  clear hcb hrow
  go_wp2_with (fail)
  generalize (Lib.bytesWorld w 5 a0).heap.size = G at HROW ⊢
  generalize (Lib.bytesWorld w 5 a0).alloc (Obj.cells #[Value.slice (some ⟨w.heap.size, 0, none⟩) (bytesOf a0).length (grownCap w (bytesOf a0).length 0 5)] 37) = W1 at HROW HCB ⊢
  have hs1 : t.size ≤ 1000 := c2
  have HB := HCB
  refine (grain_CRC.calls k _ _ [bytesOf a0] s W1 HROW.out (Nat.le_refl _) HS.out (Glob.GS.below HGS.out HB.out)).mono ?_
  rintro e w' ⟨rfl, ⟨nd, rfl⟩⟩
  go_wp2_with (go_at_call 14; (with_reducible refine (roster_hex32.calls s t _ HT.out (Glob.GQ.drewN (Glob.GQ.below HGQ.out HB.out) _)).mono ?_); rintro e w2 ⟨rfl, hb2⟩; have HB2 := Aside0.mk (below_step (pw_below_drewN HB.out _) hb2); clear hb2)
  go_ret
  exact ⟨rfl, HB2.out⟩

end Go.Proofs.YtnmhfcfojbfikaaDoor.QRosterSeals
