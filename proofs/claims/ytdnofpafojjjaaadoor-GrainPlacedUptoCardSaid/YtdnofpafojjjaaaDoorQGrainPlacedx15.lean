/- What the functions that the statement GrainPlaced reaches come to, and that the given program's calls come to it; written by this session's program printx.py (wip/tpl), which runs the kit's print over the translation with additions of its own. No printed file. Conditions: as each theorem says. -/
import Derived.Test.YtdnofpafojjjaaaDoorQGrainPlacedx0
import Derived.Test.YtdnofpafojjjaaaDoorQGrainPlacedx2
import Derived.Test.YtdnofpafojjjaaaDoorQGrainPlacedx3
import Derived.Test.YtdnofpafojjjaaaDoorQGrainPlacedx5
import Derived.Test.YtdnofpafojjjaaaDoorQGrainPlacedx6
import Derived.Test.YtdnofpafojjjaaaDoorQGrainPlacedx7
import Derived.Test.YtdnofpafojjjaaaDoorQGrainPlacedx9
import Derived.Test.YtdnofpafojjjaaaDoorQGrainPlacedx11
import Derived.Test.YtdnofpafojjjaaaDoorQGrainPlacedx13
import Derived.Test.YtdnofpafojjjaaaDoorQGrainPlacedx14
namespace Go.Proofs.YtdnofpafojjjaaaDoor.QGrainPlaced
open Go.RowKit Go.Proofs.YtdnofpafojjjaaaDoorW.PrintWords Go.Proofs.YtdnofpafojjjaaaDoorW.PrintLast Go.Proofs.YtdnofpafojjjaaaDoorW.PrintMore
attribute [local go_sem] max2_int min2_int max_two min_two max_three min_three max_four min_four   -- for this text's walks alone
set_option linter.unusedVariables false
set_option linter.unusedSimpArgs false

/-! ### sluicelaw01_GrainPlaced: function 8 -/
mutual
def sluicelaw01_GrainPlaced.j0 : Nat → List Int → List Int → Int → Int → List Int → Bool → Option (Bool)
  | 0, _, _, _, _, _, _ => none
  | k + 1, x1, x2, x3, x4, x11, x63 => if x63 = true then (some false) else (sluicelaw01_GrainPlaced.l0 k x1 x2 x3 x4 x11 0)
def sluicelaw01_GrainPlaced.j2 : Nat → List Int → Int → Int → List Int → Option (Bool)
  | 0, _, _, _, _ => none
  | k + 1, x2, x3, x4, x11 => (grain_Get.f x11 0 2).bind fun bt137 => ((sluiceref01_Get.f k x11 0 2).bind fun bt139 => ((grain_CRC.f k (([x11] : List (List Int)))).bind fun t144 => ((sluiceref01_CRC.f k (([x11] : List (List Int)))).bind fun t148 => (if t144 = t148 then ((grain_More.f k 7 x11).bind fun t149 => ((sluiceref01_More.f k 7 x11).bind fun t150 => (if t149 = t150 then (if bt137.1 = bt139.1 then ((sluicelaw01_num.f bt137.2).bind fun t151 => (sluicelaw01_GrainPlaced.j3 k x2 x3 x4 (t151 != bt139.2))) else (sluicelaw01_GrainPlaced.j3 k x2 x3 x4 true)) else (sluicelaw01_GrainPlaced.j3 k x2 x3 x4 true)))) else (sluicelaw01_GrainPlaced.j3 k x2 x3 x4 true)))))
def sluicelaw01_GrainPlaced.j3 : Nat → List Int → Int → Int → Bool → Option (Bool)
  | 0, _, _, _, _ => none
  | k + 1, x2, x3, x4, x117 => if x117 = true then (some false) else ((some (([] : List Int) : List Int)).bind fun y152 => (if y152.length + x2.length < 17592186044416 then ((some (y152 ++ x2 : List Int)).bind fun y155 => ((grain_Total.f y155).bind fun bt158 => ((sluiceref01_Total.f k y155).bind fun bt160 => (if bt158.1 = bt160.1 then ((sluicelaw01_num.f bt158.2).bind fun t162 => (sluicelaw01_GrainPlaced.j4 k x3 x4 y155 (t162 != bt160.2))) else (sluicelaw01_GrainPlaced.j4 k x3 x4 y155 true))))) else (none)))
def sluicelaw01_GrainPlaced.j4 : Nat → Int → Int → List Int → Bool → Option (Bool)
  | 0, _, _, _, _ => none
  | k + 1, x3, x4, x19, x139 => if x139 = true then (some false) else (if x3 ≥ 0 then (sluicelaw01_GrainPlaced.j5 k x3 x4 x19 (decide (x3 < (x19.length : Int)))) else (sluicelaw01_GrainPlaced.j5 k x3 x4 x19 false))
def sluicelaw01_GrainPlaced.j5 : Nat → Int → Int → List Int → Bool → Option (Bool)
  | 0, _, _, _, _ => none
  | k + 1, x3, x4, x19, x147 => if x147 = true then (if 0 ≤ x3 then (if x3 < (x19.length : Int) then ((some (x19.set (x3 : Int).toNat x4 : List Int)).bind fun y163 => ((grain_Total.f y163).bind fun bt164 => ((sluiceref01_Total.f k y163).bind fun bt166 => (if bt164.1 = bt166.1 then ((sluicelaw01_num.f bt164.2).bind fun t168 => (some (t168 == bt166.2))) else (some false))))) else (none)) else (none)) else ((grain_Total.f x19).bind fun bt169 => ((sluiceref01_Total.f k x19).bind fun bt171 => (if bt169.1 = bt171.1 then ((sluicelaw01_num.f bt169.2).bind fun t173 => (some (t173 == bt171.2))) else (some false))))
def sluicelaw01_GrainPlaced.l0 : Nat → List Int → List Int → Int → Int → List Int → Int → Option (Bool)
  | 0, _, _, _, _, _, _ => none
  | k + 1, x1, x2, x3, x4, x11, x18 => if x18 < (x11.length : Int) then (if x18 < (x1.length : Int) then (if 0 ≤ x18 then (sluicelaw01_GrainPlaced.l0 k x1 x2 x3 x4 (x11.set (x18 : Int).toNat (rd x1 x18)) (wrap64 (x18 + 1))) else (none)) else (sluicelaw01_GrainPlaced.j2 k x2 x3 x4 x11)) else (sluicelaw01_GrainPlaced.j2 k x2 x3 x4 x11)
end
def sluicelaw01_GrainPlaced.f (k : Nat) (l0 : List Int) (l1 : List Int) (l2 : List Int) (a3 : Int) (a4 : Int) : Option (Bool) := (some (([] : List Int) : List Int)).bind fun y114 => (if y114.length + l0.length < 140737488355328 then ((some (y114 ++ l0 : List Int)).bind fun y117 => ((grain_CRC.f k (([y117] : List (List Int)))).bind fun t123 => ((grain_More.f k 7 y117).bind fun t124 => ((grain_Get.f y117 0 2).bind fun bt125 => ((sluiceref01_Get.f k y117 0 2).bind fun bt127 => ((sluiceref01_CRC.f k (([l0] : List (List Int)))).bind fun t132 => (if t123 = t132 then ((sluiceref01_More.f k 7 l0).bind fun t133 => (if t124 = t133 then (if bt125.1 = bt127.1 then ((sluicelaw01_num.f bt125.2).bind fun t134 => (sluicelaw01_GrainPlaced.j0 k l1 l2 a3 a4 y117 (t134 != bt127.2))) else (sluicelaw01_GrainPlaced.j0 k l1 l2 a3 a4 y117 true)) else (sluicelaw01_GrainPlaced.j0 k l1 l2 a3 a4 y117 true))) else (sluicelaw01_GrainPlaced.j0 k l1 l2 a3 a4 y117 true)))))))) else (none))
theorem sluicelaw01_GrainPlaced.mono_l : ∀ k, (∀ y0 y1 y2 y3 y4 y5, LeO (sluicelaw01_GrainPlaced.j0 k y0 y1 y2 y3 y4 y5) (sluicelaw01_GrainPlaced.j0 (k + 1) y0 y1 y2 y3 y4 y5)) ∧ (∀ y0 y1 y2 y3, LeO (sluicelaw01_GrainPlaced.j2 k y0 y1 y2 y3) (sluicelaw01_GrainPlaced.j2 (k + 1) y0 y1 y2 y3)) ∧ (∀ y0 y1 y2 y3, LeO (sluicelaw01_GrainPlaced.j3 k y0 y1 y2 y3) (sluicelaw01_GrainPlaced.j3 (k + 1) y0 y1 y2 y3)) ∧ (∀ y0 y1 y2 y3, LeO (sluicelaw01_GrainPlaced.j4 k y0 y1 y2 y3) (sluicelaw01_GrainPlaced.j4 (k + 1) y0 y1 y2 y3)) ∧ (∀ y0 y1 y2 y3, LeO (sluicelaw01_GrainPlaced.j5 k y0 y1 y2 y3) (sluicelaw01_GrainPlaced.j5 (k + 1) y0 y1 y2 y3)) ∧ (∀ y0 y1 y2 y3 y4 y5, LeO (sluicelaw01_GrainPlaced.l0 k y0 y1 y2 y3 y4 y5) (sluicelaw01_GrainPlaced.l0 (k + 1) y0 y1 y2 y3 y4 y5))
  | 0 => ⟨fun _ _ _ _ _ _ r h => by simp [sluicelaw01_GrainPlaced.j0] at h, fun _ _ _ _ r h => by simp [sluicelaw01_GrainPlaced.j2] at h, fun _ _ _ _ r h => by simp [sluicelaw01_GrainPlaced.j3] at h, fun _ _ _ _ r h => by simp [sluicelaw01_GrainPlaced.j4] at h, fun _ _ _ _ r h => by simp [sluicelaw01_GrainPlaced.j5] at h, fun _ _ _ _ _ _ r h => by simp [sluicelaw01_GrainPlaced.l0] at h⟩
  | k + 1 => by
    obtain ⟨ih0, ih1, ih2, ih3, ih4, ih5⟩ := sluicelaw01_GrainPlaced.mono_l k
    refine ⟨?_, ?_, ?_, ?_, ?_, ?_⟩
    · intro y0 y1 y2 y3 y4 y5
      unfold sluicelaw01_GrainPlaced.j0
      repeat' first
      | (with_reducible exact ih0 _ _ _ _ _ _)
      | (with_reducible exact ih1 _ _ _ _)
      | (with_reducible exact ih2 _ _ _ _)
      | (with_reducible exact ih3 _ _ _ _)
      | (with_reducible exact ih4 _ _ _ _)
      | (with_reducible exact ih5 _ _ _ _ _ _)
      | (with_reducible exact grain_CRC.mono _ _)
      | (with_reducible exact grain_More.mono _ _ _)
      | (with_reducible exact sluiceref01_CRC.mono _ _)
      | (with_reducible exact sluiceref01_Get.mono _ _ _ _)
      | (with_reducible exact sluiceref01_More.mono _ _ _)
      | (with_reducible exact sluiceref01_Total.mono _ _)
      | (with_reducible exact LeO.refl _)
      | (with_reducible exact LeO.none _)
      | (with_reducible refine LeO.ite ?_ ?_)
      | (with_reducible refine LeO.bind ?_ (fun _ => ?_))
      | exact ih0 _ _ _ _ _ _
      | exact ih1 _ _ _ _
      | exact ih2 _ _ _ _
      | exact ih3 _ _ _ _
      | exact ih4 _ _ _ _
      | exact ih5 _ _ _ _ _ _
      | exact grain_CRC.mono _ _
      | exact grain_More.mono _ _ _
      | exact sluiceref01_CRC.mono _ _
      | exact sluiceref01_Get.mono _ _ _ _
      | exact sluiceref01_More.mono _ _ _
      | exact sluiceref01_Total.mono _ _
      | exact LeO.none _
      | refine LeO.ite ?_ ?_
      | refine LeO.bind ?_ (fun _ => ?_)
    · intro y0 y1 y2 y3
      unfold sluicelaw01_GrainPlaced.j2
      repeat' first
      | (with_reducible exact ih0 _ _ _ _ _ _)
      | (with_reducible exact ih1 _ _ _ _)
      | (with_reducible exact ih2 _ _ _ _)
      | (with_reducible exact ih3 _ _ _ _)
      | (with_reducible exact ih4 _ _ _ _)
      | (with_reducible exact ih5 _ _ _ _ _ _)
      | (with_reducible exact grain_CRC.mono _ _)
      | (with_reducible exact grain_More.mono _ _ _)
      | (with_reducible exact sluiceref01_CRC.mono _ _)
      | (with_reducible exact sluiceref01_Get.mono _ _ _ _)
      | (with_reducible exact sluiceref01_More.mono _ _ _)
      | (with_reducible exact sluiceref01_Total.mono _ _)
      | (with_reducible exact LeO.refl _)
      | (with_reducible exact LeO.none _)
      | (with_reducible refine LeO.ite ?_ ?_)
      | (with_reducible refine LeO.bind ?_ (fun _ => ?_))
      | exact ih0 _ _ _ _ _ _
      | exact ih1 _ _ _ _
      | exact ih2 _ _ _ _
      | exact ih3 _ _ _ _
      | exact ih4 _ _ _ _
      | exact ih5 _ _ _ _ _ _
      | exact grain_CRC.mono _ _
      | exact grain_More.mono _ _ _
      | exact sluiceref01_CRC.mono _ _
      | exact sluiceref01_Get.mono _ _ _ _
      | exact sluiceref01_More.mono _ _ _
      | exact sluiceref01_Total.mono _ _
      | exact LeO.none _
      | refine LeO.ite ?_ ?_
      | refine LeO.bind ?_ (fun _ => ?_)
    · intro y0 y1 y2 y3
      unfold sluicelaw01_GrainPlaced.j3
      repeat' first
      | (with_reducible exact ih0 _ _ _ _ _ _)
      | (with_reducible exact ih1 _ _ _ _)
      | (with_reducible exact ih2 _ _ _ _)
      | (with_reducible exact ih3 _ _ _ _)
      | (with_reducible exact ih4 _ _ _ _)
      | (with_reducible exact ih5 _ _ _ _ _ _)
      | (with_reducible exact grain_CRC.mono _ _)
      | (with_reducible exact grain_More.mono _ _ _)
      | (with_reducible exact sluiceref01_CRC.mono _ _)
      | (with_reducible exact sluiceref01_Get.mono _ _ _ _)
      | (with_reducible exact sluiceref01_More.mono _ _ _)
      | (with_reducible exact sluiceref01_Total.mono _ _)
      | (with_reducible exact LeO.refl _)
      | (with_reducible exact LeO.none _)
      | (with_reducible refine LeO.ite ?_ ?_)
      | (with_reducible refine LeO.bind ?_ (fun _ => ?_))
      | exact ih0 _ _ _ _ _ _
      | exact ih1 _ _ _ _
      | exact ih2 _ _ _ _
      | exact ih3 _ _ _ _
      | exact ih4 _ _ _ _
      | exact ih5 _ _ _ _ _ _
      | exact grain_CRC.mono _ _
      | exact grain_More.mono _ _ _
      | exact sluiceref01_CRC.mono _ _
      | exact sluiceref01_Get.mono _ _ _ _
      | exact sluiceref01_More.mono _ _ _
      | exact sluiceref01_Total.mono _ _
      | exact LeO.none _
      | refine LeO.ite ?_ ?_
      | refine LeO.bind ?_ (fun _ => ?_)
    · intro y0 y1 y2 y3
      unfold sluicelaw01_GrainPlaced.j4
      repeat' first
      | (with_reducible exact ih0 _ _ _ _ _ _)
      | (with_reducible exact ih1 _ _ _ _)
      | (with_reducible exact ih2 _ _ _ _)
      | (with_reducible exact ih3 _ _ _ _)
      | (with_reducible exact ih4 _ _ _ _)
      | (with_reducible exact ih5 _ _ _ _ _ _)
      | (with_reducible exact grain_CRC.mono _ _)
      | (with_reducible exact grain_More.mono _ _ _)
      | (with_reducible exact sluiceref01_CRC.mono _ _)
      | (with_reducible exact sluiceref01_Get.mono _ _ _ _)
      | (with_reducible exact sluiceref01_More.mono _ _ _)
      | (with_reducible exact sluiceref01_Total.mono _ _)
      | (with_reducible exact LeO.refl _)
      | (with_reducible exact LeO.none _)
      | (with_reducible refine LeO.ite ?_ ?_)
      | (with_reducible refine LeO.bind ?_ (fun _ => ?_))
      | exact ih0 _ _ _ _ _ _
      | exact ih1 _ _ _ _
      | exact ih2 _ _ _ _
      | exact ih3 _ _ _ _
      | exact ih4 _ _ _ _
      | exact ih5 _ _ _ _ _ _
      | exact grain_CRC.mono _ _
      | exact grain_More.mono _ _ _
      | exact sluiceref01_CRC.mono _ _
      | exact sluiceref01_Get.mono _ _ _ _
      | exact sluiceref01_More.mono _ _ _
      | exact sluiceref01_Total.mono _ _
      | exact LeO.none _
      | refine LeO.ite ?_ ?_
      | refine LeO.bind ?_ (fun _ => ?_)
    · intro y0 y1 y2 y3
      unfold sluicelaw01_GrainPlaced.j5
      repeat' first
      | (with_reducible exact ih0 _ _ _ _ _ _)
      | (with_reducible exact ih1 _ _ _ _)
      | (with_reducible exact ih2 _ _ _ _)
      | (with_reducible exact ih3 _ _ _ _)
      | (with_reducible exact ih4 _ _ _ _)
      | (with_reducible exact ih5 _ _ _ _ _ _)
      | (with_reducible exact grain_CRC.mono _ _)
      | (with_reducible exact grain_More.mono _ _ _)
      | (with_reducible exact sluiceref01_CRC.mono _ _)
      | (with_reducible exact sluiceref01_Get.mono _ _ _ _)
      | (with_reducible exact sluiceref01_More.mono _ _ _)
      | (with_reducible exact sluiceref01_Total.mono _ _)
      | (with_reducible exact LeO.refl _)
      | (with_reducible exact LeO.none _)
      | (with_reducible refine LeO.ite ?_ ?_)
      | (with_reducible refine LeO.bind ?_ (fun _ => ?_))
      | exact ih0 _ _ _ _ _ _
      | exact ih1 _ _ _ _
      | exact ih2 _ _ _ _
      | exact ih3 _ _ _ _
      | exact ih4 _ _ _ _
      | exact ih5 _ _ _ _ _ _
      | exact grain_CRC.mono _ _
      | exact grain_More.mono _ _ _
      | exact sluiceref01_CRC.mono _ _
      | exact sluiceref01_Get.mono _ _ _ _
      | exact sluiceref01_More.mono _ _ _
      | exact sluiceref01_Total.mono _ _
      | exact LeO.none _
      | refine LeO.ite ?_ ?_
      | refine LeO.bind ?_ (fun _ => ?_)
    · intro y0 y1 y2 y3 y4 y5
      unfold sluicelaw01_GrainPlaced.l0
      repeat' first
      | (with_reducible exact ih0 _ _ _ _ _ _)
      | (with_reducible exact ih1 _ _ _ _)
      | (with_reducible exact ih2 _ _ _ _)
      | (with_reducible exact ih3 _ _ _ _)
      | (with_reducible exact ih4 _ _ _ _)
      | (with_reducible exact ih5 _ _ _ _ _ _)
      | (with_reducible exact grain_CRC.mono _ _)
      | (with_reducible exact grain_More.mono _ _ _)
      | (with_reducible exact sluiceref01_CRC.mono _ _)
      | (with_reducible exact sluiceref01_Get.mono _ _ _ _)
      | (with_reducible exact sluiceref01_More.mono _ _ _)
      | (with_reducible exact sluiceref01_Total.mono _ _)
      | (with_reducible exact LeO.refl _)
      | (with_reducible exact LeO.none _)
      | (with_reducible refine LeO.ite ?_ ?_)
      | (with_reducible refine LeO.bind ?_ (fun _ => ?_))
      | exact ih0 _ _ _ _ _ _
      | exact ih1 _ _ _ _
      | exact ih2 _ _ _ _
      | exact ih3 _ _ _ _
      | exact ih4 _ _ _ _
      | exact ih5 _ _ _ _ _ _
      | exact grain_CRC.mono _ _
      | exact grain_More.mono _ _ _
      | exact sluiceref01_CRC.mono _ _
      | exact sluiceref01_Get.mono _ _ _ _
      | exact sluiceref01_More.mono _ _ _
      | exact sluiceref01_Total.mono _ _
      | exact LeO.none _
      | refine LeO.ite ?_ ?_
      | refine LeO.bind ?_ (fun _ => ?_)
theorem sluicelaw01_GrainPlaced.mono : ∀ a0 a1 a2 a3 a4 k, LeO (sluicelaw01_GrainPlaced.f k a0 a1 a2 a3 a4) (sluicelaw01_GrainPlaced.f (k + 1) a0 a1 a2 a3 a4) := by
  intro a0 a1 a2 a3 a4 k
  obtain ⟨ih0, ih1, ih2, ih3, ih4, ih5⟩ := sluicelaw01_GrainPlaced.mono_l k
  unfold sluicelaw01_GrainPlaced.f
  repeat' first
      | (with_reducible exact ih0 _ _ _ _ _ _)
      | (with_reducible exact ih1 _ _ _ _)
      | (with_reducible exact ih2 _ _ _ _)
      | (with_reducible exact ih3 _ _ _ _)
      | (with_reducible exact ih4 _ _ _ _)
      | (with_reducible exact ih5 _ _ _ _ _ _)
      | (with_reducible exact grain_CRC.mono _ _)
      | (with_reducible exact grain_More.mono _ _ _)
      | (with_reducible exact sluiceref01_CRC.mono _ _)
      | (with_reducible exact sluiceref01_Get.mono _ _ _ _)
      | (with_reducible exact sluiceref01_More.mono _ _ _)
      | (with_reducible exact sluiceref01_Total.mono _ _)
      | (with_reducible exact LeO.refl _)
      | (with_reducible exact LeO.none _)
      | (with_reducible refine LeO.ite ?_ ?_)
      | (with_reducible refine LeO.bind ?_ (fun _ => ?_))
      | exact ih0 _ _ _ _ _ _
      | exact ih1 _ _ _ _
      | exact ih2 _ _ _ _
      | exact ih3 _ _ _ _
      | exact ih4 _ _ _ _
      | exact ih5 _ _ _ _ _ _
      | exact grain_CRC.mono _ _
      | exact grain_More.mono _ _ _
      | exact sluiceref01_CRC.mono _ _
      | exact sluiceref01_Get.mono _ _ _ _
      | exact sluiceref01_More.mono _ _ _
      | exact sluiceref01_Total.mono _ _
      | exact LeO.none _
      | refine LeO.ite ?_ ?_
      | refine LeO.bind ?_ (fun _ => ?_)
set_option maxHeartbeats 8000000 in
set_option maxRecDepth 100000 in
theorem sluicelaw01_GrainPlaced.calls (k : Nat) (P0_ : Nat → Prop) (A0 : Option Addr) (c0 : Nat) (l0 : List Int) (A1 : Option Addr) (c1 : Nat) (l1 : List Int) (A2 : Option Addr) (c2 : Nat) (l2 : List Int) (a3 : Int) (a4 : Int) (r : Bool) (w : World) (hs0 : Kd.V (Kd.int .u8) 5 w w.heap.size (fun k_ => P0_ k_) (.slice A0 l0.length c0) l0) (hr1 : Kd.C (Kd.int .u8) w A1 l1.length l1) (hc1 : l1.length ≤ c1) (hr2 : Kd.C (Kd.int .i64) w A2 l2.length l2) (hc2 : l2.length ≤ c2) (h : sluicelaw01_GrainPlaced.f k l0 l1 l2 a3 a4 = some r) (hGS : Glob.GS w) :
    Calls Tryd.prog 8 #[.slice A0 l0.length c0, .slice A1 l1.length c1, .slice A2 l2.length c2, .int .i64 a3, .int .i64 a4] w fun e w' => e = .returned (.bool r) ∧ Below w.heap.size w w' := by
  have HO0 := Aside0.mk (show Kd.V (Kd.int .u8) 5 w w.heap.size (fun k_ => (P0_ k_ ∨ w.heap.size ≤ k_)) (.slice A0 l0.length c0) l0 from Kd.V_mono hs0 (fun k_ hk => .inl hk))
  have HR1 := Aside0.mk hr1
  have HC1 := Aside0.mk hc1
  clear hr1 hc1
  have HR2 := Aside0.mk hr2
  have HC2 := Aside0.mk hc2
  clear hr2 hc2
  have HB := Aside0.mk (Below.refl w.heap.size w)
  have H : ((some (([] : List Int) : List Int)).bind fun y114 => (if y114.length + l0.length < 140737488355328 then ((some (y114 ++ l0 : List Int)).bind fun y117 => ((grain_CRC.f k (([y117] : List (List Int)))).bind fun t123 => ((grain_More.f k 7 y117).bind fun t124 => ((grain_Get.f y117 0 2).bind fun bt125 => ((sluiceref01_Get.f k y117 0 2).bind fun bt127 => ((sluiceref01_CRC.f k (([l0] : List (List Int)))).bind fun t132 => (if t123 = t132 then ((sluiceref01_More.f k 7 l0).bind fun t133 => (if t124 = t133 then (if bt125.1 = bt127.1 then ((sluicelaw01_num.f bt125.2).bind fun t134 => (sluicelaw01_GrainPlaced.j0 k l1 l2 a3 a4 y117 (t134 != bt127.2))) else (sluicelaw01_GrainPlaced.j0 k l1 l2 a3 a4 y117 true)) else (sluicelaw01_GrainPlaced.j0 k l1 l2 a3 a4 y117 true))) else (sluicelaw01_GrainPlaced.j0 k l1 l2 a3 a4 y117 true)))))))) else (none))) = some r := h
  clear h
  obtain ⟨y114, hy114⟩ : ∃ y_ : List Int, y_ = (([] : List Int)) := ⟨_, rfl⟩
  replace H : (if y114.length + l0.length < 140737488355328 then ((some (y114 ++ l0 : List Int)).bind fun y117 => ((grain_CRC.f k (([y117] : List (List Int)))).bind fun t123 => ((grain_More.f k 7 y117).bind fun t124 => ((grain_Get.f y117 0 2).bind fun bt125 => ((sluiceref01_Get.f k y117 0 2).bind fun bt127 => ((sluiceref01_CRC.f k (([l0] : List (List Int)))).bind fun t132 => (if t123 = t132 then ((sluiceref01_More.f k 7 l0).bind fun t133 => (if t124 = t133 then (if bt125.1 = bt127.1 then ((sluicelaw01_num.f bt125.2).bind fun t134 => (sluicelaw01_GrainPlaced.j0 k l1 l2 a3 a4 y117 (t134 != bt127.2))) else (sluicelaw01_GrainPlaced.j0 k l1 l2 a3 a4 y117 true)) else (sluicelaw01_GrainPlaced.j0 k l1 l2 a3 a4 y117 true))) else (sluicelaw01_GrainPlaced.j0 k l1 l2 a3 a4 y117 true)))))))) else (none)) = some r := by first | (rw [hy114]; with_reducible exact H) | (have H2_ := (Option.bind_some _ _).symm.trans H; rw [hy114]; with_reducible exact H2_) | (have H2_ := (Option.bind_some _ _).symm.trans H; with_reducible exact H2_) | with_reducible exact H | (rw [hy114]; exact H) | exact H
  have Ny114 := Aside0.mk hy114
  clear hy114
  by_cases c6 : y114.length + l0.length < 140737488355328
  · rw [if_pos c6] at H
    have LMc6 := Aside0.mk c6
    clear c6
    obtain ⟨y117, hy117⟩ : ∃ y_ : List Int, y_ = (y114 ++ l0) := ⟨_, rfl⟩
    replace H : ((grain_CRC.f k (([y117] : List (List Int)))).bind fun t123 => ((grain_More.f k 7 y117).bind fun t124 => ((grain_Get.f y117 0 2).bind fun bt125 => ((sluiceref01_Get.f k y117 0 2).bind fun bt127 => ((sluiceref01_CRC.f k (([l0] : List (List Int)))).bind fun t132 => (if t123 = t132 then ((sluiceref01_More.f k 7 l0).bind fun t133 => (if t124 = t133 then (if bt125.1 = bt127.1 then ((sluicelaw01_num.f bt125.2).bind fun t134 => (sluicelaw01_GrainPlaced.j0 k l1 l2 a3 a4 y117 (t134 != bt127.2))) else (sluicelaw01_GrainPlaced.j0 k l1 l2 a3 a4 y117 true)) else (sluicelaw01_GrainPlaced.j0 k l1 l2 a3 a4 y117 true))) else (sluicelaw01_GrainPlaced.j0 k l1 l2 a3 a4 y117 true))))))) = some r := by first | (rw [hy117]; with_reducible exact H) | (have H2_ := (Option.bind_some _ _).symm.trans H; rw [hy117]; with_reducible exact H2_) | (have H2_ := (Option.bind_some _ _).symm.trans H; with_reducible exact H2_) | with_reducible exact H | (rw [hy117]; exact H) | exact H
    have Ny117 := Aside0.mk hy117
    clear hy117
    obtain ⟨y120, hy120⟩ : ∃ y_ : List (List Int), y_ = (([y117] : List (List Int))) := ⟨_, rfl⟩
    replace H : ((grain_CRC.f k y120).bind fun t123 => ((grain_More.f k 7 y117).bind fun t124 => ((grain_Get.f y117 0 2).bind fun bt125 => ((sluiceref01_Get.f k y117 0 2).bind fun bt127 => ((sluiceref01_CRC.f k (([l0] : List (List Int)))).bind fun t132 => (if t123 = t132 then ((sluiceref01_More.f k 7 l0).bind fun t133 => (if t124 = t133 then (if bt125.1 = bt127.1 then ((sluicelaw01_num.f bt125.2).bind fun t134 => (sluicelaw01_GrainPlaced.j0 k l1 l2 a3 a4 y117 (t134 != bt127.2))) else (sluicelaw01_GrainPlaced.j0 k l1 l2 a3 a4 y117 true)) else (sluicelaw01_GrainPlaced.j0 k l1 l2 a3 a4 y117 true))) else (sluicelaw01_GrainPlaced.j0 k l1 l2 a3 a4 y117 true))))))) = some r := by first | (rw [hy120]; with_reducible exact H) | (have H2_ := (Option.bind_some _ _).symm.trans H; rw [hy120]; with_reducible exact H2_) | (have H2_ := (Option.bind_some _ _).symm.trans H; with_reducible exact H2_) | with_reducible exact H | (rw [hy120]; exact H) | exact H
    have Ny120 := Aside0.mk hy120
    clear hy120
    replace H := Option.bind_eq_some_iff.mp H
    obtain ⟨t123, A70, H⟩ := H
    replace H : ((grain_More.f k 7 y117).bind fun t124 => ((grain_Get.f y117 0 2).bind fun bt125 => ((sluiceref01_Get.f k y117 0 2).bind fun bt127 => ((sluiceref01_CRC.f k (([l0] : List (List Int)))).bind fun t132 => (if t123 = t132 then ((sluiceref01_More.f k 7 l0).bind fun t133 => (if t124 = t133 then (if bt125.1 = bt127.1 then ((sluicelaw01_num.f bt125.2).bind fun t134 => (sluicelaw01_GrainPlaced.j0 k l1 l2 a3 a4 y117 (t134 != bt127.2))) else (sluicelaw01_GrainPlaced.j0 k l1 l2 a3 a4 y117 true)) else (sluicelaw01_GrainPlaced.j0 k l1 l2 a3 a4 y117 true))) else (sluicelaw01_GrainPlaced.j0 k l1 l2 a3 a4 y117 true)))))) = some r := H
    have A7 := Aside0.mk A70
    clear A70
    replace H := Option.bind_eq_some_iff.mp H
    obtain ⟨t124, A80, H⟩ := H
    replace H : ((grain_Get.f y117 0 2).bind fun bt125 => ((sluiceref01_Get.f k y117 0 2).bind fun bt127 => ((sluiceref01_CRC.f k (([l0] : List (List Int)))).bind fun t132 => (if t123 = t132 then ((sluiceref01_More.f k 7 l0).bind fun t133 => (if t124 = t133 then (if bt125.1 = bt127.1 then ((sluicelaw01_num.f bt125.2).bind fun t134 => (sluicelaw01_GrainPlaced.j0 k l1 l2 a3 a4 y117 (t134 != bt127.2))) else (sluicelaw01_GrainPlaced.j0 k l1 l2 a3 a4 y117 true)) else (sluicelaw01_GrainPlaced.j0 k l1 l2 a3 a4 y117 true))) else (sluicelaw01_GrainPlaced.j0 k l1 l2 a3 a4 y117 true))))) = some r := H
    have A8 := Aside0.mk A80
    clear A80
    replace H := Option.bind_eq_some_iff.mp H
    obtain ⟨⟨t125, t126⟩, A90, H⟩ := H
    replace H : ((sluiceref01_Get.f k y117 0 2).bind fun bt127 => ((sluiceref01_CRC.f k (([l0] : List (List Int)))).bind fun t132 => (if t123 = t132 then ((sluiceref01_More.f k 7 l0).bind fun t133 => (if t124 = t133 then (if t125 = bt127.1 then ((sluicelaw01_num.f t126).bind fun t134 => (sluicelaw01_GrainPlaced.j0 k l1 l2 a3 a4 y117 (t134 != bt127.2))) else (sluicelaw01_GrainPlaced.j0 k l1 l2 a3 a4 y117 true)) else (sluicelaw01_GrainPlaced.j0 k l1 l2 a3 a4 y117 true))) else (sluicelaw01_GrainPlaced.j0 k l1 l2 a3 a4 y117 true)))) = some r := H
    have A9 := Aside0.mk A90
    clear A90
    replace H := Option.bind_eq_some_iff.mp H
    obtain ⟨⟨t127, t128⟩, A100, H⟩ := H
    replace H : ((sluiceref01_CRC.f k (([l0] : List (List Int)))).bind fun t132 => (if t123 = t132 then ((sluiceref01_More.f k 7 l0).bind fun t133 => (if t124 = t133 then (if t125 = t127 then ((sluicelaw01_num.f t126).bind fun t134 => (sluicelaw01_GrainPlaced.j0 k l1 l2 a3 a4 y117 (t134 != t128))) else (sluicelaw01_GrainPlaced.j0 k l1 l2 a3 a4 y117 true)) else (sluicelaw01_GrainPlaced.j0 k l1 l2 a3 a4 y117 true))) else (sluicelaw01_GrainPlaced.j0 k l1 l2 a3 a4 y117 true))) = some r := H
    have A10 := Aside0.mk A100
    clear A100
    have HC11 := Aside0.mk H
    clear H
    go_enter Tryd.func8, Tryd.ntmps8
    go_upto_region 6 with (first | ((with_reducible refine gate_dst (N := 24) rfl ?_); (try (refine gate_guard (by rfl) ?_; dsimp only)); refine Kd.R_lit (Kd.int .u8) _ 5 ?hg (N := 24) ?hd (xs := ([] : List Int)) (inner := []) (ok := fun _ => True) (okp := fun _ => True) ?hr ?hp (fun _ hk => hk) trivial (Below.refl _ _) (Nat.le_refl _) (by simp) ?_; (case hd => rfl); (case hg => rfl); (case hr => first | (go_simp; done) | (go_simp; rfl)); (case hp => exact (Reps.none _ _)); intro v115 w12 ho13 hb hg_ hnew_; clear hg_ hnew_; (first | rw [← Ny114.out] at ho13 | (simp only [Int.reduceToNat] at ho13; rw [← Ny114.out] at ho13)); have n0_ := Aside0.mk (Kd.V_elder' (by (with_reducible repeat (first | apply Kd.V_alloc | apply Kd.V_drewN | apply Kd.V_drew)); exact HO0.out) (Kd.R_base ho13) hb); have n1_ := Aside0.mk (Kd.R_lower (Kd.R_newM (M := fun k_ => (w.heap.size ≤ k_)) ho13 (below_size (by repeat (first | (with_reducible first | exact HB.out | apply below_alloc | apply pw_below_drewN | apply below_drew1) | exact HB.out))) (fun k_ h_ => h_)) (below_size (by repeat (first | (with_reducible first | exact HB.out | apply below_alloc | apply pw_below_drewN | apply below_drew1) | exact HB.out)))); have n2_ := Aside0.mk (below_step (by repeat (first | (with_reducible first | exact HB.out | apply below_alloc | apply pw_below_drewN | apply below_drew1) | exact HB.out)) hb); clear HO0; clear HB; have HO0 := n0_; have HO116 := n1_; have HB := n2_; clear n0_ n1_ n2_; clear hb ho13) | ((with_reducible refine gate_builtin (b := .append) (xs := #[.tmp 24, .tmp 25]) rfl ?_); (try (refine gate_guard (by rfl) ?_; dsimp only)); at_builtin; refine Kd.R_append_rows (Kd.int .u8) (w0 := w) w.heap.size rfl (.tmp 24) (.tmp 25) 24 5 (.int .u8 0) 1 rfl Tryd.underlying24 info5 rfl (by decide) (by omega) v115 y114 l0 _ _ _ (fun k_ => (w.heap.size ≤ k_)) (fun _ => False) rfl rfl ?aO ?aR (fun _ _ h => h) (fun _ h => h.elim) ?aF ?aB ?aS ?aL ?_; (case aR => repeat (first | exact (Kd.V_reads' HO0.out).2.2 | (with_reducible refine Kd.C_alloc ?_ _) | (with_reducible refine Kd.C_drewN ?_ _) | (with_reducible refine Kd.C_drew ?_))); (case aB => exact (by repeat (first | (with_reducible first | exact HB.out | apply below_alloc | apply pw_below_drewN | apply below_drew1) | exact HB.out))); (case aF => exact (fun k_ hk => (Nat.le_trans (below_size (by repeat (first | (with_reducible first | exact HB.out | apply below_alloc | apply pw_below_drewN | apply below_drew1) | exact HB.out))) hk))); (case aO => exact (by (with_reducible repeat (first | apply Kd.R_alloc | apply Kd.R_drewN | apply Kd.R_drew)); exact Kd.R_mono HO116.out (fun _ hk => hk.1))); (case aS => exact (below_size (by repeat (first | (with_reducible first | exact HB.out | apply below_alloc | apply pw_below_drewN | apply below_drew1) | exact HB.out)))); (case aL => have := LMc6.out; omega); intro v118 w14 ho hb hg hat; rw [← Ny117.out] at ho; have n0_ := Aside0.mk (Kd.V_afterv (ok := (fun k_ => (P0_ k_ ∨ w.heap.size ≤ k_))) (by (with_reducible repeat (first | apply Kd.V_alloc | apply Kd.V_drewN | apply Kd.V_drew)); exact HO0.out) hg hat); have n1_ := Aside0.mk (hb); have n2_ := Aside0.mk (ho); clear HO0; clear HB; clear HO116; have HO0 := n0_; have HB := n1_; have HO119 := n2_; clear n0_ n1_ n2_; clear ho hb hg hat; obtain ⟨Ao15, co15, eo15⟩ := Kd.R_slice HO119.out; subst eo15) | ((with_reducible refine gate_dst (N := 28) rfl ?_); (try (refine gate_guard (by rfl) ?_; dsimp only)); refine Kd.N_lit (Kd.slice 5 (Kd.int .u8)) _ 24 ?hg (N' := 28) ?hd (xs := ([y117] : List (List Int))) (inner := [.slice Ao15 y117.length co15]) (ok := (fun k_ => (P0_ k_ ∨ w.heap.size ≤ k_))) (okp := (fun k_ => (P0_ k_ ∨ w.heap.size ≤ k_))) ?hr ?hp (fun _ hk => hk) ((show ∀ k_, w14.heap.size ≤ k_ → (fun k_ => (P0_ k_ ∨ w.heap.size ≤ k_)) k_ from fun k_ hk => (.inr (Nat.le_trans (below_size (by repeat (first | (with_reducible first | exact HB.out | apply below_alloc | apply pw_below_drewN | apply below_drew1) | exact HB.out))) hk))) _ (Nat.le_refl _)) (Below.refl _ _) (Nat.le_refl _) (by simp) ?_; (case hd => rfl); (case hg => rfl); (case hr => first | (go_simp; done) | (go_simp; rfl)); (case hp => exact (Reps.one (show Kd.FK (Kd.slice 5 (Kd.int .u8)) _ _ y117 [.slice Ao15 y117.length co15] from (Kd.FK_slice_mk (Kd.R_reads' (Kd.R_mono (ok' := (fun k_ => (P0_ k_ ∨ w.heap.size ≤ k_))) (HO119.out) (fun k_ hk => (.inr (hk))))).2.1 (Kd.R_F (Kd.R_mono (ok' := (fun k_ => (P0_ k_ ∨ w.heap.size ≤ k_))) (by first | exact Kd.R_drewN HO119.out _ | exact HO119.out) (by exact (fun k_ hk => (.inr (hk)))))))) (Reps.none _ _))); intro v121 w16 ho17 hb hg_ hnew_; clear hg_ hnew_; (first | rw [← Ny120.out] at ho17 | (simp only [Int.reduceToNat] at ho17; rw [← Ny120.out] at ho17)); have n0_ := Aside0.mk (Kd.V_elder' (by (with_reducible repeat (first | apply Kd.V_alloc | apply Kd.V_drewN | apply Kd.V_drew)); exact HO0.out) (Kd.N_base ho17) hb); have n1_ := Aside0.mk (Kd.R_below (by (with_reducible repeat (first | apply Kd.R_alloc | apply Kd.R_drewN | apply Kd.R_drew)); exact HO119.out) hb); have n2_ := Aside0.mk (Kd.N_lower ho17 (below_size (by repeat (first | (with_reducible first | exact HB.out | apply below_alloc | apply pw_below_drewN | apply below_drew1) | exact HB.out)))); have n3_ := Aside0.mk (below_step (by repeat (first | (with_reducible first | exact HB.out | apply below_alloc | apply pw_below_drewN | apply below_drew1) | exact HB.out)) hb); clear HO0; clear HO119; clear HB; have HO0 := n0_; have HO119 := n1_; have HO122 := n2_; have HB := n3_; clear n0_ n1_ n2_ n3_; clear hb ho17; obtain ⟨Ao18, co18, eo18⟩ := Kd.N_slice HO122.out; subst eo18) | ((with_reducible refine gate_callee (f := 10) rfl ?_); refine goesL_ (some 29) rfl rfl Tryd.func10 (by kernel_rfl) rfl #[.slice Ao18 y120.length co18] rfl (by (try simp only [List.map_toArray, List.map_cons, List.map_nil]); first | done | rfl | (simp only [List.length_drop, List.length_take]; rfl)) ?_; (with_reducible refine (grain_CRC.calls k _ _ y120 t123 _ ?side1 ?side2 A7.out (by first | exact hGS | ((repeat (first | exact hGS | apply Glob.GS.drewN | apply Glob.GS.drew | apply Glob.GS.alloc)); done) | exact Glob.GS.below hGS (by repeat (first | (with_reducible first | exact HB.out | apply below_alloc | apply pw_below_drewN | apply below_drew1) | exact HB.out)))).mono ?_); (case side1 => repeat (first | exact (Kd.N_reads' HO122.out).2.2 | (with_reducible refine Kd.C_alloc ?_ _) | (with_reducible refine Kd.C_drewN ?_ _) | (with_reducible refine Kd.C_drew ?_))); (case side2 => exact (Kd.N_reads' HO122.out).2.1); rintro e w' ⟨rfl, ⟨nd, rfl⟩⟩; refine ⟨_, rfl, ?_⟩) | ((with_reducible refine gate_callee (f := 12) rfl ?_); refine goesL_ (some 31) rfl rfl Tryd.func12 (by kernel_rfl) rfl #[.int .u32 7, .slice Ao15 y117.length co15] rfl (by (try simp only [List.map_toArray, List.map_cons, List.map_nil]); first | done | rfl | (simp only [List.length_drop, List.length_take]; rfl)) ?_; (with_reducible refine (grain_More.calls k 7 _ _ y117 t124 _ ?side1 ?side2 A8.out (by first | exact hGS | ((repeat (first | exact hGS | apply Glob.GS.drewN | apply Glob.GS.drew | apply Glob.GS.alloc)); done) | exact Glob.GS.below hGS (by repeat (first | (with_reducible first | exact HB.out | apply below_alloc | apply pw_below_drewN | apply below_drew1) | exact HB.out)))).mono ?_); (case side1 => repeat (first | exact (Kd.R_reads' HO119.out).2.2 | (with_reducible refine Kd.C_alloc ?_ _) | (with_reducible refine Kd.C_drewN ?_ _) | (with_reducible refine Kd.C_drew ?_))); (case side2 => exact (Kd.R_reads' HO119.out).2.1); rintro e w' ⟨rfl, ⟨nd, rfl⟩⟩; refine ⟨_, rfl, ?_⟩) | ((with_reducible refine gate_callee (f := 28) rfl ?_); refine goesL_ (some 34) rfl rfl Tryd.func28 (by kernel_rfl) rfl #[.slice Ao15 y117.length co15, .int .i64 0, .int .i64 2] rfl (by (try simp only [List.map_toArray, List.map_cons, List.map_nil]); first | done | rfl | (simp only [List.length_drop, List.length_take]; rfl)) ?_; (with_reducible refine (grain_Get.calls _ _ y117 0 2 t125 t126 _ ?side1 ?side2 A9.out).mono ?_); (case side1 => repeat (first | exact (Kd.R_reads' HO119.out).2.2 | (with_reducible refine Kd.C_alloc ?_ _) | (with_reducible refine Kd.C_drewN ?_ _) | (with_reducible refine Kd.C_drew ?_))); (case side2 => exact (Kd.R_reads' HO119.out).2.1); rintro e w' ⟨rfl, ⟨nd, rfl⟩⟩; refine ⟨_, rfl, ?_⟩) | ((with_reducible refine gate_callee (f := 29) rfl ?_); refine goesL_ (some 39) rfl rfl Tryd.func29 (by kernel_rfl) rfl #[.slice Ao15 y117.length co15, .int .i64 0, .int .i64 2] rfl (by (try simp only [List.map_toArray, List.map_cons, List.map_nil]); first | done | rfl | (simp only [List.length_drop, List.length_take]; rfl)) ?_; (with_reducible refine (sluiceref01_Get.calls k _ _ y117 0 2 t127 t128 _ ?side1 ?side2 A10.out).mono ?_); (case side1 => repeat (first | exact (Kd.R_reads' HO119.out).2.2 | (with_reducible refine Kd.C_alloc ?_ _) | (with_reducible refine Kd.C_drewN ?_ _) | (with_reducible refine Kd.C_drew ?_))); (case side2 => exact (Kd.R_reads' HO119.out).2.1); rintro e w' ⟨rfl, ⟨nd, rfl⟩⟩; refine ⟨_, rfl, ?_⟩))
    (try simp only [Act.put, List.setIfInBounds_toArray, List.set_cons_zero, List.set_cons_succ])
    go_cut [63] (fun v63 wc => ∃ (kq : Nat) (x63_10 : Bool), v63 = .bool x63_10 ∧ Aside0 (sluicelaw01_GrainPlaced.j0 kq l1 l2 a3 a4 y117 x63_10 = some r) ∧ Aside0 (kq ≤ k) ∧ Aside0 (Kd.R (Kd.int .u8) 5 wc w.heap.size (fun k_ => (w.heap.size ≤ k_)) (.slice Ao15 y117.length co15) y117) ∧ Aside0 (Below w.heap.size w wc))
    case first =>
      have H := HC11.out
      clear HC11
      obtain ⟨y129, hy129⟩ : ∃ y_ : List (List Int), y_ = (([l0] : List (List Int))) := ⟨_, rfl⟩
      replace H : ((sluiceref01_CRC.f k y129).bind fun t132 => (if t123 = t132 then ((sluiceref01_More.f k 7 l0).bind fun t133 => (if t124 = t133 then (if t125 = t127 then ((sluicelaw01_num.f t126).bind fun t134 => (sluicelaw01_GrainPlaced.j0 k l1 l2 a3 a4 y117 (t134 != t128))) else (sluicelaw01_GrainPlaced.j0 k l1 l2 a3 a4 y117 true)) else (sluicelaw01_GrainPlaced.j0 k l1 l2 a3 a4 y117 true))) else (sluicelaw01_GrainPlaced.j0 k l1 l2 a3 a4 y117 true))) = some r := by first | (rw [hy129]; with_reducible exact H) | (have H2_ := (Option.bind_some _ _).symm.trans H; rw [hy129]; with_reducible exact H2_) | (have H2_ := (Option.bind_some _ _).symm.trans H; with_reducible exact H2_) | with_reducible exact H | (rw [hy129]; exact H) | exact H
      have Ny129 := Aside0.mk hy129
      clear hy129
      replace H := Option.bind_eq_some_iff.mp H
      obtain ⟨t132, A190, H⟩ := H
      replace H : (if t123 = t132 then ((sluiceref01_More.f k 7 l0).bind fun t133 => (if t124 = t133 then (if t125 = t127 then ((sluicelaw01_num.f t126).bind fun t134 => (sluicelaw01_GrainPlaced.j0 k l1 l2 a3 a4 y117 (t134 != t128))) else (sluicelaw01_GrainPlaced.j0 k l1 l2 a3 a4 y117 true)) else (sluicelaw01_GrainPlaced.j0 k l1 l2 a3 a4 y117 true))) else (sluicelaw01_GrainPlaced.j0 k l1 l2 a3 a4 y117 true)) = some r := H
      have A19 := Aside0.mk A190
      clear A190
      by_cases c20 : t123 = t132
      · rw [if_pos c20] at H
        have c20b0 : (t123 == t132) = true := beq_iff_eq.mpr c20
        have c20b1 : (t123 != t132) = false := bne_eq_false_iff_eq.mpr c20
        clear c20
        (first | rw [c20b0] | (simp only [i64_w, i32_w]; rw [c20b0]) | skip)
        replace H := Option.bind_eq_some_iff.mp H
        obtain ⟨t133, A210, H⟩ := H
        replace H : (if t124 = t133 then (if t125 = t127 then ((sluicelaw01_num.f t126).bind fun t134 => (sluicelaw01_GrainPlaced.j0 k l1 l2 a3 a4 y117 (t134 != t128))) else (sluicelaw01_GrainPlaced.j0 k l1 l2 a3 a4 y117 true)) else (sluicelaw01_GrainPlaced.j0 k l1 l2 a3 a4 y117 true)) = some r := H
        have A21 := Aside0.mk A210
        clear A210
        by_cases c22 : t124 = t133
        · rw [if_pos c22] at H
          have c22b0 : (t124 == t133) = true := beq_iff_eq.mpr c22
          have c22b1 : (t124 != t133) = false := bne_eq_false_iff_eq.mpr c22
          clear c22
          by_cases c23 : t125 = t127
          · rw [if_pos c23] at H
            have c23b0 : (t125 == t127) = true := beq_iff_eq.mpr c23
            have c23b1 : (t125 != t127) = false := bne_eq_false_iff_eq.mpr c23
            clear c23
            replace H := Option.bind_eq_some_iff.mp H
            obtain ⟨t134, A240, H⟩ := H
            replace H : (sluicelaw01_GrainPlaced.j0 k l1 l2 a3 a4 y117 (t134 != t128)) = some r := H
            have A24 := Aside0.mk A240
            clear A240
            have H' := Aside0.mk H
            clear H
            go_wp2_with (first | ((with_reducible refine gate_dst (N := 44) rfl ?_); (try (refine gate_guard (by rfl) ?_; dsimp only)); refine Kd.N_lit (Kd.slice 5 (Kd.int .u8)) _ 24 ?hg (N' := 44) ?hd (xs := ([l0] : List (List Int))) (inner := [.slice A0 l0.length c0]) (ok := (fun k_ => (P0_ k_ ∨ w.heap.size ≤ k_) ∧ some k_ ≠ (.slice Ao15 y117.length co15 : Value).ownBlock ∧ some k_ ≠ (.slice Ao18 y120.length co18 : Value).ownBlock)) (okp := (fun k_ => (P0_ k_ ∨ w.heap.size ≤ k_) ∧ some k_ ≠ (.slice Ao15 y117.length co15 : Value).ownBlock ∧ some k_ ≠ (.slice Ao18 y120.length co18 : Value).ownBlock)) ?hr ?hp (fun _ hk => hk) ((show ∀ k_, w16.heap.size ≤ k_ → (fun k_ => (P0_ k_ ∨ w.heap.size ≤ k_) ∧ some k_ ≠ (.slice Ao15 y117.length co15 : Value).ownBlock ∧ some k_ ≠ (.slice Ao18 y120.length co18 : Value).ownBlock) k_ from fun k_ hk => ⟨(.inr (Nat.le_trans (below_size (by repeat (first | (with_reducible first | exact HB.out | apply below_alloc | apply pw_below_drewN | apply below_drew1) | exact HB.out))) hk)), Kd.fresh' (Kd.R_lt (by (with_reducible repeat (first | apply Kd.R_alloc | apply Kd.R_drewN | apply Kd.R_drew)); exact HO119.out)) k_ hk, Kd.fresh' (Kd.N_lt (by (with_reducible repeat (first | apply Kd.N_alloc | apply Kd.N_drewN | apply Kd.N_drew)); exact HO122.out)) k_ hk⟩) _ (Nat.le_refl _)) (Below.refl _ _) (Nat.le_refl _) (by simp) ?_; (case hd => rfl); (case hg => rfl); (case hr => first | (go_simp; done) | (go_simp; rfl)); (case hp => exact (Reps.one (show Kd.FK (Kd.slice 5 (Kd.int .u8)) _ _ l0 [.slice A0 l0.length c0] from (Kd.FK_slice_mk (Kd.V_reads' (Kd.V_mono (ok' := (fun k_ => (P0_ k_ ∨ w.heap.size ≤ k_) ∧ some k_ ≠ (.slice Ao15 y117.length co15 : Value).ownBlock ∧ some k_ ≠ (.slice Ao18 y120.length co18 : Value).ownBlock)) (HO0.out) (fun k_ hk => ⟨hk.1.1, ⟨hk.1.2, hk.2⟩⟩))).2.1 (Kd.V_F (Kd.V_mono (ok' := (fun k_ => (P0_ k_ ∨ w.heap.size ≤ k_) ∧ some k_ ≠ (.slice Ao15 y117.length co15 : Value).ownBlock ∧ some k_ ≠ (.slice Ao18 y120.length co18 : Value).ownBlock)) (by first | exact Kd.V_drewN HO0.out _ | exact HO0.out) (by exact (fun k_ hk => ⟨hk.1.1, ⟨hk.1.2, hk.2⟩⟩)))))) (Reps.none _ _))); intro v130 w25 ho26 hb hg_ hnew_; clear hg_ hnew_; (first | rw [← Ny129.out] at ho26 | (simp only [Int.reduceToNat] at ho26; rw [← Ny129.out] at ho26)); have n0_ := Aside0.mk (Kd.V_elder' (by (with_reducible repeat (first | apply Kd.V_alloc | apply Kd.V_drewN | apply Kd.V_drew)); exact HO0.out) (Kd.N_base ho26) hb); have n1_ := Aside0.mk (Kd.R_below (by (with_reducible repeat (first | apply Kd.R_alloc | apply Kd.R_drewN | apply Kd.R_drew)); exact HO119.out) hb); have n2_ := Aside0.mk (Kd.N_elder' (by (with_reducible repeat (first | apply Kd.N_alloc | apply Kd.N_drewN | apply Kd.N_drew)); exact HO122.out) (Kd.N_base ho26) hb); have n3_ := Aside0.mk (Kd.N_lower ho26 (below_size (by repeat (first | (with_reducible first | exact HB.out | apply below_alloc | apply pw_below_drewN | apply below_drew1) | exact HB.out)))); have n4_ := Aside0.mk (below_step (by repeat (first | (with_reducible first | exact HB.out | apply below_alloc | apply pw_below_drewN | apply below_drew1) | exact HB.out)) hb); clear HO0; clear HO119; clear HO122; clear HB; have HO0 := n0_; have HO119 := n1_; have HO122 := n2_; have HO131 := n3_; have HB := n4_; clear n0_ n1_ n2_ n3_ n4_; clear hb ho26; obtain ⟨Ao27, co27, eo27⟩ := Kd.N_slice HO131.out; subst eo27) | ((with_reducible refine gate_callee (f := 11) rfl ?_); refine goesL_ (some 45) rfl rfl Tryd.func11 (by kernel_rfl) rfl #[.slice Ao27 y129.length co27] rfl (by (try simp only [List.map_toArray, List.map_cons, List.map_nil]); first | done | rfl | (simp only [List.length_drop, List.length_take]; rfl)) ?_; (with_reducible refine (sluiceref01_CRC.calls k _ _ y129 t132 _ ?side1 ?side2 A19.out).mono ?_); (case side1 => repeat (first | exact (Kd.N_reads' HO131.out).2.2 | (with_reducible refine Kd.C_alloc ?_ _) | (with_reducible refine Kd.C_drewN ?_ _) | (with_reducible refine Kd.C_drew ?_))); (case side2 => exact (Kd.N_reads' HO131.out).2.1); rintro e w' ⟨rfl, ⟨nd, rfl⟩⟩; refine ⟨_, rfl, ?_⟩) | (go_at_call 13; (with_reducible refine (sluiceref01_More.calls k 7 _ _ l0 t133 _ ?side1 ?side2 A21.out).mono ?_); (case side1 => repeat (first | exact (Kd.V_reads' HO0.out).2.2 | (with_reducible refine Kd.C_alloc ?_ _) | (with_reducible refine Kd.C_drewN ?_ _) | (with_reducible refine Kd.C_drew ?_))); (case side2 => exact (Kd.V_reads' HO0.out).2.1); rintro e w' ⟨rfl, ⟨nd, rfl⟩⟩) | (go_at_call 17; (with_reducible refine (sluicelaw01_num.calls t126 t134 _ A24.out).mono ?_); rintro e w' ⟨rfl, ⟨nd, rfl⟩⟩))
            go_meet
            case rel => exact ⟨_, ((t134 != t128)), (by first | rfl | (simp; done) | (simp [*]; done)), H', ⟨by first | omega | exact Nat.le_refl _⟩, ⟨by (with_reducible repeat (first | apply Kd.R_alloc | apply Kd.R_drewN | apply Kd.R_drew)); exact HO119.out⟩, ⟨by repeat (first | (with_reducible first | exact HB.out | apply below_alloc | apply pw_below_drewN | apply below_drew1) | exact HB.out)⟩⟩
          · rw [if_neg c23] at H
            have c23b0 : (t125 == t127) = false := beq_eq_false_iff_ne.mpr c23
            have c23b1 : (t125 != t127) = true := bne_iff_ne.mpr c23
            have H' := Aside0.mk H
            clear H
            go_wp2_with (first | ((with_reducible refine gate_dst (N := 44) rfl ?_); (try (refine gate_guard (by rfl) ?_; dsimp only)); refine Kd.N_lit (Kd.slice 5 (Kd.int .u8)) _ 24 ?hg (N' := 44) ?hd (xs := ([l0] : List (List Int))) (inner := [.slice A0 l0.length c0]) (ok := (fun k_ => (P0_ k_ ∨ w.heap.size ≤ k_) ∧ some k_ ≠ (.slice Ao15 y117.length co15 : Value).ownBlock ∧ some k_ ≠ (.slice Ao18 y120.length co18 : Value).ownBlock)) (okp := (fun k_ => (P0_ k_ ∨ w.heap.size ≤ k_) ∧ some k_ ≠ (.slice Ao15 y117.length co15 : Value).ownBlock ∧ some k_ ≠ (.slice Ao18 y120.length co18 : Value).ownBlock)) ?hr ?hp (fun _ hk => hk) ((show ∀ k_, w16.heap.size ≤ k_ → (fun k_ => (P0_ k_ ∨ w.heap.size ≤ k_) ∧ some k_ ≠ (.slice Ao15 y117.length co15 : Value).ownBlock ∧ some k_ ≠ (.slice Ao18 y120.length co18 : Value).ownBlock) k_ from fun k_ hk => ⟨(.inr (Nat.le_trans (below_size (by repeat (first | (with_reducible first | exact HB.out | apply below_alloc | apply pw_below_drewN | apply below_drew1) | exact HB.out))) hk)), Kd.fresh' (Kd.R_lt (by (with_reducible repeat (first | apply Kd.R_alloc | apply Kd.R_drewN | apply Kd.R_drew)); exact HO119.out)) k_ hk, Kd.fresh' (Kd.N_lt (by (with_reducible repeat (first | apply Kd.N_alloc | apply Kd.N_drewN | apply Kd.N_drew)); exact HO122.out)) k_ hk⟩) _ (Nat.le_refl _)) (Below.refl _ _) (Nat.le_refl _) (by simp) ?_; (case hd => rfl); (case hg => rfl); (case hr => first | (go_simp; done) | (go_simp; rfl)); (case hp => exact (Reps.one (show Kd.FK (Kd.slice 5 (Kd.int .u8)) _ _ l0 [.slice A0 l0.length c0] from (Kd.FK_slice_mk (Kd.V_reads' (Kd.V_mono (ok' := (fun k_ => (P0_ k_ ∨ w.heap.size ≤ k_) ∧ some k_ ≠ (.slice Ao15 y117.length co15 : Value).ownBlock ∧ some k_ ≠ (.slice Ao18 y120.length co18 : Value).ownBlock)) (HO0.out) (fun k_ hk => ⟨hk.1.1, ⟨hk.1.2, hk.2⟩⟩))).2.1 (Kd.V_F (Kd.V_mono (ok' := (fun k_ => (P0_ k_ ∨ w.heap.size ≤ k_) ∧ some k_ ≠ (.slice Ao15 y117.length co15 : Value).ownBlock ∧ some k_ ≠ (.slice Ao18 y120.length co18 : Value).ownBlock)) (by first | exact Kd.V_drewN HO0.out _ | exact HO0.out) (by exact (fun k_ hk => ⟨hk.1.1, ⟨hk.1.2, hk.2⟩⟩)))))) (Reps.none _ _))); intro v130 w28 ho29 hb hg_ hnew_; clear hg_ hnew_; (first | rw [← Ny129.out] at ho29 | (simp only [Int.reduceToNat] at ho29; rw [← Ny129.out] at ho29)); have n0_ := Aside0.mk (Kd.V_elder' (by (with_reducible repeat (first | apply Kd.V_alloc | apply Kd.V_drewN | apply Kd.V_drew)); exact HO0.out) (Kd.N_base ho29) hb); have n1_ := Aside0.mk (Kd.R_below (by (with_reducible repeat (first | apply Kd.R_alloc | apply Kd.R_drewN | apply Kd.R_drew)); exact HO119.out) hb); have n2_ := Aside0.mk (Kd.N_elder' (by (with_reducible repeat (first | apply Kd.N_alloc | apply Kd.N_drewN | apply Kd.N_drew)); exact HO122.out) (Kd.N_base ho29) hb); have n3_ := Aside0.mk (Kd.N_lower ho29 (below_size (by repeat (first | (with_reducible first | exact HB.out | apply below_alloc | apply pw_below_drewN | apply below_drew1) | exact HB.out)))); have n4_ := Aside0.mk (below_step (by repeat (first | (with_reducible first | exact HB.out | apply below_alloc | apply pw_below_drewN | apply below_drew1) | exact HB.out)) hb); clear HO0; clear HO119; clear HO122; clear HB; have HO0 := n0_; have HO119 := n1_; have HO122 := n2_; have HO131 := n3_; have HB := n4_; clear n0_ n1_ n2_ n3_ n4_; clear hb ho29; obtain ⟨Ao30, co30, eo30⟩ := Kd.N_slice HO131.out; subst eo30) | ((with_reducible refine gate_callee (f := 11) rfl ?_); refine goesL_ (some 45) rfl rfl Tryd.func11 (by kernel_rfl) rfl #[.slice Ao30 y129.length co30] rfl (by (try simp only [List.map_toArray, List.map_cons, List.map_nil]); first | done | rfl | (simp only [List.length_drop, List.length_take]; rfl)) ?_; (with_reducible refine (sluiceref01_CRC.calls k _ _ y129 t132 _ ?side1 ?side2 A19.out).mono ?_); (case side1 => repeat (first | exact (Kd.N_reads' HO131.out).2.2 | (with_reducible refine Kd.C_alloc ?_ _) | (with_reducible refine Kd.C_drewN ?_ _) | (with_reducible refine Kd.C_drew ?_))); (case side2 => exact (Kd.N_reads' HO131.out).2.1); rintro e w' ⟨rfl, ⟨nd, rfl⟩⟩; refine ⟨_, rfl, ?_⟩) | (go_at_call 13; (with_reducible refine (sluiceref01_More.calls k 7 _ _ l0 t133 _ ?side1 ?side2 A21.out).mono ?_); (case side1 => repeat (first | exact (Kd.V_reads' HO0.out).2.2 | (with_reducible refine Kd.C_alloc ?_ _) | (with_reducible refine Kd.C_drewN ?_ _) | (with_reducible refine Kd.C_drew ?_))); (case side2 => exact (Kd.V_reads' HO0.out).2.1); rintro e w' ⟨rfl, ⟨nd, rfl⟩⟩))
            go_meet
            case rel => exact ⟨_, (true), (by first | rfl | (simp; done) | (simp [*]; done)), H', ⟨by first | omega | exact Nat.le_refl _⟩, ⟨by (with_reducible repeat (first | apply Kd.R_alloc | apply Kd.R_drewN | apply Kd.R_drew)); exact HO119.out⟩, ⟨by repeat (first | (with_reducible first | exact HB.out | apply below_alloc | apply pw_below_drewN | apply below_drew1) | exact HB.out)⟩⟩
        · rw [if_neg c22] at H
          have c22b0 : (t124 == t133) = false := beq_eq_false_iff_ne.mpr c22
          have c22b1 : (t124 != t133) = true := bne_iff_ne.mpr c22
          have H' := Aside0.mk H
          clear H
          go_wp2_with (first | ((with_reducible refine gate_dst (N := 44) rfl ?_); (try (refine gate_guard (by rfl) ?_; dsimp only)); refine Kd.N_lit (Kd.slice 5 (Kd.int .u8)) _ 24 ?hg (N' := 44) ?hd (xs := ([l0] : List (List Int))) (inner := [.slice A0 l0.length c0]) (ok := (fun k_ => (P0_ k_ ∨ w.heap.size ≤ k_) ∧ some k_ ≠ (.slice Ao15 y117.length co15 : Value).ownBlock ∧ some k_ ≠ (.slice Ao18 y120.length co18 : Value).ownBlock)) (okp := (fun k_ => (P0_ k_ ∨ w.heap.size ≤ k_) ∧ some k_ ≠ (.slice Ao15 y117.length co15 : Value).ownBlock ∧ some k_ ≠ (.slice Ao18 y120.length co18 : Value).ownBlock)) ?hr ?hp (fun _ hk => hk) ((show ∀ k_, w16.heap.size ≤ k_ → (fun k_ => (P0_ k_ ∨ w.heap.size ≤ k_) ∧ some k_ ≠ (.slice Ao15 y117.length co15 : Value).ownBlock ∧ some k_ ≠ (.slice Ao18 y120.length co18 : Value).ownBlock) k_ from fun k_ hk => ⟨(.inr (Nat.le_trans (below_size (by repeat (first | (with_reducible first | exact HB.out | apply below_alloc | apply pw_below_drewN | apply below_drew1) | exact HB.out))) hk)), Kd.fresh' (Kd.R_lt (by (with_reducible repeat (first | apply Kd.R_alloc | apply Kd.R_drewN | apply Kd.R_drew)); exact HO119.out)) k_ hk, Kd.fresh' (Kd.N_lt (by (with_reducible repeat (first | apply Kd.N_alloc | apply Kd.N_drewN | apply Kd.N_drew)); exact HO122.out)) k_ hk⟩) _ (Nat.le_refl _)) (Below.refl _ _) (Nat.le_refl _) (by simp) ?_; (case hd => rfl); (case hg => rfl); (case hr => first | (go_simp; done) | (go_simp; rfl)); (case hp => exact (Reps.one (show Kd.FK (Kd.slice 5 (Kd.int .u8)) _ _ l0 [.slice A0 l0.length c0] from (Kd.FK_slice_mk (Kd.V_reads' (Kd.V_mono (ok' := (fun k_ => (P0_ k_ ∨ w.heap.size ≤ k_) ∧ some k_ ≠ (.slice Ao15 y117.length co15 : Value).ownBlock ∧ some k_ ≠ (.slice Ao18 y120.length co18 : Value).ownBlock)) (HO0.out) (fun k_ hk => ⟨hk.1.1, ⟨hk.1.2, hk.2⟩⟩))).2.1 (Kd.V_F (Kd.V_mono (ok' := (fun k_ => (P0_ k_ ∨ w.heap.size ≤ k_) ∧ some k_ ≠ (.slice Ao15 y117.length co15 : Value).ownBlock ∧ some k_ ≠ (.slice Ao18 y120.length co18 : Value).ownBlock)) (by first | exact Kd.V_drewN HO0.out _ | exact HO0.out) (by exact (fun k_ hk => ⟨hk.1.1, ⟨hk.1.2, hk.2⟩⟩)))))) (Reps.none _ _))); intro v130 w31 ho32 hb hg_ hnew_; clear hg_ hnew_; (first | rw [← Ny129.out] at ho32 | (simp only [Int.reduceToNat] at ho32; rw [← Ny129.out] at ho32)); have n0_ := Aside0.mk (Kd.V_elder' (by (with_reducible repeat (first | apply Kd.V_alloc | apply Kd.V_drewN | apply Kd.V_drew)); exact HO0.out) (Kd.N_base ho32) hb); have n1_ := Aside0.mk (Kd.R_below (by (with_reducible repeat (first | apply Kd.R_alloc | apply Kd.R_drewN | apply Kd.R_drew)); exact HO119.out) hb); have n2_ := Aside0.mk (Kd.N_elder' (by (with_reducible repeat (first | apply Kd.N_alloc | apply Kd.N_drewN | apply Kd.N_drew)); exact HO122.out) (Kd.N_base ho32) hb); have n3_ := Aside0.mk (Kd.N_lower ho32 (below_size (by repeat (first | (with_reducible first | exact HB.out | apply below_alloc | apply pw_below_drewN | apply below_drew1) | exact HB.out)))); have n4_ := Aside0.mk (below_step (by repeat (first | (with_reducible first | exact HB.out | apply below_alloc | apply pw_below_drewN | apply below_drew1) | exact HB.out)) hb); clear HO0; clear HO119; clear HO122; clear HB; have HO0 := n0_; have HO119 := n1_; have HO122 := n2_; have HO131 := n3_; have HB := n4_; clear n0_ n1_ n2_ n3_ n4_; clear hb ho32; obtain ⟨Ao33, co33, eo33⟩ := Kd.N_slice HO131.out; subst eo33) | ((with_reducible refine gate_callee (f := 11) rfl ?_); refine goesL_ (some 45) rfl rfl Tryd.func11 (by kernel_rfl) rfl #[.slice Ao33 y129.length co33] rfl (by (try simp only [List.map_toArray, List.map_cons, List.map_nil]); first | done | rfl | (simp only [List.length_drop, List.length_take]; rfl)) ?_; (with_reducible refine (sluiceref01_CRC.calls k _ _ y129 t132 _ ?side1 ?side2 A19.out).mono ?_); (case side1 => repeat (first | exact (Kd.N_reads' HO131.out).2.2 | (with_reducible refine Kd.C_alloc ?_ _) | (with_reducible refine Kd.C_drewN ?_ _) | (with_reducible refine Kd.C_drew ?_))); (case side2 => exact (Kd.N_reads' HO131.out).2.1); rintro e w' ⟨rfl, ⟨nd, rfl⟩⟩; refine ⟨_, rfl, ?_⟩) | (go_at_call 13; (with_reducible refine (sluiceref01_More.calls k 7 _ _ l0 t133 _ ?side1 ?side2 A21.out).mono ?_); (case side1 => repeat (first | exact (Kd.V_reads' HO0.out).2.2 | (with_reducible refine Kd.C_alloc ?_ _) | (with_reducible refine Kd.C_drewN ?_ _) | (with_reducible refine Kd.C_drew ?_))); (case side2 => exact (Kd.V_reads' HO0.out).2.1); rintro e w' ⟨rfl, ⟨nd, rfl⟩⟩))
          go_meet
          case rel => exact ⟨_, (true), (by first | rfl | (simp; done) | (simp [*]; done)), H', ⟨by first | omega | exact Nat.le_refl _⟩, ⟨by (with_reducible repeat (first | apply Kd.R_alloc | apply Kd.R_drewN | apply Kd.R_drew)); exact HO119.out⟩, ⟨by repeat (first | (with_reducible first | exact HB.out | apply below_alloc | apply pw_below_drewN | apply below_drew1) | exact HB.out)⟩⟩
      · rw [if_neg c20] at H
        have c20b0 : (t123 == t132) = false := beq_eq_false_iff_ne.mpr c20
        have c20b1 : (t123 != t132) = true := bne_iff_ne.mpr c20
        (first | rw [c20b0] | (simp only [i64_w, i32_w]; rw [c20b0]) | skip)
        have H' := Aside0.mk H
        clear H
        go_wp2_with (first | ((with_reducible refine gate_dst (N := 44) rfl ?_); (try (refine gate_guard (by rfl) ?_; dsimp only)); refine Kd.N_lit (Kd.slice 5 (Kd.int .u8)) _ 24 ?hg (N' := 44) ?hd (xs := ([l0] : List (List Int))) (inner := [.slice A0 l0.length c0]) (ok := (fun k_ => (P0_ k_ ∨ w.heap.size ≤ k_) ∧ some k_ ≠ (.slice Ao15 y117.length co15 : Value).ownBlock ∧ some k_ ≠ (.slice Ao18 y120.length co18 : Value).ownBlock)) (okp := (fun k_ => (P0_ k_ ∨ w.heap.size ≤ k_) ∧ some k_ ≠ (.slice Ao15 y117.length co15 : Value).ownBlock ∧ some k_ ≠ (.slice Ao18 y120.length co18 : Value).ownBlock)) ?hr ?hp (fun _ hk => hk) ((show ∀ k_, w16.heap.size ≤ k_ → (fun k_ => (P0_ k_ ∨ w.heap.size ≤ k_) ∧ some k_ ≠ (.slice Ao15 y117.length co15 : Value).ownBlock ∧ some k_ ≠ (.slice Ao18 y120.length co18 : Value).ownBlock) k_ from fun k_ hk => ⟨(.inr (Nat.le_trans (below_size (by repeat (first | (with_reducible first | exact HB.out | apply below_alloc | apply pw_below_drewN | apply below_drew1) | exact HB.out))) hk)), Kd.fresh' (Kd.R_lt (by (with_reducible repeat (first | apply Kd.R_alloc | apply Kd.R_drewN | apply Kd.R_drew)); exact HO119.out)) k_ hk, Kd.fresh' (Kd.N_lt (by (with_reducible repeat (first | apply Kd.N_alloc | apply Kd.N_drewN | apply Kd.N_drew)); exact HO122.out)) k_ hk⟩) _ (Nat.le_refl _)) (Below.refl _ _) (Nat.le_refl _) (by simp) ?_; (case hd => rfl); (case hg => rfl); (case hr => first | (go_simp; done) | (go_simp; rfl)); (case hp => exact (Reps.one (show Kd.FK (Kd.slice 5 (Kd.int .u8)) _ _ l0 [.slice A0 l0.length c0] from (Kd.FK_slice_mk (Kd.V_reads' (Kd.V_mono (ok' := (fun k_ => (P0_ k_ ∨ w.heap.size ≤ k_) ∧ some k_ ≠ (.slice Ao15 y117.length co15 : Value).ownBlock ∧ some k_ ≠ (.slice Ao18 y120.length co18 : Value).ownBlock)) (HO0.out) (fun k_ hk => ⟨hk.1.1, ⟨hk.1.2, hk.2⟩⟩))).2.1 (Kd.V_F (Kd.V_mono (ok' := (fun k_ => (P0_ k_ ∨ w.heap.size ≤ k_) ∧ some k_ ≠ (.slice Ao15 y117.length co15 : Value).ownBlock ∧ some k_ ≠ (.slice Ao18 y120.length co18 : Value).ownBlock)) (by first | exact Kd.V_drewN HO0.out _ | exact HO0.out) (by exact (fun k_ hk => ⟨hk.1.1, ⟨hk.1.2, hk.2⟩⟩)))))) (Reps.none _ _))); intro v130 w34 ho35 hb hg_ hnew_; clear hg_ hnew_; (first | rw [← Ny129.out] at ho35 | (simp only [Int.reduceToNat] at ho35; rw [← Ny129.out] at ho35)); have n0_ := Aside0.mk (Kd.V_elder' (by (with_reducible repeat (first | apply Kd.V_alloc | apply Kd.V_drewN | apply Kd.V_drew)); exact HO0.out) (Kd.N_base ho35) hb); have n1_ := Aside0.mk (Kd.R_below (by (with_reducible repeat (first | apply Kd.R_alloc | apply Kd.R_drewN | apply Kd.R_drew)); exact HO119.out) hb); have n2_ := Aside0.mk (Kd.N_elder' (by (with_reducible repeat (first | apply Kd.N_alloc | apply Kd.N_drewN | apply Kd.N_drew)); exact HO122.out) (Kd.N_base ho35) hb); have n3_ := Aside0.mk (Kd.N_lower ho35 (below_size (by repeat (first | (with_reducible first | exact HB.out | apply below_alloc | apply pw_below_drewN | apply below_drew1) | exact HB.out)))); have n4_ := Aside0.mk (below_step (by repeat (first | (with_reducible first | exact HB.out | apply below_alloc | apply pw_below_drewN | apply below_drew1) | exact HB.out)) hb); clear HO0; clear HO119; clear HO122; clear HB; have HO0 := n0_; have HO119 := n1_; have HO122 := n2_; have HO131 := n3_; have HB := n4_; clear n0_ n1_ n2_ n3_ n4_; clear hb ho35; obtain ⟨Ao36, co36, eo36⟩ := Kd.N_slice HO131.out; subst eo36) | ((with_reducible refine gate_callee (f := 11) rfl ?_); refine goesL_ (some 45) rfl rfl Tryd.func11 (by kernel_rfl) rfl #[.slice Ao36 y129.length co36] rfl (by (try simp only [List.map_toArray, List.map_cons, List.map_nil]); first | done | rfl | (simp only [List.length_drop, List.length_take]; rfl)) ?_; (with_reducible refine (sluiceref01_CRC.calls k _ _ y129 t132 _ ?side1 ?side2 A19.out).mono ?_); (case side1 => repeat (first | exact (Kd.N_reads' HO131.out).2.2 | (with_reducible refine Kd.C_alloc ?_ _) | (with_reducible refine Kd.C_drewN ?_ _) | (with_reducible refine Kd.C_drew ?_))); (case side2 => exact (Kd.N_reads' HO131.out).2.1); rintro e w' ⟨rfl, ⟨nd, rfl⟩⟩; refine ⟨_, rfl, ?_⟩))
        go_meet
        case rel => exact ⟨_, (true), (by first | rfl | (simp; done) | (simp [*]; done)), H', ⟨by first | omega | exact Nat.le_refl _⟩, ⟨by (with_reducible repeat (first | apply Kd.R_alloc | apply Kd.R_drewN | apply Kd.R_drew)); exact HO119.out⟩, ⟨by repeat (first | (with_reducible first | exact HB.out | apply below_alloc | apply pw_below_drewN | apply below_drew1) | exact HB.out)⟩⟩
    case rest =>
      clear HC11
      try clear c1
      try clear c2
      try clear p2
      try clear c6
      try clear c8
      try clear c10
      try clear c11
      try clear c12
      try clear c20
      try clear c20b0
      try clear c20b1
      try clear c22
      try clear c22b0
      try clear c22b1
      try clear c23
      try clear c23b0
      try clear c23b1
      try clear c28
      try clear c29
      obtain ⟨kq, x63_10, rfl, HA, HJ10, HO_11, HB⟩ := hcut
      cases kq with
      | zero => exact absurd HA.out (by simp [sluicelaw01_GrainPlaced.j0])
      | succ kj10 =>
        have H := HA.out
        clear HA
        simp only [sluicelaw01_GrainPlaced.j0] at H
        by_cases c37 : x63_10 = true
        · subst c37
          have H1 : (some false) = some r := by rw [if_pos rfl] at H; exact H
          clear H
          have H := H1
          clear H1
          obtain rfl := Option.some.inj H
          go_wp2
          go_ret
          exact ⟨by first | rfl | (simp [errW_none, errW_some] <;> rfl) | (simp [*, errW_none, errW_some] <;> rfl), by repeat (first | (with_reducible first | exact HB.out | apply below_alloc | apply pw_below_drewN | apply below_drew1) | exact HB.out)⟩
        · replace c37 := Bool.eq_false_iff.mpr c37
          subst c37
          have H1 : (sluicelaw01_GrainPlaced.l0 kj10 l1 l2 a3 a4 y117 0) = some r := by rw [if_neg (show ¬ (false = true) by decide)] at H; exact H
          clear H
          have H := H1
          clear H1
          have HC38 := Aside0.mk H
          clear H
          go_upto_block 0 with (fail)
          go_cut [] (fun wc => ∃ (kq : Nat) (x11_37 : List Int), Aside0 (sluicelaw01_GrainPlaced.j2 kq l2 a3 a4 x11_37 = some r) ∧ Aside0 (kq ≤ kj10) ∧ Aside0 (Kd.R (Kd.int .u8) 5 wc w.heap.size (fun k_ => (w.heap.size ≤ k_)) (.slice Ao15 y117.length co15) x11_37) ∧ Aside0 (Below w.heap.size w wc))
          case first =>
            have H := HC38.out
            clear HC38
            have H' := Aside0.mk H
            clear H
            go_wp2
            go_loopg [18] kj10 (fun kq v18 w' => ∃ (x11_2 : List Int) (x18_2 : Int), v18 = .int .i64 x18_2 ∧ Aside0 (sluicelaw01_GrainPlaced.l0 kq l1 l2 a3 a4 x11_2 x18_2 = some r) ∧ Aside0 (kq ≤ kj10) ∧ Aside0 (Kd.R (Kd.int .u8) 5 w' w.heap.size (fun k_ => (w.heap.size ≤ k_)) (.slice Ao15 y117.length co15) x11_2) ∧ Aside0 (Below w.heap.size w w'))
            case atStart => exact ⟨(y117), (0), (by first | rfl | (simp; done) | (simp [*]; done)), H', ⟨Nat.le_refl _⟩, ⟨by (with_reducible repeat (first | apply Kd.R_alloc | apply Kd.R_drewN | apply Kd.R_drew)); exact HO_11.out⟩, ⟨by repeat (first | (with_reducible first | exact HB.out | apply below_alloc | apply pw_below_drewN | apply below_drew1) | exact HB.out)⟩⟩
            case round =>
              clear H'
              try clear c1
              try clear c2
              try clear p2
              try clear c3
              try clear c6
              try clear c8
              try clear c10
              try clear c11
              try clear c12
              try clear c20
              try clear c20b0
              try clear c20b1
              try clear c22
              try clear c22b0
              try clear c22b1
              try clear c23
              try clear c23b0
              try clear c23b1
              try clear c28
              try clear c29
              try clear c37
              try clear p2
              obtain ⟨x11_2, x18_2, rfl, HA, HK2, HO_11, HB⟩ := hrel
              have hl11_2 := (Kd.R_reads' HO_11.out).1
              rw [hl11_2] at HO_11
              (try simp only [hl11_2])
              cases gk with
              | zero => exact absurd HA.out (by simp [sluicelaw01_GrainPlaced.l0])
              | succ k2 =>
                have H := HA.out
                clear HA
                simp only [sluicelaw01_GrainPlaced.l0] at H
                by_cases c39 : x18_2 < (x11_2.length : Int)
                · rw [if_pos c39] at H
                  have c39b0 : decide (x18_2 < (x11_2.length : Int)) = true := decide_eq_true c39
                  clear c39
                  (first | rw [c39b0] | (simp only [i64_w, i32_w]; rw [c39b0]) | skip)
                  by_cases c40 : x18_2 < (l1.length : Int)
                  · rw [if_pos c40] at H
                    have c40b0 : decide (x18_2 < (l1.length : Int)) = true := decide_eq_true c40
                    clear c40
                    by_cases c41 : 0 ≤ x18_2
                    · rw [if_pos c41] at H
                      have c41b0 : decide (0 ≤ x18_2) = true := decide_eq_true c41
                      clear c41
                      obtain ⟨y136, hy136⟩ : ∃ y_ : List Int, y_ = (x11_2.set (x18_2 : Int).toNat (rd l1 x18_2)) := ⟨_, rfl⟩
                      replace H : (sluicelaw01_GrainPlaced.l0 k2 l1 l2 a3 a4 y136 (wrap64 (x18_2 + 1))) = some r := by first | (rw [hy136]; with_reducible exact H) | (have H2_ := (Option.bind_some _ _).symm.trans H; rw [hy136]; with_reducible exact H2_) | (have H2_ := (Option.bind_some _ _).symm.trans H; with_reducible exact H2_) | with_reducible exact H | (rw [hy136]; exact H) | exact H
                      have Ny136 := Aside0.mk hy136
                      clear hy136
                      have H' := Aside0.mk H
                      clear H
                      have p135 : 0 ≤ (x18_2 : Int) := of_decide_eq_true (by first | (with_reducible assumption) | assumption)
                      have q135 : x18_2 < (l1.length : Int) := of_decide_eq_true (by first | (with_reducible assumption) | assumption)
                      obtain ⟨ad135, e135, hx135_0⟩ := Kd.at_int HR1.out x18_2 p135 q135
                      cases e135
                      replace hx135_0 := (HB.out.cell (World.block_lt_of_cell? w _ hx135_0)).trans hx135_0
                      replace p135 := eq_true p135
                      replace q135 := eq_true q135
                      have p42 : 0 ≤ (x18_2 : Int) := of_decide_eq_true (by first | (with_reducible assumption) | assumption)
                      have q42 : (x18_2 : Int) < ((x11_2.length : Int) : Int) := of_decide_eq_true (by first | (with_reducible assumption) | assumption)
                      obtain ⟨go42, co42, eo42, gb42, gl42, cl42, HG42⟩ := Kd.R_form HO_11.out (by omega)
                      (first | cases eo42 | (injection eo42 with ea_ en_ ec_; (first | subst ea_ | (injection ea_ with ea_; subst ea_)); subst ec_; clear en_))
                      have GB42 := Aside0.mk gb42
                      have GG42 := Aside0.mk HG42
                      clear gb42 gl42 HG42
                      obtain ⟨hx42_0, hf42_0⟩ := Kd.R_celln 0 HO_11.out (x18_2 : Int) p42 q42
                      replace p42 := eq_true p42
                      replace q42 := eq_true q42
                      have HP43 := Kd.R_putg HO_11.out (x18_2 : Int) (rd l1 x18_2)
                      go_wp2_with (first | ((with_reducible refine gate_store (t := 5) (p := 82) rfl ?_); refine store_event (t := 5) (p := 82) (v := ?vo_w44) (w1 := (wr.setCell ⟨go42, (x18_2 : Int).toNat, none⟩ (.int .u8 (rd l1 x18_2)))) ?hg ?ho ?hn ?hr ?_; (case ho => rfl); (case hg => rfl); (case hn => rfl); (case hr => first | (go_simp; done) | (go_simp; rfl)); intro w44 hw; have hg : wr.grownBy w44 (some go42) := (by rw [hw]; exact HP43.2); have hp_ : Kd.R (Kd.int .u8) 5 w44 w.heap.size (fun k_ => (w.heap.size ≤ k_)) (.slice (some ⟨go42, 0, none⟩) x11_2.length co15) y136 := (by rw [hw, Ny136.out]; exact HP43.1); clear HP43; have n0_ := Aside0.mk (hp_); have n1_ := Aside0.mk ((by rw [hw]; exact below_set (HB.out) GB42.out : Below w.heap.size w w44)); clear HO_11; clear HB; have HO_11 := n0_; have HB := n1_; clear n0_ n1_; clear hg hw hp_))
                      (try simp only [← hl11_2])
                      go_roundg k2
                      case measure => have := HJ10.out; have := HK2.out; omega
                      case rel => exact ⟨(y136), (wrap64 (x18_2 + 1)), (by first | rfl | (simp; done) | (simp [*]; done)), H', ⟨by have := HJ10.out; have := HK2.out; omega⟩, ⟨by (try simp only [hl11_2]); (with_reducible repeat (first | apply Kd.R_alloc | apply Kd.R_drewN | apply Kd.R_drew)); exact HO_11.out⟩, ⟨by repeat (first | (with_reducible first | exact HB.out | apply below_alloc | apply pw_below_drewN | apply below_drew1) | exact HB.out)⟩⟩
                    · rw [if_neg c41] at H
                      exact absurd H (by simp)
                  · rw [if_neg c40] at H
                    have c40b0 : decide (x18_2 < (l1.length : Int)) = false := decide_eq_false c40
                    clear c40
                    have H' := Aside0.mk H
                    clear H
                    go_wp2
                    (try simp only [← hl11_2])
                    go_meet
                    case rel => exact ⟨_, (x11_2), H', ⟨by have := HJ10.out; have := HK2.out; first | omega | exact Nat.le_refl _⟩, ⟨by (try simp only [hl11_2]); (with_reducible repeat (first | apply Kd.R_alloc | apply Kd.R_drewN | apply Kd.R_drew)); exact HO_11.out⟩, ⟨by repeat (first | (with_reducible first | exact HB.out | apply below_alloc | apply pw_below_drewN | apply below_drew1) | exact HB.out)⟩⟩
                · rw [if_neg c39] at H
                  have c39b0 : decide (x18_2 < (x11_2.length : Int)) = false := decide_eq_false c39
                  clear c39
                  (first | rw [c39b0] | (simp only [i64_w, i32_w]; rw [c39b0]) | skip)
                  have H' := Aside0.mk H
                  clear H
                  go_wp2
                  (try simp only [← hl11_2])
                  go_meet
                  case rel => exact ⟨_, (x11_2), H', ⟨by have := HJ10.out; have := HK2.out; first | omega | exact Nat.le_refl _⟩, ⟨by (try simp only [hl11_2]); (with_reducible repeat (first | apply Kd.R_alloc | apply Kd.R_drewN | apply Kd.R_drew)); exact HO_11.out⟩, ⟨by repeat (first | (with_reducible first | exact HB.out | apply below_alloc | apply pw_below_drewN | apply below_drew1) | exact HB.out)⟩⟩
          case rest =>
            clear HC38
            try clear c1
            try clear p1
            try clear q1
            try clear hx1
            try clear c2
            try clear p2
            try clear c3
            try clear c4
            try clear p4
            try clear q4
            try clear hx4
            try clear c6
            try clear p6
            try clear c8
            try clear c10
            try clear c11
            try clear c12
            try clear p13
            try clear q13
            try clear hx13
            try clear c20
            try clear c20b0
            try clear c20b1
            try clear c22
            try clear c22b0
            try clear c22b1
            try clear c23
            try clear c23b0
            try clear c23b1
            try clear c28
            try clear c29
            try clear c37
            try clear c39
            try clear c39b0
            try clear c40
            try clear c40b0
            try clear c41
            try clear c41b0
            try clear p42
            try clear q42
            try clear hx42
            try clear hf42
            try clear hx135_0
            try clear hx42_0
            try clear p135
            try clear p2
            try clear p42
            try clear q135
            try clear q42
            obtain ⟨kq, x11_37, HA, HJ37, HO_11, HB⟩ := hcut
            have hl11_37 := (Kd.R_reads' HO_11.out).1
            rw [hl11_37] at HO_11
            (try simp only [hl11_37])
            cases kq with
            | zero => exact absurd HA.out (by simp [sluicelaw01_GrainPlaced.j2])
            | succ kj37 =>
              have H := HA.out
              clear HA
              simp only [sluicelaw01_GrainPlaced.j2] at H
              replace H := Option.bind_eq_some_iff.mp H
              obtain ⟨⟨t137, t138⟩, A450, H⟩ := H
              replace H : ((sluiceref01_Get.f kj37 x11_37 0 2).bind fun bt139 => ((grain_CRC.f kj37 (([x11_37] : List (List Int)))).bind fun t144 => ((sluiceref01_CRC.f kj37 (([x11_37] : List (List Int)))).bind fun t148 => (if t144 = t148 then ((grain_More.f kj37 7 x11_37).bind fun t149 => ((sluiceref01_More.f kj37 7 x11_37).bind fun t150 => (if t149 = t150 then (if t137 = bt139.1 then ((sluicelaw01_num.f t138).bind fun t151 => (sluicelaw01_GrainPlaced.j3 kj37 l2 a3 a4 (t151 != bt139.2))) else (sluicelaw01_GrainPlaced.j3 kj37 l2 a3 a4 true)) else (sluicelaw01_GrainPlaced.j3 kj37 l2 a3 a4 true)))) else (sluicelaw01_GrainPlaced.j3 kj37 l2 a3 a4 true))))) = some r := H
              have A45 := Aside0.mk A450
              clear A450
              replace H := Option.bind_eq_some_iff.mp H
              obtain ⟨⟨t139, t140⟩, A460, H⟩ := H
              replace H : ((grain_CRC.f kj37 (([x11_37] : List (List Int)))).bind fun t144 => ((sluiceref01_CRC.f kj37 (([x11_37] : List (List Int)))).bind fun t148 => (if t144 = t148 then ((grain_More.f kj37 7 x11_37).bind fun t149 => ((sluiceref01_More.f kj37 7 x11_37).bind fun t150 => (if t149 = t150 then (if t137 = t139 then ((sluicelaw01_num.f t138).bind fun t151 => (sluicelaw01_GrainPlaced.j3 kj37 l2 a3 a4 (t151 != t140))) else (sluicelaw01_GrainPlaced.j3 kj37 l2 a3 a4 true)) else (sluicelaw01_GrainPlaced.j3 kj37 l2 a3 a4 true)))) else (sluicelaw01_GrainPlaced.j3 kj37 l2 a3 a4 true)))) = some r := H
              have A46 := Aside0.mk A460
              clear A460
              have HC47 := Aside0.mk H
              clear H
              go_upto_region 14 with (first | ((with_reducible refine gate_callee (f := 28) rfl ?_); refine goesL_ (some 85) rfl rfl Tryd.func28 (by kernel_rfl) rfl #[.slice Ao15 x11_37.length co15, .int .i64 0, .int .i64 2] rfl (by (try simp only [List.map_toArray, List.map_cons, List.map_nil]); first | done | rfl | (simp only [List.length_drop, List.length_take]; rfl)) ?_; (with_reducible refine (grain_Get.calls _ _ x11_37 0 2 t137 t138 _ ?side1 ?side2 A45.out).mono ?_); (case side1 => repeat (first | exact (Kd.R_reads' HO_11.out).2.2 | (with_reducible refine Kd.C_alloc ?_ _) | (with_reducible refine Kd.C_drewN ?_ _) | (with_reducible refine Kd.C_drew ?_))); (case side2 => exact (Kd.R_reads' HO_11.out).2.1); rintro e w' ⟨rfl, ⟨nd, rfl⟩⟩; refine ⟨_, rfl, ?_⟩) | ((with_reducible refine gate_callee (f := 29) rfl ?_); refine goesL_ (some 90) rfl rfl Tryd.func29 (by kernel_rfl) rfl #[.slice Ao15 x11_37.length co15, .int .i64 0, .int .i64 2] rfl (by (try simp only [List.map_toArray, List.map_cons, List.map_nil]); first | done | rfl | (simp only [List.length_drop, List.length_take]; rfl)) ?_; (with_reducible refine (sluiceref01_Get.calls kj37 _ _ x11_37 0 2 t139 t140 _ ?side1 ?side2 A46.out).mono ?_); (case side1 => repeat (first | exact (Kd.R_reads' HO_11.out).2.2 | (with_reducible refine Kd.C_alloc ?_ _) | (with_reducible refine Kd.C_drewN ?_ _) | (with_reducible refine Kd.C_drew ?_))); (case side2 => exact (Kd.R_reads' HO_11.out).2.1); rintro e w' ⟨rfl, ⟨nd, rfl⟩⟩; refine ⟨_, rfl, ?_⟩))
              (try simp only [Act.put, List.setIfInBounds_toArray, List.set_cons_zero, List.set_cons_succ])
              go_cut [117] (fun v117 wc => ∃ (kq : Nat) (x117_46 : Bool), v117 = .bool x117_46 ∧ Aside0 (sluicelaw01_GrainPlaced.j3 kq l2 a3 a4 x117_46 = some r) ∧ Aside0 (kq ≤ kj37) ∧ Aside0 (Below w.heap.size w wc))
              case first =>
                have H := HC47.out
                clear HC47
                obtain ⟨y141, hy141⟩ : ∃ y_ : List (List Int), y_ = (([x11_37] : List (List Int))) := ⟨_, rfl⟩
                replace H : ((grain_CRC.f kj37 y141).bind fun t144 => ((sluiceref01_CRC.f kj37 (([x11_37] : List (List Int)))).bind fun t148 => (if t144 = t148 then ((grain_More.f kj37 7 x11_37).bind fun t149 => ((sluiceref01_More.f kj37 7 x11_37).bind fun t150 => (if t149 = t150 then (if t137 = t139 then ((sluicelaw01_num.f t138).bind fun t151 => (sluicelaw01_GrainPlaced.j3 kj37 l2 a3 a4 (t151 != t140))) else (sluicelaw01_GrainPlaced.j3 kj37 l2 a3 a4 true)) else (sluicelaw01_GrainPlaced.j3 kj37 l2 a3 a4 true)))) else (sluicelaw01_GrainPlaced.j3 kj37 l2 a3 a4 true)))) = some r := by first | (rw [hy141]; with_reducible exact H) | (have H2_ := (Option.bind_some _ _).symm.trans H; rw [hy141]; with_reducible exact H2_) | (have H2_ := (Option.bind_some _ _).symm.trans H; with_reducible exact H2_) | with_reducible exact H | (rw [hy141]; exact H) | exact H
                have Ny141 := Aside0.mk hy141
                clear hy141
                replace H := Option.bind_eq_some_iff.mp H
                obtain ⟨t144, A480, H⟩ := H
                replace H : ((sluiceref01_CRC.f kj37 (([x11_37] : List (List Int)))).bind fun t148 => (if t144 = t148 then ((grain_More.f kj37 7 x11_37).bind fun t149 => ((sluiceref01_More.f kj37 7 x11_37).bind fun t150 => (if t149 = t150 then (if t137 = t139 then ((sluicelaw01_num.f t138).bind fun t151 => (sluicelaw01_GrainPlaced.j3 kj37 l2 a3 a4 (t151 != t140))) else (sluicelaw01_GrainPlaced.j3 kj37 l2 a3 a4 true)) else (sluicelaw01_GrainPlaced.j3 kj37 l2 a3 a4 true)))) else (sluicelaw01_GrainPlaced.j3 kj37 l2 a3 a4 true))) = some r := H
                have A48 := Aside0.mk A480
                clear A480
                obtain ⟨y145, hy145⟩ : ∃ y_ : List (List Int), y_ = (([x11_37] : List (List Int))) := ⟨_, rfl⟩
                replace H : ((sluiceref01_CRC.f kj37 y145).bind fun t148 => (if t144 = t148 then ((grain_More.f kj37 7 x11_37).bind fun t149 => ((sluiceref01_More.f kj37 7 x11_37).bind fun t150 => (if t149 = t150 then (if t137 = t139 then ((sluicelaw01_num.f t138).bind fun t151 => (sluicelaw01_GrainPlaced.j3 kj37 l2 a3 a4 (t151 != t140))) else (sluicelaw01_GrainPlaced.j3 kj37 l2 a3 a4 true)) else (sluicelaw01_GrainPlaced.j3 kj37 l2 a3 a4 true)))) else (sluicelaw01_GrainPlaced.j3 kj37 l2 a3 a4 true))) = some r := by first | (rw [hy145]; with_reducible exact H) | (have H2_ := (Option.bind_some _ _).symm.trans H; rw [hy145]; with_reducible exact H2_) | (have H2_ := (Option.bind_some _ _).symm.trans H; with_reducible exact H2_) | with_reducible exact H | (rw [hy145]; exact H) | exact H
                have Ny145 := Aside0.mk hy145
                clear hy145
                replace H := Option.bind_eq_some_iff.mp H
                obtain ⟨t148, A490, H⟩ := H
                replace H : (if t144 = t148 then ((grain_More.f kj37 7 x11_37).bind fun t149 => ((sluiceref01_More.f kj37 7 x11_37).bind fun t150 => (if t149 = t150 then (if t137 = t139 then ((sluicelaw01_num.f t138).bind fun t151 => (sluicelaw01_GrainPlaced.j3 kj37 l2 a3 a4 (t151 != t140))) else (sluicelaw01_GrainPlaced.j3 kj37 l2 a3 a4 true)) else (sluicelaw01_GrainPlaced.j3 kj37 l2 a3 a4 true)))) else (sluicelaw01_GrainPlaced.j3 kj37 l2 a3 a4 true)) = some r := H
                have A49 := Aside0.mk A490
                clear A490
                by_cases c50 : t144 = t148
                · rw [if_pos c50] at H
                  have c50b0 : (t144 == t148) = true := beq_iff_eq.mpr c50
                  have c50b1 : (t144 != t148) = false := bne_eq_false_iff_eq.mpr c50
                  clear c50
                  (first | rw [c50b0] | (simp only [i64_w, i32_w]; rw [c50b0]) | skip)
                  replace H := Option.bind_eq_some_iff.mp H
                  obtain ⟨t149, A510, H⟩ := H
                  replace H : ((sluiceref01_More.f kj37 7 x11_37).bind fun t150 => (if t149 = t150 then (if t137 = t139 then ((sluicelaw01_num.f t138).bind fun t151 => (sluicelaw01_GrainPlaced.j3 kj37 l2 a3 a4 (t151 != t140))) else (sluicelaw01_GrainPlaced.j3 kj37 l2 a3 a4 true)) else (sluicelaw01_GrainPlaced.j3 kj37 l2 a3 a4 true))) = some r := H
                  have A51 := Aside0.mk A510
                  clear A510
                  replace H := Option.bind_eq_some_iff.mp H
                  obtain ⟨t150, A520, H⟩ := H
                  replace H : (if t149 = t150 then (if t137 = t139 then ((sluicelaw01_num.f t138).bind fun t151 => (sluicelaw01_GrainPlaced.j3 kj37 l2 a3 a4 (t151 != t140))) else (sluicelaw01_GrainPlaced.j3 kj37 l2 a3 a4 true)) else (sluicelaw01_GrainPlaced.j3 kj37 l2 a3 a4 true)) = some r := H
                  have A52 := Aside0.mk A520
                  clear A520
                  by_cases c53 : t149 = t150
                  · rw [if_pos c53] at H
                    have c53b0 : (t149 == t150) = true := beq_iff_eq.mpr c53
                    have c53b1 : (t149 != t150) = false := bne_eq_false_iff_eq.mpr c53
                    clear c53
                    by_cases c54 : t137 = t139
                    · rw [if_pos c54] at H
                      have c54b0 : (t137 == t139) = true := beq_iff_eq.mpr c54
                      have c54b1 : (t137 != t139) = false := bne_eq_false_iff_eq.mpr c54
                      clear c54
                      replace H := Option.bind_eq_some_iff.mp H
                      obtain ⟨t151, A550, H⟩ := H
                      replace H : (sluicelaw01_GrainPlaced.j3 kj37 l2 a3 a4 (t151 != t140)) = some r := H
                      have A55 := Aside0.mk A550
                      clear A550
                      have H' := Aside0.mk H
                      clear H
                      go_wp2_with (first | ((with_reducible refine gate_dst (N := 94) rfl ?_); (try (refine gate_guard (by rfl) ?_; dsimp only)); refine Kd.N_lit (Kd.slice 5 (Kd.int .u8)) _ 24 ?hg (N' := 94) ?hd (xs := ([x11_37] : List (List Int))) (inner := [.slice Ao15 x11_37.length co15]) (ok := (fun k_ => (P0_ k_ ∨ w.heap.size ≤ k_))) (okp := (fun k_ => (P0_ k_ ∨ w.heap.size ≤ k_))) ?hr ?hp (fun _ hk => hk) ((show ∀ k_, wc.heap.size ≤ k_ → (fun k_ => (P0_ k_ ∨ w.heap.size ≤ k_)) k_ from fun k_ hk => (.inr (Nat.le_trans (below_size (by repeat (first | (with_reducible first | exact HB.out | apply below_alloc | apply pw_below_drewN | apply below_drew1) | exact HB.out))) hk))) _ (Nat.le_refl _)) (Below.refl _ _) (Nat.le_refl _) (by simp) ?_; (case hd => rfl); (case hg => rfl); (case hr => first | (go_simp; done) | (go_simp; rfl)); (case hp => exact (Reps.one (show Kd.FK (Kd.slice 5 (Kd.int .u8)) _ _ x11_37 [.slice Ao15 x11_37.length co15] from (Kd.FK_slice_mk (Kd.R_reads' (Kd.R_mono (ok' := (fun k_ => (P0_ k_ ∨ w.heap.size ≤ k_))) (HO_11.out) (fun k_ hk => (.inr (hk))))).2.1 (Kd.R_F (Kd.R_mono (ok' := (fun k_ => (P0_ k_ ∨ w.heap.size ≤ k_))) (by first | exact Kd.R_drewN HO_11.out _ | exact HO_11.out) (by exact (fun k_ hk => (.inr (hk)))))))) (Reps.none _ _))); intro v142 w56 ho57 hb hg_ hnew_; clear hg_ hnew_; (first | rw [← Ny141.out] at ho57 | (simp only [Int.reduceToNat] at ho57; rw [← Ny141.out] at ho57)); have n0_ := Aside0.mk (Kd.R_below (by (with_reducible repeat (first | apply Kd.R_alloc | apply Kd.R_drewN | apply Kd.R_drew)); exact HO_11.out) hb); have n1_ := Aside0.mk (Kd.N_lower ho57 (below_size (by repeat (first | (with_reducible first | exact HB.out | apply below_alloc | apply pw_below_drewN | apply below_drew1) | exact HB.out)))); have n2_ := Aside0.mk (below_step (by repeat (first | (with_reducible first | exact HB.out | apply below_alloc | apply pw_below_drewN | apply below_drew1) | exact HB.out)) hb); clear HO_11; clear HB; have HO_11 := n0_; have HO143 := n1_; have HB := n2_; clear n0_ n1_ n2_; clear hb ho57; obtain ⟨Ao58, co58, eo58⟩ := Kd.N_slice HO143.out; subst eo58) | ((with_reducible refine gate_callee (f := 10) rfl ?_); refine goesL_ (some 95) rfl rfl Tryd.func10 (by kernel_rfl) rfl #[.slice Ao58 y141.length co58] rfl (by (try simp only [List.map_toArray, List.map_cons, List.map_nil]); first | done | rfl | (simp only [List.length_drop, List.length_take]; rfl)) ?_; (with_reducible refine (grain_CRC.calls kj37 _ _ y141 t144 _ ?side1 ?side2 A48.out (by first | exact hGS | ((repeat (first | exact hGS | apply Glob.GS.drewN | apply Glob.GS.drew | apply Glob.GS.alloc)); done) | exact Glob.GS.below hGS (by repeat (first | (with_reducible first | exact HB.out | apply below_alloc | apply pw_below_drewN | apply below_drew1) | exact HB.out)))).mono ?_); (case side1 => repeat (first | exact (Kd.N_reads' HO143.out).2.2 | (with_reducible refine Kd.C_alloc ?_ _) | (with_reducible refine Kd.C_drewN ?_ _) | (with_reducible refine Kd.C_drew ?_))); (case side2 => exact (Kd.N_reads' HO143.out).2.1); rintro e w' ⟨rfl, ⟨nd, rfl⟩⟩; refine ⟨_, rfl, ?_⟩) | ((with_reducible refine gate_dst (N := 97) rfl ?_); (try (refine gate_guard (by rfl) ?_; dsimp only)); refine Kd.N_lit (Kd.slice 5 (Kd.int .u8)) _ 24 ?hg (N' := 97) ?hd (xs := ([x11_37] : List (List Int))) (inner := [.slice Ao15 x11_37.length co15]) (ok := (fun k_ => (P0_ k_ ∨ w.heap.size ≤ k_) ∧ some k_ ≠ (.slice Ao58 y141.length co58 : Value).ownBlock)) (okp := (fun k_ => (P0_ k_ ∨ w.heap.size ≤ k_) ∧ some k_ ≠ (.slice Ao58 y141.length co58 : Value).ownBlock)) ?hr ?hp (fun _ hk => hk) ((show ∀ k_, w56.heap.size ≤ k_ → (fun k_ => (P0_ k_ ∨ w.heap.size ≤ k_) ∧ some k_ ≠ (.slice Ao58 y141.length co58 : Value).ownBlock) k_ from fun k_ hk => ⟨(.inr (Nat.le_trans (below_size (by repeat (first | (with_reducible first | exact HB.out | apply below_alloc | apply pw_below_drewN | apply below_drew1) | exact HB.out))) hk)), Kd.fresh' (Kd.N_lt (by (with_reducible repeat (first | apply Kd.N_alloc | apply Kd.N_drewN | apply Kd.N_drew)); exact HO143.out)) k_ hk⟩) _ (Nat.le_refl _)) (Below.refl _ _) (Nat.le_refl _) (by simp) ?_; (case hd => rfl); (case hg => rfl); (case hr => first | (go_simp; done) | (go_simp; rfl)); (case hp => exact (Reps.one (show Kd.FK (Kd.slice 5 (Kd.int .u8)) _ _ x11_37 [.slice Ao15 x11_37.length co15] from (Kd.FK_slice_mk (Kd.R_reads' (Kd.R_mono (ok' := (fun k_ => (P0_ k_ ∨ w.heap.size ≤ k_) ∧ some k_ ≠ (.slice Ao58 y141.length co58 : Value).ownBlock)) (Kd.R_apart' (HO_11.out) (Kd.N_typed HO143.out) (by decide)) (fun k_ hk => ⟨(.inr (hk.1)), hk.2⟩))).2.1 (Kd.R_F (Kd.R_mono (ok' := (fun k_ => (P0_ k_ ∨ w.heap.size ≤ k_) ∧ some k_ ≠ (.slice Ao58 y141.length co58 : Value).ownBlock)) (Kd.R_apart' (by first | exact Kd.R_drewN HO_11.out _ | exact HO_11.out) (Kd.N_typed HO143.out) (by decide)) (fun k_ hk => ⟨(.inr (hk.1)), hk.2⟩))))) (Reps.none _ _))); intro v146 w59 ho60 hb hg_ hnew_; clear hg_ hnew_; (first | rw [← Ny145.out] at ho60 | (simp only [Int.reduceToNat] at ho60; rw [← Ny145.out] at ho60)); have n0_ := Aside0.mk (Kd.R_below (by (with_reducible repeat (first | apply Kd.R_alloc | apply Kd.R_drewN | apply Kd.R_drew)); exact HO_11.out) hb); have n1_ := Aside0.mk (Kd.N_elder' (by (with_reducible repeat (first | apply Kd.N_alloc | apply Kd.N_drewN | apply Kd.N_drew)); exact HO143.out) (Kd.N_base ho60) hb); have n2_ := Aside0.mk (Kd.N_lower ho60 (below_size (by repeat (first | (with_reducible first | exact HB.out | apply below_alloc | apply pw_below_drewN | apply below_drew1) | exact HB.out)))); have n3_ := Aside0.mk (below_step (by repeat (first | (with_reducible first | exact HB.out | apply below_alloc | apply pw_below_drewN | apply below_drew1) | exact HB.out)) hb); clear HO_11; clear HO143; clear HB; have HO_11 := n0_; have HO143 := n1_; have HO147 := n2_; have HB := n3_; clear n0_ n1_ n2_ n3_; clear hb ho60; obtain ⟨Ao61, co61, eo61⟩ := Kd.N_slice HO147.out; subst eo61) | ((with_reducible refine gate_callee (f := 11) rfl ?_); refine goesL_ (some 98) rfl rfl Tryd.func11 (by kernel_rfl) rfl #[.slice Ao61 y145.length co61] rfl (by (try simp only [List.map_toArray, List.map_cons, List.map_nil]); first | done | rfl | (simp only [List.length_drop, List.length_take]; rfl)) ?_; (with_reducible refine (sluiceref01_CRC.calls kj37 _ _ y145 t148 _ ?side1 ?side2 A49.out).mono ?_); (case side1 => repeat (first | exact (Kd.N_reads' HO147.out).2.2 | (with_reducible refine Kd.C_alloc ?_ _) | (with_reducible refine Kd.C_drewN ?_ _) | (with_reducible refine Kd.C_drew ?_))); (case side2 => exact (Kd.N_reads' HO147.out).2.1); rintro e w' ⟨rfl, ⟨nd, rfl⟩⟩; refine ⟨_, rfl, ?_⟩) | (go_at_call 12; (with_reducible refine (grain_More.calls kj37 7 _ _ x11_37 t149 _ ?side1 ?side2 A51.out (by first | exact hGS | ((repeat (first | exact hGS | apply Glob.GS.drewN | apply Glob.GS.drew | apply Glob.GS.alloc)); done) | exact Glob.GS.below hGS (by repeat (first | (with_reducible first | exact HB.out | apply below_alloc | apply pw_below_drewN | apply below_drew1) | exact HB.out)))).mono ?_); (case side1 => repeat (first | exact (Kd.R_reads' HO_11.out).2.2 | (with_reducible refine Kd.C_alloc ?_ _) | (with_reducible refine Kd.C_drewN ?_ _) | (with_reducible refine Kd.C_drew ?_))); (case side2 => exact (Kd.R_reads' HO_11.out).2.1); rintro e w' ⟨rfl, ⟨nd, rfl⟩⟩) | (go_at_call 13; (with_reducible refine (sluiceref01_More.calls kj37 7 _ _ x11_37 t150 _ ?side1 ?side2 A52.out).mono ?_); (case side1 => repeat (first | exact (Kd.R_reads' HO_11.out).2.2 | (with_reducible refine Kd.C_alloc ?_ _) | (with_reducible refine Kd.C_drewN ?_ _) | (with_reducible refine Kd.C_drew ?_))); (case side2 => exact (Kd.R_reads' HO_11.out).2.1); rintro e w' ⟨rfl, ⟨nd, rfl⟩⟩) | (go_at_call 17; (with_reducible refine (sluicelaw01_num.calls t138 t151 _ A55.out).mono ?_); rintro e w' ⟨rfl, ⟨nd, rfl⟩⟩))
                      go_meet
                      case rel => exact ⟨_, ((t151 != t140)), (by first | rfl | (simp; done) | (simp [*]; done)), H', ⟨by have := HJ10.out; have := HJ37.out; first | omega | exact Nat.le_refl _⟩, ⟨by repeat (first | (with_reducible first | exact HB.out | apply below_alloc | apply pw_below_drewN | apply below_drew1) | exact HB.out)⟩⟩
                    · rw [if_neg c54] at H
                      have c54b0 : (t137 == t139) = false := beq_eq_false_iff_ne.mpr c54
                      have c54b1 : (t137 != t139) = true := bne_iff_ne.mpr c54
                      have H' := Aside0.mk H
                      clear H
                      go_wp2_with (first | ((with_reducible refine gate_dst (N := 94) rfl ?_); (try (refine gate_guard (by rfl) ?_; dsimp only)); refine Kd.N_lit (Kd.slice 5 (Kd.int .u8)) _ 24 ?hg (N' := 94) ?hd (xs := ([x11_37] : List (List Int))) (inner := [.slice Ao15 x11_37.length co15]) (ok := (fun k_ => (P0_ k_ ∨ w.heap.size ≤ k_))) (okp := (fun k_ => (P0_ k_ ∨ w.heap.size ≤ k_))) ?hr ?hp (fun _ hk => hk) ((show ∀ k_, wc.heap.size ≤ k_ → (fun k_ => (P0_ k_ ∨ w.heap.size ≤ k_)) k_ from fun k_ hk => (.inr (Nat.le_trans (below_size (by repeat (first | (with_reducible first | exact HB.out | apply below_alloc | apply pw_below_drewN | apply below_drew1) | exact HB.out))) hk))) _ (Nat.le_refl _)) (Below.refl _ _) (Nat.le_refl _) (by simp) ?_; (case hd => rfl); (case hg => rfl); (case hr => first | (go_simp; done) | (go_simp; rfl)); (case hp => exact (Reps.one (show Kd.FK (Kd.slice 5 (Kd.int .u8)) _ _ x11_37 [.slice Ao15 x11_37.length co15] from (Kd.FK_slice_mk (Kd.R_reads' (Kd.R_mono (ok' := (fun k_ => (P0_ k_ ∨ w.heap.size ≤ k_))) (HO_11.out) (fun k_ hk => (.inr (hk))))).2.1 (Kd.R_F (Kd.R_mono (ok' := (fun k_ => (P0_ k_ ∨ w.heap.size ≤ k_))) (by first | exact Kd.R_drewN HO_11.out _ | exact HO_11.out) (by exact (fun k_ hk => (.inr (hk)))))))) (Reps.none _ _))); intro v142 w62 ho63 hb hg_ hnew_; clear hg_ hnew_; (first | rw [← Ny141.out] at ho63 | (simp only [Int.reduceToNat] at ho63; rw [← Ny141.out] at ho63)); have n0_ := Aside0.mk (Kd.R_below (by (with_reducible repeat (first | apply Kd.R_alloc | apply Kd.R_drewN | apply Kd.R_drew)); exact HO_11.out) hb); have n1_ := Aside0.mk (Kd.N_lower ho63 (below_size (by repeat (first | (with_reducible first | exact HB.out | apply below_alloc | apply pw_below_drewN | apply below_drew1) | exact HB.out)))); have n2_ := Aside0.mk (below_step (by repeat (first | (with_reducible first | exact HB.out | apply below_alloc | apply pw_below_drewN | apply below_drew1) | exact HB.out)) hb); clear HO_11; clear HB; have HO_11 := n0_; have HO143 := n1_; have HB := n2_; clear n0_ n1_ n2_; clear hb ho63; obtain ⟨Ao64, co64, eo64⟩ := Kd.N_slice HO143.out; subst eo64) | ((with_reducible refine gate_callee (f := 10) rfl ?_); refine goesL_ (some 95) rfl rfl Tryd.func10 (by kernel_rfl) rfl #[.slice Ao64 y141.length co64] rfl (by (try simp only [List.map_toArray, List.map_cons, List.map_nil]); first | done | rfl | (simp only [List.length_drop, List.length_take]; rfl)) ?_; (with_reducible refine (grain_CRC.calls kj37 _ _ y141 t144 _ ?side1 ?side2 A48.out (by first | exact hGS | ((repeat (first | exact hGS | apply Glob.GS.drewN | apply Glob.GS.drew | apply Glob.GS.alloc)); done) | exact Glob.GS.below hGS (by repeat (first | (with_reducible first | exact HB.out | apply below_alloc | apply pw_below_drewN | apply below_drew1) | exact HB.out)))).mono ?_); (case side1 => repeat (first | exact (Kd.N_reads' HO143.out).2.2 | (with_reducible refine Kd.C_alloc ?_ _) | (with_reducible refine Kd.C_drewN ?_ _) | (with_reducible refine Kd.C_drew ?_))); (case side2 => exact (Kd.N_reads' HO143.out).2.1); rintro e w' ⟨rfl, ⟨nd, rfl⟩⟩; refine ⟨_, rfl, ?_⟩) | ((with_reducible refine gate_dst (N := 97) rfl ?_); (try (refine gate_guard (by rfl) ?_; dsimp only)); refine Kd.N_lit (Kd.slice 5 (Kd.int .u8)) _ 24 ?hg (N' := 97) ?hd (xs := ([x11_37] : List (List Int))) (inner := [.slice Ao15 x11_37.length co15]) (ok := (fun k_ => (P0_ k_ ∨ w.heap.size ≤ k_) ∧ some k_ ≠ (.slice Ao64 y141.length co64 : Value).ownBlock)) (okp := (fun k_ => (P0_ k_ ∨ w.heap.size ≤ k_) ∧ some k_ ≠ (.slice Ao64 y141.length co64 : Value).ownBlock)) ?hr ?hp (fun _ hk => hk) ((show ∀ k_, w62.heap.size ≤ k_ → (fun k_ => (P0_ k_ ∨ w.heap.size ≤ k_) ∧ some k_ ≠ (.slice Ao64 y141.length co64 : Value).ownBlock) k_ from fun k_ hk => ⟨(.inr (Nat.le_trans (below_size (by repeat (first | (with_reducible first | exact HB.out | apply below_alloc | apply pw_below_drewN | apply below_drew1) | exact HB.out))) hk)), Kd.fresh' (Kd.N_lt (by (with_reducible repeat (first | apply Kd.N_alloc | apply Kd.N_drewN | apply Kd.N_drew)); exact HO143.out)) k_ hk⟩) _ (Nat.le_refl _)) (Below.refl _ _) (Nat.le_refl _) (by simp) ?_; (case hd => rfl); (case hg => rfl); (case hr => first | (go_simp; done) | (go_simp; rfl)); (case hp => exact (Reps.one (show Kd.FK (Kd.slice 5 (Kd.int .u8)) _ _ x11_37 [.slice Ao15 x11_37.length co15] from (Kd.FK_slice_mk (Kd.R_reads' (Kd.R_mono (ok' := (fun k_ => (P0_ k_ ∨ w.heap.size ≤ k_) ∧ some k_ ≠ (.slice Ao64 y141.length co64 : Value).ownBlock)) (Kd.R_apart' (HO_11.out) (Kd.N_typed HO143.out) (by decide)) (fun k_ hk => ⟨(.inr (hk.1)), hk.2⟩))).2.1 (Kd.R_F (Kd.R_mono (ok' := (fun k_ => (P0_ k_ ∨ w.heap.size ≤ k_) ∧ some k_ ≠ (.slice Ao64 y141.length co64 : Value).ownBlock)) (Kd.R_apart' (by first | exact Kd.R_drewN HO_11.out _ | exact HO_11.out) (Kd.N_typed HO143.out) (by decide)) (fun k_ hk => ⟨(.inr (hk.1)), hk.2⟩))))) (Reps.none _ _))); intro v146 w65 ho66 hb hg_ hnew_; clear hg_ hnew_; (first | rw [← Ny145.out] at ho66 | (simp only [Int.reduceToNat] at ho66; rw [← Ny145.out] at ho66)); have n0_ := Aside0.mk (Kd.R_below (by (with_reducible repeat (first | apply Kd.R_alloc | apply Kd.R_drewN | apply Kd.R_drew)); exact HO_11.out) hb); have n1_ := Aside0.mk (Kd.N_elder' (by (with_reducible repeat (first | apply Kd.N_alloc | apply Kd.N_drewN | apply Kd.N_drew)); exact HO143.out) (Kd.N_base ho66) hb); have n2_ := Aside0.mk (Kd.N_lower ho66 (below_size (by repeat (first | (with_reducible first | exact HB.out | apply below_alloc | apply pw_below_drewN | apply below_drew1) | exact HB.out)))); have n3_ := Aside0.mk (below_step (by repeat (first | (with_reducible first | exact HB.out | apply below_alloc | apply pw_below_drewN | apply below_drew1) | exact HB.out)) hb); clear HO_11; clear HO143; clear HB; have HO_11 := n0_; have HO143 := n1_; have HO147 := n2_; have HB := n3_; clear n0_ n1_ n2_ n3_; clear hb ho66; obtain ⟨Ao67, co67, eo67⟩ := Kd.N_slice HO147.out; subst eo67) | ((with_reducible refine gate_callee (f := 11) rfl ?_); refine goesL_ (some 98) rfl rfl Tryd.func11 (by kernel_rfl) rfl #[.slice Ao67 y145.length co67] rfl (by (try simp only [List.map_toArray, List.map_cons, List.map_nil]); first | done | rfl | (simp only [List.length_drop, List.length_take]; rfl)) ?_; (with_reducible refine (sluiceref01_CRC.calls kj37 _ _ y145 t148 _ ?side1 ?side2 A49.out).mono ?_); (case side1 => repeat (first | exact (Kd.N_reads' HO147.out).2.2 | (with_reducible refine Kd.C_alloc ?_ _) | (with_reducible refine Kd.C_drewN ?_ _) | (with_reducible refine Kd.C_drew ?_))); (case side2 => exact (Kd.N_reads' HO147.out).2.1); rintro e w' ⟨rfl, ⟨nd, rfl⟩⟩; refine ⟨_, rfl, ?_⟩) | (go_at_call 12; (with_reducible refine (grain_More.calls kj37 7 _ _ x11_37 t149 _ ?side1 ?side2 A51.out (by first | exact hGS | ((repeat (first | exact hGS | apply Glob.GS.drewN | apply Glob.GS.drew | apply Glob.GS.alloc)); done) | exact Glob.GS.below hGS (by repeat (first | (with_reducible first | exact HB.out | apply below_alloc | apply pw_below_drewN | apply below_drew1) | exact HB.out)))).mono ?_); (case side1 => repeat (first | exact (Kd.R_reads' HO_11.out).2.2 | (with_reducible refine Kd.C_alloc ?_ _) | (with_reducible refine Kd.C_drewN ?_ _) | (with_reducible refine Kd.C_drew ?_))); (case side2 => exact (Kd.R_reads' HO_11.out).2.1); rintro e w' ⟨rfl, ⟨nd, rfl⟩⟩) | (go_at_call 13; (with_reducible refine (sluiceref01_More.calls kj37 7 _ _ x11_37 t150 _ ?side1 ?side2 A52.out).mono ?_); (case side1 => repeat (first | exact (Kd.R_reads' HO_11.out).2.2 | (with_reducible refine Kd.C_alloc ?_ _) | (with_reducible refine Kd.C_drewN ?_ _) | (with_reducible refine Kd.C_drew ?_))); (case side2 => exact (Kd.R_reads' HO_11.out).2.1); rintro e w' ⟨rfl, ⟨nd, rfl⟩⟩))
                      go_meet
                      case rel => exact ⟨_, (true), (by first | rfl | (simp; done) | (simp [*]; done)), H', ⟨by have := HJ10.out; have := HJ37.out; first | omega | exact Nat.le_refl _⟩, ⟨by repeat (first | (with_reducible first | exact HB.out | apply below_alloc | apply pw_below_drewN | apply below_drew1) | exact HB.out)⟩⟩
                  · rw [if_neg c53] at H
                    have c53b0 : (t149 == t150) = false := beq_eq_false_iff_ne.mpr c53
                    have c53b1 : (t149 != t150) = true := bne_iff_ne.mpr c53
                    have H' := Aside0.mk H
                    clear H
                    go_wp2_with (first | ((with_reducible refine gate_dst (N := 94) rfl ?_); (try (refine gate_guard (by rfl) ?_; dsimp only)); refine Kd.N_lit (Kd.slice 5 (Kd.int .u8)) _ 24 ?hg (N' := 94) ?hd (xs := ([x11_37] : List (List Int))) (inner := [.slice Ao15 x11_37.length co15]) (ok := (fun k_ => (P0_ k_ ∨ w.heap.size ≤ k_))) (okp := (fun k_ => (P0_ k_ ∨ w.heap.size ≤ k_))) ?hr ?hp (fun _ hk => hk) ((show ∀ k_, wc.heap.size ≤ k_ → (fun k_ => (P0_ k_ ∨ w.heap.size ≤ k_)) k_ from fun k_ hk => (.inr (Nat.le_trans (below_size (by repeat (first | (with_reducible first | exact HB.out | apply below_alloc | apply pw_below_drewN | apply below_drew1) | exact HB.out))) hk))) _ (Nat.le_refl _)) (Below.refl _ _) (Nat.le_refl _) (by simp) ?_; (case hd => rfl); (case hg => rfl); (case hr => first | (go_simp; done) | (go_simp; rfl)); (case hp => exact (Reps.one (show Kd.FK (Kd.slice 5 (Kd.int .u8)) _ _ x11_37 [.slice Ao15 x11_37.length co15] from (Kd.FK_slice_mk (Kd.R_reads' (Kd.R_mono (ok' := (fun k_ => (P0_ k_ ∨ w.heap.size ≤ k_))) (HO_11.out) (fun k_ hk => (.inr (hk))))).2.1 (Kd.R_F (Kd.R_mono (ok' := (fun k_ => (P0_ k_ ∨ w.heap.size ≤ k_))) (by first | exact Kd.R_drewN HO_11.out _ | exact HO_11.out) (by exact (fun k_ hk => (.inr (hk)))))))) (Reps.none _ _))); intro v142 w68 ho69 hb hg_ hnew_; clear hg_ hnew_; (first | rw [← Ny141.out] at ho69 | (simp only [Int.reduceToNat] at ho69; rw [← Ny141.out] at ho69)); have n0_ := Aside0.mk (Kd.R_below (by (with_reducible repeat (first | apply Kd.R_alloc | apply Kd.R_drewN | apply Kd.R_drew)); exact HO_11.out) hb); have n1_ := Aside0.mk (Kd.N_lower ho69 (below_size (by repeat (first | (with_reducible first | exact HB.out | apply below_alloc | apply pw_below_drewN | apply below_drew1) | exact HB.out)))); have n2_ := Aside0.mk (below_step (by repeat (first | (with_reducible first | exact HB.out | apply below_alloc | apply pw_below_drewN | apply below_drew1) | exact HB.out)) hb); clear HO_11; clear HB; have HO_11 := n0_; have HO143 := n1_; have HB := n2_; clear n0_ n1_ n2_; clear hb ho69; obtain ⟨Ao70, co70, eo70⟩ := Kd.N_slice HO143.out; subst eo70) | ((with_reducible refine gate_callee (f := 10) rfl ?_); refine goesL_ (some 95) rfl rfl Tryd.func10 (by kernel_rfl) rfl #[.slice Ao70 y141.length co70] rfl (by (try simp only [List.map_toArray, List.map_cons, List.map_nil]); first | done | rfl | (simp only [List.length_drop, List.length_take]; rfl)) ?_; (with_reducible refine (grain_CRC.calls kj37 _ _ y141 t144 _ ?side1 ?side2 A48.out (by first | exact hGS | ((repeat (first | exact hGS | apply Glob.GS.drewN | apply Glob.GS.drew | apply Glob.GS.alloc)); done) | exact Glob.GS.below hGS (by repeat (first | (with_reducible first | exact HB.out | apply below_alloc | apply pw_below_drewN | apply below_drew1) | exact HB.out)))).mono ?_); (case side1 => repeat (first | exact (Kd.N_reads' HO143.out).2.2 | (with_reducible refine Kd.C_alloc ?_ _) | (with_reducible refine Kd.C_drewN ?_ _) | (with_reducible refine Kd.C_drew ?_))); (case side2 => exact (Kd.N_reads' HO143.out).2.1); rintro e w' ⟨rfl, ⟨nd, rfl⟩⟩; refine ⟨_, rfl, ?_⟩) | ((with_reducible refine gate_dst (N := 97) rfl ?_); (try (refine gate_guard (by rfl) ?_; dsimp only)); refine Kd.N_lit (Kd.slice 5 (Kd.int .u8)) _ 24 ?hg (N' := 97) ?hd (xs := ([x11_37] : List (List Int))) (inner := [.slice Ao15 x11_37.length co15]) (ok := (fun k_ => (P0_ k_ ∨ w.heap.size ≤ k_) ∧ some k_ ≠ (.slice Ao70 y141.length co70 : Value).ownBlock)) (okp := (fun k_ => (P0_ k_ ∨ w.heap.size ≤ k_) ∧ some k_ ≠ (.slice Ao70 y141.length co70 : Value).ownBlock)) ?hr ?hp (fun _ hk => hk) ((show ∀ k_, w68.heap.size ≤ k_ → (fun k_ => (P0_ k_ ∨ w.heap.size ≤ k_) ∧ some k_ ≠ (.slice Ao70 y141.length co70 : Value).ownBlock) k_ from fun k_ hk => ⟨(.inr (Nat.le_trans (below_size (by repeat (first | (with_reducible first | exact HB.out | apply below_alloc | apply pw_below_drewN | apply below_drew1) | exact HB.out))) hk)), Kd.fresh' (Kd.N_lt (by (with_reducible repeat (first | apply Kd.N_alloc | apply Kd.N_drewN | apply Kd.N_drew)); exact HO143.out)) k_ hk⟩) _ (Nat.le_refl _)) (Below.refl _ _) (Nat.le_refl _) (by simp) ?_; (case hd => rfl); (case hg => rfl); (case hr => first | (go_simp; done) | (go_simp; rfl)); (case hp => exact (Reps.one (show Kd.FK (Kd.slice 5 (Kd.int .u8)) _ _ x11_37 [.slice Ao15 x11_37.length co15] from (Kd.FK_slice_mk (Kd.R_reads' (Kd.R_mono (ok' := (fun k_ => (P0_ k_ ∨ w.heap.size ≤ k_) ∧ some k_ ≠ (.slice Ao70 y141.length co70 : Value).ownBlock)) (Kd.R_apart' (HO_11.out) (Kd.N_typed HO143.out) (by decide)) (fun k_ hk => ⟨(.inr (hk.1)), hk.2⟩))).2.1 (Kd.R_F (Kd.R_mono (ok' := (fun k_ => (P0_ k_ ∨ w.heap.size ≤ k_) ∧ some k_ ≠ (.slice Ao70 y141.length co70 : Value).ownBlock)) (Kd.R_apart' (by first | exact Kd.R_drewN HO_11.out _ | exact HO_11.out) (Kd.N_typed HO143.out) (by decide)) (fun k_ hk => ⟨(.inr (hk.1)), hk.2⟩))))) (Reps.none _ _))); intro v146 w71 ho72 hb hg_ hnew_; clear hg_ hnew_; (first | rw [← Ny145.out] at ho72 | (simp only [Int.reduceToNat] at ho72; rw [← Ny145.out] at ho72)); have n0_ := Aside0.mk (Kd.R_below (by (with_reducible repeat (first | apply Kd.R_alloc | apply Kd.R_drewN | apply Kd.R_drew)); exact HO_11.out) hb); have n1_ := Aside0.mk (Kd.N_elder' (by (with_reducible repeat (first | apply Kd.N_alloc | apply Kd.N_drewN | apply Kd.N_drew)); exact HO143.out) (Kd.N_base ho72) hb); have n2_ := Aside0.mk (Kd.N_lower ho72 (below_size (by repeat (first | (with_reducible first | exact HB.out | apply below_alloc | apply pw_below_drewN | apply below_drew1) | exact HB.out)))); have n3_ := Aside0.mk (below_step (by repeat (first | (with_reducible first | exact HB.out | apply below_alloc | apply pw_below_drewN | apply below_drew1) | exact HB.out)) hb); clear HO_11; clear HO143; clear HB; have HO_11 := n0_; have HO143 := n1_; have HO147 := n2_; have HB := n3_; clear n0_ n1_ n2_ n3_; clear hb ho72; obtain ⟨Ao73, co73, eo73⟩ := Kd.N_slice HO147.out; subst eo73) | ((with_reducible refine gate_callee (f := 11) rfl ?_); refine goesL_ (some 98) rfl rfl Tryd.func11 (by kernel_rfl) rfl #[.slice Ao73 y145.length co73] rfl (by (try simp only [List.map_toArray, List.map_cons, List.map_nil]); first | done | rfl | (simp only [List.length_drop, List.length_take]; rfl)) ?_; (with_reducible refine (sluiceref01_CRC.calls kj37 _ _ y145 t148 _ ?side1 ?side2 A49.out).mono ?_); (case side1 => repeat (first | exact (Kd.N_reads' HO147.out).2.2 | (with_reducible refine Kd.C_alloc ?_ _) | (with_reducible refine Kd.C_drewN ?_ _) | (with_reducible refine Kd.C_drew ?_))); (case side2 => exact (Kd.N_reads' HO147.out).2.1); rintro e w' ⟨rfl, ⟨nd, rfl⟩⟩; refine ⟨_, rfl, ?_⟩) | (go_at_call 12; (with_reducible refine (grain_More.calls kj37 7 _ _ x11_37 t149 _ ?side1 ?side2 A51.out (by first | exact hGS | ((repeat (first | exact hGS | apply Glob.GS.drewN | apply Glob.GS.drew | apply Glob.GS.alloc)); done) | exact Glob.GS.below hGS (by repeat (first | (with_reducible first | exact HB.out | apply below_alloc | apply pw_below_drewN | apply below_drew1) | exact HB.out)))).mono ?_); (case side1 => repeat (first | exact (Kd.R_reads' HO_11.out).2.2 | (with_reducible refine Kd.C_alloc ?_ _) | (with_reducible refine Kd.C_drewN ?_ _) | (with_reducible refine Kd.C_drew ?_))); (case side2 => exact (Kd.R_reads' HO_11.out).2.1); rintro e w' ⟨rfl, ⟨nd, rfl⟩⟩) | (go_at_call 13; (with_reducible refine (sluiceref01_More.calls kj37 7 _ _ x11_37 t150 _ ?side1 ?side2 A52.out).mono ?_); (case side1 => repeat (first | exact (Kd.R_reads' HO_11.out).2.2 | (with_reducible refine Kd.C_alloc ?_ _) | (with_reducible refine Kd.C_drewN ?_ _) | (with_reducible refine Kd.C_drew ?_))); (case side2 => exact (Kd.R_reads' HO_11.out).2.1); rintro e w' ⟨rfl, ⟨nd, rfl⟩⟩))
                    go_meet
                    case rel => exact ⟨_, (true), (by first | rfl | (simp; done) | (simp [*]; done)), H', ⟨by have := HJ10.out; have := HJ37.out; first | omega | exact Nat.le_refl _⟩, ⟨by repeat (first | (with_reducible first | exact HB.out | apply below_alloc | apply pw_below_drewN | apply below_drew1) | exact HB.out)⟩⟩
                · rw [if_neg c50] at H
                  have c50b0 : (t144 == t148) = false := beq_eq_false_iff_ne.mpr c50
                  have c50b1 : (t144 != t148) = true := bne_iff_ne.mpr c50
                  (first | rw [c50b0] | (simp only [i64_w, i32_w]; rw [c50b0]) | skip)
                  have H' := Aside0.mk H
                  clear H
                  go_wp2_with (first | ((with_reducible refine gate_dst (N := 94) rfl ?_); (try (refine gate_guard (by rfl) ?_; dsimp only)); refine Kd.N_lit (Kd.slice 5 (Kd.int .u8)) _ 24 ?hg (N' := 94) ?hd (xs := ([x11_37] : List (List Int))) (inner := [.slice Ao15 x11_37.length co15]) (ok := (fun k_ => (P0_ k_ ∨ w.heap.size ≤ k_))) (okp := (fun k_ => (P0_ k_ ∨ w.heap.size ≤ k_))) ?hr ?hp (fun _ hk => hk) ((show ∀ k_, wc.heap.size ≤ k_ → (fun k_ => (P0_ k_ ∨ w.heap.size ≤ k_)) k_ from fun k_ hk => (.inr (Nat.le_trans (below_size (by repeat (first | (with_reducible first | exact HB.out | apply below_alloc | apply pw_below_drewN | apply below_drew1) | exact HB.out))) hk))) _ (Nat.le_refl _)) (Below.refl _ _) (Nat.le_refl _) (by simp) ?_; (case hd => rfl); (case hg => rfl); (case hr => first | (go_simp; done) | (go_simp; rfl)); (case hp => exact (Reps.one (show Kd.FK (Kd.slice 5 (Kd.int .u8)) _ _ x11_37 [.slice Ao15 x11_37.length co15] from (Kd.FK_slice_mk (Kd.R_reads' (Kd.R_mono (ok' := (fun k_ => (P0_ k_ ∨ w.heap.size ≤ k_))) (HO_11.out) (fun k_ hk => (.inr (hk))))).2.1 (Kd.R_F (Kd.R_mono (ok' := (fun k_ => (P0_ k_ ∨ w.heap.size ≤ k_))) (by first | exact Kd.R_drewN HO_11.out _ | exact HO_11.out) (by exact (fun k_ hk => (.inr (hk)))))))) (Reps.none _ _))); intro v142 w74 ho75 hb hg_ hnew_; clear hg_ hnew_; (first | rw [← Ny141.out] at ho75 | (simp only [Int.reduceToNat] at ho75; rw [← Ny141.out] at ho75)); have n0_ := Aside0.mk (Kd.R_below (by (with_reducible repeat (first | apply Kd.R_alloc | apply Kd.R_drewN | apply Kd.R_drew)); exact HO_11.out) hb); have n1_ := Aside0.mk (Kd.N_lower ho75 (below_size (by repeat (first | (with_reducible first | exact HB.out | apply below_alloc | apply pw_below_drewN | apply below_drew1) | exact HB.out)))); have n2_ := Aside0.mk (below_step (by repeat (first | (with_reducible first | exact HB.out | apply below_alloc | apply pw_below_drewN | apply below_drew1) | exact HB.out)) hb); clear HO_11; clear HB; have HO_11 := n0_; have HO143 := n1_; have HB := n2_; clear n0_ n1_ n2_; clear hb ho75; obtain ⟨Ao76, co76, eo76⟩ := Kd.N_slice HO143.out; subst eo76) | ((with_reducible refine gate_callee (f := 10) rfl ?_); refine goesL_ (some 95) rfl rfl Tryd.func10 (by kernel_rfl) rfl #[.slice Ao76 y141.length co76] rfl (by (try simp only [List.map_toArray, List.map_cons, List.map_nil]); first | done | rfl | (simp only [List.length_drop, List.length_take]; rfl)) ?_; (with_reducible refine (grain_CRC.calls kj37 _ _ y141 t144 _ ?side1 ?side2 A48.out (by first | exact hGS | ((repeat (first | exact hGS | apply Glob.GS.drewN | apply Glob.GS.drew | apply Glob.GS.alloc)); done) | exact Glob.GS.below hGS (by repeat (first | (with_reducible first | exact HB.out | apply below_alloc | apply pw_below_drewN | apply below_drew1) | exact HB.out)))).mono ?_); (case side1 => repeat (first | exact (Kd.N_reads' HO143.out).2.2 | (with_reducible refine Kd.C_alloc ?_ _) | (with_reducible refine Kd.C_drewN ?_ _) | (with_reducible refine Kd.C_drew ?_))); (case side2 => exact (Kd.N_reads' HO143.out).2.1); rintro e w' ⟨rfl, ⟨nd, rfl⟩⟩; refine ⟨_, rfl, ?_⟩) | ((with_reducible refine gate_dst (N := 97) rfl ?_); (try (refine gate_guard (by rfl) ?_; dsimp only)); refine Kd.N_lit (Kd.slice 5 (Kd.int .u8)) _ 24 ?hg (N' := 97) ?hd (xs := ([x11_37] : List (List Int))) (inner := [.slice Ao15 x11_37.length co15]) (ok := (fun k_ => (P0_ k_ ∨ w.heap.size ≤ k_) ∧ some k_ ≠ (.slice Ao76 y141.length co76 : Value).ownBlock)) (okp := (fun k_ => (P0_ k_ ∨ w.heap.size ≤ k_) ∧ some k_ ≠ (.slice Ao76 y141.length co76 : Value).ownBlock)) ?hr ?hp (fun _ hk => hk) ((show ∀ k_, w74.heap.size ≤ k_ → (fun k_ => (P0_ k_ ∨ w.heap.size ≤ k_) ∧ some k_ ≠ (.slice Ao76 y141.length co76 : Value).ownBlock) k_ from fun k_ hk => ⟨(.inr (Nat.le_trans (below_size (by repeat (first | (with_reducible first | exact HB.out | apply below_alloc | apply pw_below_drewN | apply below_drew1) | exact HB.out))) hk)), Kd.fresh' (Kd.N_lt (by (with_reducible repeat (first | apply Kd.N_alloc | apply Kd.N_drewN | apply Kd.N_drew)); exact HO143.out)) k_ hk⟩) _ (Nat.le_refl _)) (Below.refl _ _) (Nat.le_refl _) (by simp) ?_; (case hd => rfl); (case hg => rfl); (case hr => first | (go_simp; done) | (go_simp; rfl)); (case hp => exact (Reps.one (show Kd.FK (Kd.slice 5 (Kd.int .u8)) _ _ x11_37 [.slice Ao15 x11_37.length co15] from (Kd.FK_slice_mk (Kd.R_reads' (Kd.R_mono (ok' := (fun k_ => (P0_ k_ ∨ w.heap.size ≤ k_) ∧ some k_ ≠ (.slice Ao76 y141.length co76 : Value).ownBlock)) (Kd.R_apart' (HO_11.out) (Kd.N_typed HO143.out) (by decide)) (fun k_ hk => ⟨(.inr (hk.1)), hk.2⟩))).2.1 (Kd.R_F (Kd.R_mono (ok' := (fun k_ => (P0_ k_ ∨ w.heap.size ≤ k_) ∧ some k_ ≠ (.slice Ao76 y141.length co76 : Value).ownBlock)) (Kd.R_apart' (by first | exact Kd.R_drewN HO_11.out _ | exact HO_11.out) (Kd.N_typed HO143.out) (by decide)) (fun k_ hk => ⟨(.inr (hk.1)), hk.2⟩))))) (Reps.none _ _))); intro v146 w77 ho78 hb hg_ hnew_; clear hg_ hnew_; (first | rw [← Ny145.out] at ho78 | (simp only [Int.reduceToNat] at ho78; rw [← Ny145.out] at ho78)); have n0_ := Aside0.mk (Kd.R_below (by (with_reducible repeat (first | apply Kd.R_alloc | apply Kd.R_drewN | apply Kd.R_drew)); exact HO_11.out) hb); have n1_ := Aside0.mk (Kd.N_elder' (by (with_reducible repeat (first | apply Kd.N_alloc | apply Kd.N_drewN | apply Kd.N_drew)); exact HO143.out) (Kd.N_base ho78) hb); have n2_ := Aside0.mk (Kd.N_lower ho78 (below_size (by repeat (first | (with_reducible first | exact HB.out | apply below_alloc | apply pw_below_drewN | apply below_drew1) | exact HB.out)))); have n3_ := Aside0.mk (below_step (by repeat (first | (with_reducible first | exact HB.out | apply below_alloc | apply pw_below_drewN | apply below_drew1) | exact HB.out)) hb); clear HO_11; clear HO143; clear HB; have HO_11 := n0_; have HO143 := n1_; have HO147 := n2_; have HB := n3_; clear n0_ n1_ n2_ n3_; clear hb ho78; obtain ⟨Ao79, co79, eo79⟩ := Kd.N_slice HO147.out; subst eo79) | ((with_reducible refine gate_callee (f := 11) rfl ?_); refine goesL_ (some 98) rfl rfl Tryd.func11 (by kernel_rfl) rfl #[.slice Ao79 y145.length co79] rfl (by (try simp only [List.map_toArray, List.map_cons, List.map_nil]); first | done | rfl | (simp only [List.length_drop, List.length_take]; rfl)) ?_; (with_reducible refine (sluiceref01_CRC.calls kj37 _ _ y145 t148 _ ?side1 ?side2 A49.out).mono ?_); (case side1 => repeat (first | exact (Kd.N_reads' HO147.out).2.2 | (with_reducible refine Kd.C_alloc ?_ _) | (with_reducible refine Kd.C_drewN ?_ _) | (with_reducible refine Kd.C_drew ?_))); (case side2 => exact (Kd.N_reads' HO147.out).2.1); rintro e w' ⟨rfl, ⟨nd, rfl⟩⟩; refine ⟨_, rfl, ?_⟩))
                  go_meet
                  case rel => exact ⟨_, (true), (by first | rfl | (simp; done) | (simp [*]; done)), H', ⟨by have := HJ10.out; have := HJ37.out; first | omega | exact Nat.le_refl _⟩, ⟨by repeat (first | (with_reducible first | exact HB.out | apply below_alloc | apply pw_below_drewN | apply below_drew1) | exact HB.out)⟩⟩
              case rest =>
                clear HC47
                try clear c1
                try clear p1
                try clear q1
                try clear hx1
                try clear c2
                try clear p2
                try clear c3
                try clear c4
                try clear p4
                try clear q4
                try clear hx4
                try clear c5
                try clear c6
                try clear p6
                try clear c8
                try clear c10
                try clear c11
                try clear c12
                try clear p13
                try clear q13
                try clear hx13
                try clear c20
                try clear c20b0
                try clear c20b1
                try clear c22
                try clear c22b0
                try clear c22b1
                try clear c23
                try clear c23b0
                try clear c23b1
                try clear c28
                try clear c29
                try clear c37
                try clear c39
                try clear c39b0
                try clear c40
                try clear c40b0
                try clear c41
                try clear c41b0
                try clear p42
                try clear q42
                try clear hx42
                try clear hf42
                try clear c50
                try clear c50b0
                try clear c50b1
                try clear c53
                try clear c53b0
                try clear c53b1
                try clear c54
                try clear c54b0
                try clear c54b1
                try clear p64
                try clear hx135_0
                try clear hx42_0
                try clear p1
                try clear p13
                try clear p135
                try clear p2
                try clear p4
                try clear p42
                try clear p6
                try clear q1
                try clear q13
                try clear q135
                try clear q4
                try clear q42
                obtain ⟨kq, x117_46, rfl, HA, HJ46, HB⟩ := hcut
                cases kq with
                | zero => exact absurd HA.out (by simp [sluicelaw01_GrainPlaced.j3])
                | succ kj46 =>
                  have H := HA.out
                  clear HA
                  simp only [sluicelaw01_GrainPlaced.j3] at H
                  by_cases c80 : x117_46 = true
                  · subst c80
                    have H1 : (some false) = some r := by rw [if_pos rfl] at H; exact H
                    clear H
                    have H := H1
                    clear H1
                    obtain rfl := Option.some.inj H
                    go_wp2
                    go_ret
                    exact ⟨by first | rfl | (simp [errW_none, errW_some] <;> rfl) | (simp [*, errW_none, errW_some] <;> rfl), by repeat (first | (with_reducible first | exact HB.out | apply below_alloc | apply pw_below_drewN | apply below_drew1) | exact HB.out)⟩
                  · replace c80 := Bool.eq_false_iff.mpr c80
                    subst c80
                    have H1 : ((some (([] : List Int) : List Int)).bind fun y152 => (if y152.length + l2.length < 17592186044416 then ((some (y152 ++ l2 : List Int)).bind fun y155 => ((grain_Total.f y155).bind fun bt158 => ((sluiceref01_Total.f kj46 y155).bind fun bt160 => (if bt158.1 = bt160.1 then ((sluicelaw01_num.f bt158.2).bind fun t162 => (sluicelaw01_GrainPlaced.j4 kj46 a3 a4 y155 (t162 != bt160.2))) else (sluicelaw01_GrainPlaced.j4 kj46 a3 a4 y155 true))))) else (none))) = some r := by rw [if_neg (show ¬ (false = true) by decide)] at H; exact H
                    clear H
                    have H := H1
                    clear H1
                    obtain ⟨y152, hy152⟩ : ∃ y_ : List Int, y_ = (([] : List Int)) := ⟨_, rfl⟩
                    replace H : (if y152.length + l2.length < 17592186044416 then ((some (y152 ++ l2 : List Int)).bind fun y155 => ((grain_Total.f y155).bind fun bt158 => ((sluiceref01_Total.f kj46 y155).bind fun bt160 => (if bt158.1 = bt160.1 then ((sluicelaw01_num.f bt158.2).bind fun t162 => (sluicelaw01_GrainPlaced.j4 kj46 a3 a4 y155 (t162 != bt160.2))) else (sluicelaw01_GrainPlaced.j4 kj46 a3 a4 y155 true))))) else (none)) = some r := by first | (rw [hy152]; with_reducible exact H) | (have H2_ := (Option.bind_some _ _).symm.trans H; rw [hy152]; with_reducible exact H2_) | (have H2_ := (Option.bind_some _ _).symm.trans H; with_reducible exact H2_) | with_reducible exact H | (rw [hy152]; exact H) | exact H
                    have Ny152 := Aside0.mk hy152
                    clear hy152
                    by_cases c81 : y152.length + l2.length < 17592186044416
                    · rw [if_pos c81] at H
                      have LMc81 := Aside0.mk c81
                      clear c81
                      obtain ⟨y155, hy155⟩ : ∃ y_ : List Int, y_ = (y152 ++ l2) := ⟨_, rfl⟩
                      replace H : ((grain_Total.f y155).bind fun bt158 => ((sluiceref01_Total.f kj46 y155).bind fun bt160 => (if bt158.1 = bt160.1 then ((sluicelaw01_num.f bt158.2).bind fun t162 => (sluicelaw01_GrainPlaced.j4 kj46 a3 a4 y155 (t162 != bt160.2))) else (sluicelaw01_GrainPlaced.j4 kj46 a3 a4 y155 true)))) = some r := by first | (rw [hy155]; with_reducible exact H) | (have H2_ := (Option.bind_some _ _).symm.trans H; rw [hy155]; with_reducible exact H2_) | (have H2_ := (Option.bind_some _ _).symm.trans H; with_reducible exact H2_) | with_reducible exact H | (rw [hy155]; exact H) | exact H
                      have Ny155 := Aside0.mk hy155
                      clear hy155
                      replace H := Option.bind_eq_some_iff.mp H
                      obtain ⟨⟨t158, t159⟩, A820, H⟩ := H
                      replace H : ((sluiceref01_Total.f kj46 y155).bind fun bt160 => (if t158 = bt160.1 then ((sluicelaw01_num.f t159).bind fun t162 => (sluicelaw01_GrainPlaced.j4 kj46 a3 a4 y155 (t162 != bt160.2))) else (sluicelaw01_GrainPlaced.j4 kj46 a3 a4 y155 true))) = some r := H
                      have A82 := Aside0.mk A820
                      clear A820
                      replace H := Option.bind_eq_some_iff.mp H
                      obtain ⟨⟨t160, t161⟩, A830, H⟩ := H
                      replace H : (if t158 = t160 then ((sluicelaw01_num.f t159).bind fun t162 => (sluicelaw01_GrainPlaced.j4 kj46 a3 a4 y155 (t162 != t161))) else (sluicelaw01_GrainPlaced.j4 kj46 a3 a4 y155 true)) = some r := H
                      have A83 := Aside0.mk A830
                      clear A830
                      have HC84 := Aside0.mk H
                      clear H
                      go_upto_region 19 with (first | ((with_reducible refine gate_dst (N := 118) rfl ?_); (try (refine gate_guard (by rfl) ?_; dsimp only)); refine Kd.R_lit (Kd.int .i64) _ 2 ?hg (N := 118) ?hd (xs := ([] : List Int)) (inner := []) (ok := fun _ => True) (okp := fun _ => True) ?hr ?hp (fun _ hk => hk) trivial (Below.refl _ _) (Nat.le_refl _) (by simp) ?_; (case hd => rfl); (case hg => rfl); (case hr => first | (go_simp; done) | (go_simp; rfl)); (case hp => exact (Reps.none _ _)); intro v153 w85 ho86 hb hg_ hnew_; clear hg_ hnew_; (first | rw [← Ny152.out] at ho86 | (simp only [Int.reduceToNat] at ho86; rw [← Ny152.out] at ho86)); have n0_ := Aside0.mk (Kd.R_lower (Kd.R_newM (M := fun k_ => (w.heap.size ≤ k_)) ho86 (below_size (by repeat (first | (with_reducible first | exact HB.out | apply below_alloc | apply pw_below_drewN | apply below_drew1) | exact HB.out))) (fun k_ h_ => h_)) (below_size (by repeat (first | (with_reducible first | exact HB.out | apply below_alloc | apply pw_below_drewN | apply below_drew1) | exact HB.out)))); have n1_ := Aside0.mk (below_step (by repeat (first | (with_reducible first | exact HB.out | apply below_alloc | apply pw_below_drewN | apply below_drew1) | exact HB.out)) hb); clear HB; have HO154 := n0_; have HB := n1_; clear n0_ n1_; clear hb ho86) | ((with_reducible refine gate_builtin (b := .append) (xs := #[.tmp 118, .tmp 119]) rfl ?_); (try (refine gate_guard (by rfl) ?_; dsimp only)); at_builtin; refine Kd.R_append_rows (Kd.int .i64) (w0 := w) w.heap.size rfl (.tmp 118) (.tmp 119) 52 2 (.int .i64 0) 8 rfl Tryd.underlying52 info2 rfl (by decide) (by omega) v153 y152 l2 _ _ _ (fun k_ => (w.heap.size ≤ k_)) (fun _ => False) rfl rfl ?aO ?aR (fun _ _ h => h) (fun _ h => h.elim) ?aF ?aB ?aS ?aL ?_; (case aR => repeat (first | exact (Kd.C_below HR2.out HB.out) | (with_reducible refine Kd.C_alloc ?_ _) | (with_reducible refine Kd.C_drewN ?_ _) | (with_reducible refine Kd.C_drew ?_))); (case aB => exact (by repeat (first | (with_reducible first | exact HB.out | apply below_alloc | apply pw_below_drewN | apply below_drew1) | exact HB.out))); (case aF => exact (fun k_ hk => (Nat.le_trans (below_size (by repeat (first | (with_reducible first | exact HB.out | apply below_alloc | apply pw_below_drewN | apply below_drew1) | exact HB.out))) hk))); (case aO => exact (by (with_reducible repeat (first | apply Kd.R_alloc | apply Kd.R_drewN | apply Kd.R_drew)); exact Kd.R_mono HO154.out (fun _ hk => hk.1))); (case aS => exact (below_size (by repeat (first | (with_reducible first | exact HB.out | apply below_alloc | apply pw_below_drewN | apply below_drew1) | exact HB.out)))); (case aL => have := LMc81.out; omega); intro v156 w87 ho hb hg hat; rw [← Ny155.out] at ho; have n0_ := Aside0.mk (hb); have n1_ := Aside0.mk (ho); clear HB; clear HO154; have HB := n0_; have HO157 := n1_; clear n0_ n1_; clear ho hb hg hat; obtain ⟨Ao88, co88, eo88⟩ := Kd.R_slice HO157.out; subst eo88) | ((with_reducible refine gate_callee (f := 30) rfl ?_); refine goesL_ (some 123) rfl rfl Tryd.func30 (by kernel_rfl) rfl #[.slice Ao88 y155.length co88] rfl (by (try simp only [List.map_toArray, List.map_cons, List.map_nil]); first | done | rfl | (simp only [List.length_drop, List.length_take]; rfl)) ?_; (with_reducible refine (grain_Total.calls _ _ y155 t158 t159 _ ?side1 ?side2 A82.out).mono ?_); (case side1 => repeat (first | exact (Kd.R_reads' HO157.out).2.2 | (with_reducible refine Kd.C_alloc ?_ _) | (with_reducible refine Kd.C_drewN ?_ _) | (with_reducible refine Kd.C_drew ?_))); (case side2 => exact (Kd.R_reads' HO157.out).2.1); rintro e w' ⟨rfl, ⟨nd, rfl⟩⟩; refine ⟨_, rfl, ?_⟩) | ((with_reducible refine gate_callee (f := 31) rfl ?_); refine goesL_ (some 128) rfl rfl Tryd.func31 (by kernel_rfl) rfl #[.slice Ao88 y155.length co88] rfl (by (try simp only [List.map_toArray, List.map_cons, List.map_nil]); first | done | rfl | (simp only [List.length_drop, List.length_take]; rfl)) ?_; (with_reducible refine (sluiceref01_Total.calls kj46 _ _ y155 t160 t161 _ ?side1 ?side2 A83.out).mono ?_); (case side1 => repeat (first | exact (Kd.R_reads' HO157.out).2.2 | (with_reducible refine Kd.C_alloc ?_ _) | (with_reducible refine Kd.C_drewN ?_ _) | (with_reducible refine Kd.C_drew ?_))); (case side2 => exact (Kd.R_reads' HO157.out).2.1); rintro e w' ⟨rfl, ⟨nd, rfl⟩⟩; refine ⟨_, rfl, ?_⟩))
                      (try simp only [Act.put, List.setIfInBounds_toArray, List.set_cons_zero, List.set_cons_succ])
                      go_cut [139] (fun v139 wc => ∃ (kq : Nat) (x139_83 : Bool), v139 = .bool x139_83 ∧ Aside0 (sluicelaw01_GrainPlaced.j4 kq a3 a4 y155 x139_83 = some r) ∧ Aside0 (kq ≤ kj46) ∧ Aside0 (Kd.R (Kd.int .i64) 2 wc w.heap.size (fun k_ => (w.heap.size ≤ k_)) (.slice Ao88 y155.length co88) y155) ∧ Aside0 (Below w.heap.size w wc))
                      case first =>
                        have H := HC84.out
                        clear HC84
                        by_cases c89 : t158 = t160
                        · rw [if_pos c89] at H
                          have c89b0 : (t158 == t160) = true := beq_iff_eq.mpr c89
                          have c89b1 : (t158 != t160) = false := bne_eq_false_iff_eq.mpr c89
                          clear c89
                          (first | rw [c89b0] | (simp only [i64_w, i32_w]; rw [c89b0]) | skip)
                          replace H := Option.bind_eq_some_iff.mp H
                          obtain ⟨t162, A900, H⟩ := H
                          replace H : (sluicelaw01_GrainPlaced.j4 kj46 a3 a4 y155 (t162 != t161)) = some r := H
                          have A90 := Aside0.mk A900
                          clear A900
                          have H' := Aside0.mk H
                          clear H
                          go_wp2_with (first | (go_at_call 17; (with_reducible refine (sluicelaw01_num.calls t159 t162 _ A90.out).mono ?_); rintro e w' ⟨rfl, ⟨nd, rfl⟩⟩))
                          go_meet
                          case rel => exact ⟨_, ((t162 != t161)), (by first | rfl | (simp; done) | (simp [*]; done)), H', ⟨by have := HJ10.out; have := HJ37.out; have := HJ46.out; first | omega | exact Nat.le_refl _⟩, ⟨by (try simp only [hl11_37]); (with_reducible repeat (first | apply Kd.R_alloc | apply Kd.R_drewN | apply Kd.R_drew)); exact HO157.out⟩, ⟨by repeat (first | (with_reducible first | exact HB.out | apply below_alloc | apply pw_below_drewN | apply below_drew1) | exact HB.out)⟩⟩
                        · rw [if_neg c89] at H
                          have c89b0 : (t158 == t160) = false := beq_eq_false_iff_ne.mpr c89
                          have c89b1 : (t158 != t160) = true := bne_iff_ne.mpr c89
                          (first | rw [c89b0] | (simp only [i64_w, i32_w]; rw [c89b0]) | skip)
                          have H' := Aside0.mk H
                          clear H
                          go_wp2
                          go_meet
                          case rel => exact ⟨_, (true), (by first | rfl | (simp; done) | (simp [*]; done)), H', ⟨by have := HJ10.out; have := HJ37.out; have := HJ46.out; first | omega | exact Nat.le_refl _⟩, ⟨by (try simp only [hl11_37]); (with_reducible repeat (first | apply Kd.R_alloc | apply Kd.R_drewN | apply Kd.R_drew)); exact HO157.out⟩, ⟨by repeat (first | (with_reducible first | exact HB.out | apply below_alloc | apply pw_below_drewN | apply below_drew1) | exact HB.out)⟩⟩
                      case rest =>
                        clear HC84
                        try clear c1
                        try clear p1
                        try clear q1
                        try clear hx1
                        try clear c2
                        try clear p2
                        try clear c3
                        try clear c4
                        try clear p4
                        try clear q4
                        try clear hx4
                        try clear c5
                        try clear c6
                        try clear p6
                        try clear c8
                        try clear c10
                        try clear c11
                        try clear c12
                        try clear p13
                        try clear q13
                        try clear hx13
                        try clear c20
                        try clear c20b0
                        try clear c20b1
                        try clear c22
                        try clear c22b0
                        try clear c22b1
                        try clear c23
                        try clear c23b0
                        try clear c23b1
                        try clear c28
                        try clear c29
                        try clear c30
                        try clear c31
                        try clear c37
                        try clear c39
                        try clear c39b0
                        try clear c40
                        try clear c40b0
                        try clear c41
                        try clear c41b0
                        try clear p42
                        try clear q42
                        try clear hx42
                        try clear hf42
                        try clear c50
                        try clear c50b0
                        try clear c50b1
                        try clear c53
                        try clear c53b0
                        try clear c53b1
                        try clear c54
                        try clear c54b0
                        try clear c54b1
                        try clear p64
                        try clear c80
                        try clear c81
                        try clear c89
                        try clear c89b0
                        try clear c89b1
                        try clear hx135_0
                        try clear hx42_0
                        try clear p1
                        try clear p13
                        try clear p135
                        try clear p2
                        try clear p4
                        try clear p42
                        try clear p6
                        try clear p64
                        try clear q1
                        try clear q13
                        try clear q135
                        try clear q4
                        try clear q42
                        obtain ⟨kq, x139_83, rfl, HA, HJ83, HO_19, HB⟩ := hcut
                        cases kq with
                        | zero => exact absurd HA.out (by simp [sluicelaw01_GrainPlaced.j4])
                        | succ kj83 =>
                          have H := HA.out
                          clear HA
                          simp only [sluicelaw01_GrainPlaced.j4] at H
                          by_cases c91 : x139_83 = true
                          · subst c91
                            have H1 : (some false) = some r := by rw [if_pos rfl] at H; exact H
                            clear H
                            have H := H1
                            clear H1
                            obtain rfl := Option.some.inj H
                            go_wp2
                            go_ret
                            exact ⟨by first | rfl | (simp [errW_none, errW_some] <;> rfl) | (simp [*, errW_none, errW_some] <;> rfl), by repeat (first | (with_reducible first | exact HB.out | apply below_alloc | apply pw_below_drewN | apply below_drew1) | exact HB.out)⟩
                          · replace c91 := Bool.eq_false_iff.mpr c91
                            subst c91
                            have H1 : (if a3 ≥ 0 then (sluicelaw01_GrainPlaced.j5 kj83 a3 a4 y155 (decide (a3 < (y155.length : Int)))) else (sluicelaw01_GrainPlaced.j5 kj83 a3 a4 y155 false)) = some r := by rw [if_neg (show ¬ (false = true) by decide)] at H; exact H
                            clear H
                            have H := H1
                            clear H1
                            have HC92 := Aside0.mk H
                            clear H
                            go_upto_region 21 with (fail)
                            go_cut [147] (fun v147 wc => ∃ (kq : Nat) (x147_91 : Bool), v147 = .bool x147_91 ∧ Aside0 (sluicelaw01_GrainPlaced.j5 kq a3 a4 y155 x147_91 = some r) ∧ Aside0 (kq ≤ kj83) ∧ Aside0 (Kd.R (Kd.int .i64) 2 wc w.heap.size (fun k_ => (w.heap.size ≤ k_)) (.slice Ao88 y155.length co88) y155) ∧ Aside0 (Below w.heap.size w wc))
                            case first =>
                              have H := HC92.out
                              clear HC92
                              by_cases c93 : a3 ≥ 0
                              · rw [if_pos c93] at H
                                have c93b0 : decide (0 ≤ a3) = true := decide_eq_true c93
                                clear c93
                                (first | rw [c93b0] | (simp only [i64_w, i32_w]; rw [c93b0]) | skip)
                                have H' := Aside0.mk H
                                clear H
                                go_wp2
                                go_meet
                                case rel => exact ⟨_, (decide (a3 < (y155.length : Int))), (by first | rfl | (simp; done) | (simp [*]; done)), H', ⟨by have := HJ10.out; have := HJ37.out; have := HJ46.out; have := HJ83.out; first | omega | exact Nat.le_refl _⟩, ⟨by (try simp only [hl11_37]); (with_reducible repeat (first | apply Kd.R_alloc | apply Kd.R_drewN | apply Kd.R_drew)); exact HO_19.out⟩, ⟨by repeat (first | (with_reducible first | exact HB.out | apply below_alloc | apply pw_below_drewN | apply below_drew1) | exact HB.out)⟩⟩
                              · rw [if_neg c93] at H
                                have c93b0 : decide (0 ≤ a3) = false := decide_eq_false c93
                                clear c93
                                (first | rw [c93b0] | (simp only [i64_w, i32_w]; rw [c93b0]) | skip)
                                have H' := Aside0.mk H
                                clear H
                                go_wp2
                                go_meet
                                case rel => exact ⟨_, (false), (by first | rfl | (simp; done) | (simp [*]; done)), H', ⟨by have := HJ10.out; have := HJ37.out; have := HJ46.out; have := HJ83.out; first | omega | exact Nat.le_refl _⟩, ⟨by (try simp only [hl11_37]); (with_reducible repeat (first | apply Kd.R_alloc | apply Kd.R_drewN | apply Kd.R_drew)); exact HO_19.out⟩, ⟨by repeat (first | (with_reducible first | exact HB.out | apply below_alloc | apply pw_below_drewN | apply below_drew1) | exact HB.out)⟩⟩
                            case rest =>
                              clear HC92
                              try clear c1
                              try clear p1
                              try clear q1
                              try clear hx1
                              try clear c2
                              try clear p2
                              try clear c3
                              try clear c4
                              try clear p4
                              try clear q4
                              try clear hx4
                              try clear c5
                              try clear c6
                              try clear p6
                              try clear c8
                              try clear c9
                              try clear c10
                              try clear c11
                              try clear c12
                              try clear p13
                              try clear q13
                              try clear hx13
                              try clear c20
                              try clear c20b0
                              try clear c20b1
                              try clear c22
                              try clear c22b0
                              try clear c22b1
                              try clear c23
                              try clear c23b0
                              try clear c23b1
                              try clear c28
                              try clear c29
                              try clear c30
                              try clear c31
                              try clear c37
                              try clear c39
                              try clear c39b0
                              try clear c40
                              try clear c40b0
                              try clear c41
                              try clear c41b0
                              try clear p42
                              try clear q42
                              try clear hx42
                              try clear hf42
                              try clear c50
                              try clear c50b0
                              try clear c50b1
                              try clear c53
                              try clear c53b0
                              try clear c53b1
                              try clear c54
                              try clear c54b0
                              try clear c54b1
                              try clear p64
                              try clear c80
                              try clear c81
                              try clear c89
                              try clear c89b0
                              try clear c89b1
                              try clear c91
                              try clear c93
                              try clear c93b0
                              try clear hx135_0
                              try clear hx42_0
                              try clear p1
                              try clear p13
                              try clear p135
                              try clear p2
                              try clear p4
                              try clear p42
                              try clear p6
                              try clear p64
                              try clear q1
                              try clear q13
                              try clear q135
                              try clear q4
                              try clear q42
                              obtain ⟨kq, x147_91, rfl, HA, HJ91, HO_19, HB⟩ := hcut
                              cases kq with
                              | zero => exact absurd HA.out (by simp [sluicelaw01_GrainPlaced.j5])
                              | succ kj91 =>
                                have H := HA.out
                                clear HA
                                simp only [sluicelaw01_GrainPlaced.j5] at H
                                by_cases c94 : x147_91 = true
                                · subst c94
                                  have H1 : (if 0 ≤ a3 then (if a3 < (y155.length : Int) then ((some (y155.set (a3 : Int).toNat a4 : List Int)).bind fun y163 => ((grain_Total.f y163).bind fun bt164 => ((sluiceref01_Total.f kj91 y163).bind fun bt166 => (if bt164.1 = bt166.1 then ((sluicelaw01_num.f bt164.2).bind fun t168 => (some (t168 == bt166.2))) else (some false))))) else (none)) else (none)) = some r := by rw [if_pos rfl] at H; exact H
                                  clear H
                                  have H := H1
                                  clear H1
                                  by_cases c95 : 0 ≤ a3
                                  · rw [if_pos c95] at H
                                    have c95b0 : decide (0 ≤ a3) = true := decide_eq_true c95
                                    clear c95
                                    by_cases c96 : a3 < (y155.length : Int)
                                    · rw [if_pos c96] at H
                                      have c96b0 : decide (a3 < (y155.length : Int)) = true := decide_eq_true c96
                                      clear c96
                                      obtain ⟨y163, hy163⟩ : ∃ y_ : List Int, y_ = (y155.set (a3 : Int).toNat a4) := ⟨_, rfl⟩
                                      replace H : ((grain_Total.f y163).bind fun bt164 => ((sluiceref01_Total.f kj91 y163).bind fun bt166 => (if bt164.1 = bt166.1 then ((sluicelaw01_num.f bt164.2).bind fun t168 => (some (t168 == bt166.2))) else (some false)))) = some r := by first | (rw [hy163]; with_reducible exact H) | (have H2_ := (Option.bind_some _ _).symm.trans H; rw [hy163]; with_reducible exact H2_) | (have H2_ := (Option.bind_some _ _).symm.trans H; with_reducible exact H2_) | with_reducible exact H | (rw [hy163]; exact H) | exact H
                                      have Ny163 := Aside0.mk hy163
                                      clear hy163
                                      replace H := Option.bind_eq_some_iff.mp H
                                      obtain ⟨⟨t164, t165⟩, A980, H⟩ := H
                                      replace H : ((sluiceref01_Total.f kj91 y163).bind fun bt166 => (if t164 = bt166.1 then ((sluicelaw01_num.f t165).bind fun t168 => (some (t168 == bt166.2))) else (some false))) = some r := H
                                      have A98 := Aside0.mk A980
                                      clear A980
                                      replace H := Option.bind_eq_some_iff.mp H
                                      obtain ⟨⟨t166, t167⟩, A990, H⟩ := H
                                      replace H : (if t164 = t166 then ((sluicelaw01_num.f t165).bind fun t168 => (some (t168 == t167))) else (some false)) = some r := H
                                      have A99 := Aside0.mk A990
                                      clear A990
                                      by_cases c100 : t164 = t166
                                      · rw [if_pos c100] at H
                                        have c100b0 : (t164 == t166) = true := beq_iff_eq.mpr c100
                                        have c100b1 : (t164 != t166) = false := bne_eq_false_iff_eq.mpr c100
                                        clear c100
                                        replace H := Option.bind_eq_some_iff.mp H
                                        obtain ⟨t168, A1010, H⟩ := H
                                        replace H : (some (t168 == t167)) = some r := H
                                        have A101 := Aside0.mk A1010
                                        clear A1010
                                        obtain rfl := Option.some.inj H
                                        have p97 : 0 ≤ (a3 : Int) := of_decide_eq_true (by first | (with_reducible assumption) | assumption)
                                        have q97 : (a3 : Int) < ((y155.length : Int) : Int) := of_decide_eq_true (by first | (with_reducible assumption) | assumption)
                                        obtain ⟨go97, co97, eo97, gb97, gl97, cl97, HG97⟩ := Kd.R_form HO_19.out (by omega)
                                        (first | cases eo97 | (injection eo97 with ea_ en_ ec_; (first | subst ea_ | (injection ea_ with ea_; subst ea_)); subst ec_; clear en_))
                                        have GB97 := Aside0.mk gb97
                                        have GG97 := Aside0.mk HG97
                                        clear gb97 gl97 HG97
                                        obtain ⟨hx97_0, hf97_0⟩ := Kd.R_celln 0 HO_19.out (a3 : Int) p97 q97
                                        replace p97 := eq_true p97
                                        replace q97 := eq_true q97
                                        have HP102 := Kd.R_putg HO_19.out (a3 : Int) a4
                                        go_wp2_with (first | ((with_reducible refine gate_store (t := 2) (p := 151) rfl ?_); refine store_event (t := 2) (p := 151) (v := ?vo_w103) (w1 := (wc.setCell ⟨go97, (a3 : Int).toNat, none⟩ (.int .i64 a4))) ?hg ?ho ?hn ?hr ?_; (case ho => rfl); (case hg => rfl); (case hn => rfl); (case hr => first | (go_simp; done) | (go_simp; rfl)); intro w103 hw; have hg : wc.grownBy w103 (some go97) := (by rw [hw]; exact HP102.2); have hp_ : Kd.R (Kd.int .i64) 2 w103 w.heap.size (fun k_ => (w.heap.size ≤ k_)) (.slice (some ⟨go97, 0, none⟩) y155.length co88) y163 := (by rw [hw, Ny163.out]; exact HP102.1); clear HP102; have n0_ := Aside0.mk (hp_); have n1_ := Aside0.mk ((by rw [hw]; exact below_set (HB.out) GB97.out : Below w.heap.size w w103)); clear HO_19; clear HB; have HO_19 := n0_; have HB := n1_; clear n0_ n1_; clear hg hw hp_) | ((with_reducible refine gate_callee (f := 30) rfl ?_); refine goesL_ (some 154) rfl rfl Tryd.func30 (by kernel_rfl) rfl #[.slice (some ⟨go97, 0, none⟩) y163.length co88] rfl (by (try simp only [List.map_toArray, List.map_cons, List.map_nil]); first | done | (rw [show y163.length = y155.length from (Kd.R_reads' HO_19.out).1.symm] <;> rfl) | rfl | (simp only [List.length_drop, List.length_take]; rfl)) ?_; (with_reducible refine (grain_Total.calls _ _ y163 t164 t165 _ ?side1 ?side2 A98.out).mono ?_); (case side1 => repeat (first | exact (Kd.R_reads' HO_19.out).2.2 | (with_reducible refine Kd.C_alloc ?_ _) | (with_reducible refine Kd.C_drewN ?_ _) | (with_reducible refine Kd.C_drew ?_))); (case side2 => rw [show y163.length = y155.length from (Kd.R_reads' HO_19.out).1.symm]; exact (Kd.R_reads' HO_19.out).2.1); rintro e w' ⟨rfl, ⟨nd, rfl⟩⟩; refine ⟨_, rfl, ?_⟩) | ((with_reducible refine gate_callee (f := 31) rfl ?_); refine goesL_ (some 159) rfl rfl Tryd.func31 (by kernel_rfl) rfl #[.slice (some ⟨go97, 0, none⟩) y163.length co88] rfl (by (try simp only [List.map_toArray, List.map_cons, List.map_nil]); first | done | (rw [show y163.length = y155.length from (Kd.R_reads' HO_19.out).1.symm] <;> rfl) | rfl | (simp only [List.length_drop, List.length_take]; rfl)) ?_; (with_reducible refine (sluiceref01_Total.calls kj91 _ _ y163 t166 t167 _ ?side1 ?side2 A99.out).mono ?_); (case side1 => repeat (first | exact (Kd.R_reads' HO_19.out).2.2 | (with_reducible refine Kd.C_alloc ?_ _) | (with_reducible refine Kd.C_drewN ?_ _) | (with_reducible refine Kd.C_drew ?_))); (case side2 => rw [show y163.length = y155.length from (Kd.R_reads' HO_19.out).1.symm]; exact (Kd.R_reads' HO_19.out).2.1); rintro e w' ⟨rfl, ⟨nd, rfl⟩⟩; refine ⟨_, rfl, ?_⟩) | (go_at_call 17; (with_reducible refine (sluicelaw01_num.calls t165 t168 _ A101.out).mono ?_); rintro e w' ⟨rfl, ⟨nd, rfl⟩⟩))
                                        go_ret
                                        exact ⟨by first | rfl | (simp [errW_none, errW_some] <;> rfl) | (simp [*, errW_none, errW_some] <;> rfl), by repeat (first | (with_reducible first | exact HB.out | apply below_alloc | apply pw_below_drewN | apply below_drew1) | exact HB.out)⟩
                                      · rw [if_neg c100] at H
                                        have c100b0 : (t164 == t166) = false := beq_eq_false_iff_ne.mpr c100
                                        have c100b1 : (t164 != t166) = true := bne_iff_ne.mpr c100
                                        obtain rfl := Option.some.inj H
                                        have p97 : 0 ≤ (a3 : Int) := of_decide_eq_true (by first | (with_reducible assumption) | assumption)
                                        have q97 : (a3 : Int) < ((y155.length : Int) : Int) := of_decide_eq_true (by first | (with_reducible assumption) | assumption)
                                        obtain ⟨go97, co97, eo97, gb97, gl97, cl97, HG97⟩ := Kd.R_form HO_19.out (by omega)
                                        (first | cases eo97 | (injection eo97 with ea_ en_ ec_; (first | subst ea_ | (injection ea_ with ea_; subst ea_)); subst ec_; clear en_))
                                        have GB97 := Aside0.mk gb97
                                        have GG97 := Aside0.mk HG97
                                        clear gb97 gl97 HG97
                                        obtain ⟨hx97_0, hf97_0⟩ := Kd.R_celln 0 HO_19.out (a3 : Int) p97 q97
                                        replace p97 := eq_true p97
                                        replace q97 := eq_true q97
                                        have HP104 := Kd.R_putg HO_19.out (a3 : Int) a4
                                        go_wp2_with (first | ((with_reducible refine gate_store (t := 2) (p := 151) rfl ?_); refine store_event (t := 2) (p := 151) (v := ?vo_w105) (w1 := (wc.setCell ⟨go97, (a3 : Int).toNat, none⟩ (.int .i64 a4))) ?hg ?ho ?hn ?hr ?_; (case ho => rfl); (case hg => rfl); (case hn => rfl); (case hr => first | (go_simp; done) | (go_simp; rfl)); intro w105 hw; have hg : wc.grownBy w105 (some go97) := (by rw [hw]; exact HP104.2); have hp_ : Kd.R (Kd.int .i64) 2 w105 w.heap.size (fun k_ => (w.heap.size ≤ k_)) (.slice (some ⟨go97, 0, none⟩) y155.length co88) y163 := (by rw [hw, Ny163.out]; exact HP104.1); clear HP104; have n0_ := Aside0.mk (hp_); have n1_ := Aside0.mk ((by rw [hw]; exact below_set (HB.out) GB97.out : Below w.heap.size w w105)); clear HO_19; clear HB; have HO_19 := n0_; have HB := n1_; clear n0_ n1_; clear hg hw hp_) | ((with_reducible refine gate_callee (f := 30) rfl ?_); refine goesL_ (some 154) rfl rfl Tryd.func30 (by kernel_rfl) rfl #[.slice (some ⟨go97, 0, none⟩) y163.length co88] rfl (by (try simp only [List.map_toArray, List.map_cons, List.map_nil]); first | done | (rw [show y163.length = y155.length from (Kd.R_reads' HO_19.out).1.symm] <;> rfl) | rfl | (simp only [List.length_drop, List.length_take]; rfl)) ?_; (with_reducible refine (grain_Total.calls _ _ y163 t164 t165 _ ?side1 ?side2 A98.out).mono ?_); (case side1 => repeat (first | exact (Kd.R_reads' HO_19.out).2.2 | (with_reducible refine Kd.C_alloc ?_ _) | (with_reducible refine Kd.C_drewN ?_ _) | (with_reducible refine Kd.C_drew ?_))); (case side2 => rw [show y163.length = y155.length from (Kd.R_reads' HO_19.out).1.symm]; exact (Kd.R_reads' HO_19.out).2.1); rintro e w' ⟨rfl, ⟨nd, rfl⟩⟩; refine ⟨_, rfl, ?_⟩) | ((with_reducible refine gate_callee (f := 31) rfl ?_); refine goesL_ (some 159) rfl rfl Tryd.func31 (by kernel_rfl) rfl #[.slice (some ⟨go97, 0, none⟩) y163.length co88] rfl (by (try simp only [List.map_toArray, List.map_cons, List.map_nil]); first | done | (rw [show y163.length = y155.length from (Kd.R_reads' HO_19.out).1.symm] <;> rfl) | rfl | (simp only [List.length_drop, List.length_take]; rfl)) ?_; (with_reducible refine (sluiceref01_Total.calls kj91 _ _ y163 t166 t167 _ ?side1 ?side2 A99.out).mono ?_); (case side1 => repeat (first | exact (Kd.R_reads' HO_19.out).2.2 | (with_reducible refine Kd.C_alloc ?_ _) | (with_reducible refine Kd.C_drewN ?_ _) | (with_reducible refine Kd.C_drew ?_))); (case side2 => rw [show y163.length = y155.length from (Kd.R_reads' HO_19.out).1.symm]; exact (Kd.R_reads' HO_19.out).2.1); rintro e w' ⟨rfl, ⟨nd, rfl⟩⟩; refine ⟨_, rfl, ?_⟩))
                                        go_ret
                                        exact ⟨by first | rfl | (simp [errW_none, errW_some] <;> rfl) | (simp [*, errW_none, errW_some] <;> rfl), by repeat (first | (with_reducible first | exact HB.out | apply below_alloc | apply pw_below_drewN | apply below_drew1) | exact HB.out)⟩
                                    · rw [if_neg c96] at H
                                      exact absurd H (by simp)
                                  · rw [if_neg c95] at H
                                    exact absurd H (by simp)
                                · replace c94 := Bool.eq_false_iff.mpr c94
                                  subst c94
                                  have H1 : ((grain_Total.f y155).bind fun bt169 => ((sluiceref01_Total.f kj91 y155).bind fun bt171 => (if bt169.1 = bt171.1 then ((sluicelaw01_num.f bt169.2).bind fun t173 => (some (t173 == bt171.2))) else (some false)))) = some r := by rw [if_neg (show ¬ (false = true) by decide)] at H; exact H
                                  clear H
                                  have H := H1
                                  clear H1
                                  replace H := Option.bind_eq_some_iff.mp H
                                  obtain ⟨⟨t169, t170⟩, A1060, H⟩ := H
                                  replace H : ((sluiceref01_Total.f kj91 y155).bind fun bt171 => (if t169 = bt171.1 then ((sluicelaw01_num.f t170).bind fun t173 => (some (t173 == bt171.2))) else (some false))) = some r := H
                                  have A106 := Aside0.mk A1060
                                  clear A1060
                                  replace H := Option.bind_eq_some_iff.mp H
                                  obtain ⟨⟨t171, t172⟩, A1070, H⟩ := H
                                  replace H : (if t169 = t171 then ((sluicelaw01_num.f t170).bind fun t173 => (some (t173 == t172))) else (some false)) = some r := H
                                  have A107 := Aside0.mk A1070
                                  clear A1070
                                  by_cases c108 : t169 = t171
                                  · rw [if_pos c108] at H
                                    have c108b0 : (t169 == t171) = true := beq_iff_eq.mpr c108
                                    have c108b1 : (t169 != t171) = false := bne_eq_false_iff_eq.mpr c108
                                    clear c108
                                    replace H := Option.bind_eq_some_iff.mp H
                                    obtain ⟨t173, A1090, H⟩ := H
                                    replace H : (some (t173 == t172)) = some r := H
                                    have A109 := Aside0.mk A1090
                                    clear A1090
                                    obtain rfl := Option.some.inj H
                                    go_wp2_with (first | ((with_reducible refine gate_callee (f := 30) rfl ?_); refine goesL_ (some 154) rfl rfl Tryd.func30 (by kernel_rfl) rfl #[.slice Ao88 y155.length co88] rfl (by (try simp only [List.map_toArray, List.map_cons, List.map_nil]); first | done | rfl | (simp only [List.length_drop, List.length_take]; rfl)) ?_; (with_reducible refine (grain_Total.calls _ _ y155 t169 t170 _ ?side1 ?side2 A106.out).mono ?_); (case side1 => repeat (first | exact (Kd.R_reads' HO_19.out).2.2 | (with_reducible refine Kd.C_alloc ?_ _) | (with_reducible refine Kd.C_drewN ?_ _) | (with_reducible refine Kd.C_drew ?_))); (case side2 => exact (Kd.R_reads' HO_19.out).2.1); rintro e w' ⟨rfl, ⟨nd, rfl⟩⟩; refine ⟨_, rfl, ?_⟩) | ((with_reducible refine gate_callee (f := 31) rfl ?_); refine goesL_ (some 159) rfl rfl Tryd.func31 (by kernel_rfl) rfl #[.slice Ao88 y155.length co88] rfl (by (try simp only [List.map_toArray, List.map_cons, List.map_nil]); first | done | rfl | (simp only [List.length_drop, List.length_take]; rfl)) ?_; (with_reducible refine (sluiceref01_Total.calls kj91 _ _ y155 t171 t172 _ ?side1 ?side2 A107.out).mono ?_); (case side1 => repeat (first | exact (Kd.R_reads' HO_19.out).2.2 | (with_reducible refine Kd.C_alloc ?_ _) | (with_reducible refine Kd.C_drewN ?_ _) | (with_reducible refine Kd.C_drew ?_))); (case side2 => exact (Kd.R_reads' HO_19.out).2.1); rintro e w' ⟨rfl, ⟨nd, rfl⟩⟩; refine ⟨_, rfl, ?_⟩) | (go_at_call 17; (with_reducible refine (sluicelaw01_num.calls t170 t173 _ A109.out).mono ?_); rintro e w' ⟨rfl, ⟨nd, rfl⟩⟩))
                                    go_ret
                                    exact ⟨by first | rfl | (simp [errW_none, errW_some] <;> rfl) | (simp [*, errW_none, errW_some] <;> rfl), by repeat (first | (with_reducible first | exact HB.out | apply below_alloc | apply pw_below_drewN | apply below_drew1) | exact HB.out)⟩
                                  · rw [if_neg c108] at H
                                    have c108b0 : (t169 == t171) = false := beq_eq_false_iff_ne.mpr c108
                                    have c108b1 : (t169 != t171) = true := bne_iff_ne.mpr c108
                                    obtain rfl := Option.some.inj H
                                    go_wp2_with (first | ((with_reducible refine gate_callee (f := 30) rfl ?_); refine goesL_ (some 154) rfl rfl Tryd.func30 (by kernel_rfl) rfl #[.slice Ao88 y155.length co88] rfl (by (try simp only [List.map_toArray, List.map_cons, List.map_nil]); first | done | rfl | (simp only [List.length_drop, List.length_take]; rfl)) ?_; (with_reducible refine (grain_Total.calls _ _ y155 t169 t170 _ ?side1 ?side2 A106.out).mono ?_); (case side1 => repeat (first | exact (Kd.R_reads' HO_19.out).2.2 | (with_reducible refine Kd.C_alloc ?_ _) | (with_reducible refine Kd.C_drewN ?_ _) | (with_reducible refine Kd.C_drew ?_))); (case side2 => exact (Kd.R_reads' HO_19.out).2.1); rintro e w' ⟨rfl, ⟨nd, rfl⟩⟩; refine ⟨_, rfl, ?_⟩) | ((with_reducible refine gate_callee (f := 31) rfl ?_); refine goesL_ (some 159) rfl rfl Tryd.func31 (by kernel_rfl) rfl #[.slice Ao88 y155.length co88] rfl (by (try simp only [List.map_toArray, List.map_cons, List.map_nil]); first | done | rfl | (simp only [List.length_drop, List.length_take]; rfl)) ?_; (with_reducible refine (sluiceref01_Total.calls kj91 _ _ y155 t171 t172 _ ?side1 ?side2 A107.out).mono ?_); (case side1 => repeat (first | exact (Kd.R_reads' HO_19.out).2.2 | (with_reducible refine Kd.C_alloc ?_ _) | (with_reducible refine Kd.C_drewN ?_ _) | (with_reducible refine Kd.C_drew ?_))); (case side2 => exact (Kd.R_reads' HO_19.out).2.1); rintro e w' ⟨rfl, ⟨nd, rfl⟩⟩; refine ⟨_, rfl, ?_⟩))
                                    go_ret
                                    exact ⟨by first | rfl | (simp [errW_none, errW_some] <;> rfl) | (simp [*, errW_none, errW_some] <;> rfl), by repeat (first | (with_reducible first | exact HB.out | apply below_alloc | apply pw_below_drewN | apply below_drew1) | exact HB.out)⟩
                    · rw [if_neg c81] at H
                      exact absurd H (by simp)
  · rw [if_neg c6] at H
    exact absurd H (by simp)

end Go.Proofs.YtdnofpafojjjaaaDoor.QGrainPlaced
