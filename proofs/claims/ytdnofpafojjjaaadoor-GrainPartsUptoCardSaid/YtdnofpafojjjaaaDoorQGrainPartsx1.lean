/- What the functions that the statement GrainParts reaches come to, and that the given program's calls come to it; written by this session's program printx.py (wip/tpl), which runs the kit's print over the translation with additions of its own. No printed file. Conditions: as each theorem says. -/
import Derived.Test.YtdnofpafojjjaaaDoorQGrainPartsx0
namespace Go.Proofs.YtdnofpafojjjaaaDoor.QGrainParts
open Go.RowKit Go.Proofs.YtdnofpafojjjaaaDoorW.PrintWords Go.Proofs.YtdnofpafojjjaaaDoorW.PrintLast Go.Proofs.YtdnofpafojjjaaaDoorW.PrintMore
attribute [local go_sem] max2_int min2_int max_two min_two max_three min_three max_four min_four   -- for this text's walks alone
set_option linter.unusedVariables false
set_option linter.unusedSimpArgs false

/-! ### grain_steps8: function 32 -/
/-- Four steps of the register. -/
def grain_steps8.s4 (r : Int) : Int := Go.bits .xor .u32 (Glob.steps.getD (Go.bits .and .u32 r 15).toNat 0) (r / 16)
def grain_steps8.f (a0 : Int) : Option (Int) := some (grain_steps8.s4 (grain_steps8.s4 a0))
theorem grain_steps8.and_range (r : Int) : 0 ≤ Go.bits .and .u32 r 15 ∧ Go.bits .and .u32 r 15 < 16 := by
  have e : Go.bits .and .u32 r 15 = IntKind.u32.wrap (((BitVec.ofInt 32 r &&& BitVec.ofInt 32 15).toNat : Nat) : Int) := rfl
  have h : (BitVec.ofInt 32 r &&& BitVec.ofInt 32 15).toNat < 2 ^ 4 := by
    rw [BitVec.toNat_and]
    exact Nat.and_lt_two_pow _ (by decide)
  rw [e, IntKind.wrap_u32]
  omega
set_option maxHeartbeats 2000000 in
set_option maxRecDepth 100000 in
theorem grain_steps8.calls (a0 : Int) (r : Int) (w : World) (h : grain_steps8.f a0 = some r) (hGS : Glob.GS w) :
    Calls Tryd.prog 32 #[.int .u32 a0] w fun e w' => e = .returned (.int .u32 r) ∧ Drawn0 w w' := by
  obtain rfl := Option.some.inj h
  clear h
  go_enter Tryd.func32, Tryd.ntmps32
  go_wp2
  go_loopg [0, 3] 2 (fun kq v0 v3 w' => ∃ (i : Nat) (x : Int), v0 = .int .u32 x ∧ v3 = .int .i64 i ∧ kq + i = 2 ∧ Aside0 ((i = 0 → x = a0) ∧ (i = 1 → x = grain_steps8.s4 a0) ∧ (i = 2 → x = grain_steps8.s4 (grain_steps8.s4 a0))) ∧ Drawn0 w w')
  case atStart => exact ⟨0, a0, rfl, rfl, rfl, ⟨⟨fun _ => rfl, (fun h => by cases h), (fun h => by cases h)⟩⟩, Drawn0.refl _⟩
  case round =>
    obtain ⟨i, x, rfl, rfl, hk, HX, ⟨m1, rfl⟩⟩ := hrel
    by_cases hlt : i < 2
    · have hr := grain_steps8.and_range x
      have hc := hGS.cell _ hr.1 hr.2
      obtain ⟨h0, h1⟩ := hr
      have hlt' : (i : Int) < 2 := by omega
      generalize hT : Glob.steps.getD (Go.bits .and .u32 x 15).toNat 0 = T at hc
      have HT := Aside0.mk hT
      clear hT
      go_wp2
      go_roundg (1 - i)
      case measure => omega
      case rel =>
        refine ⟨i + 1, grain_steps8.s4 x, ?_, (by first | rfl | (simp; done)), by omega, ⟨⟨(fun h => by omega), (fun h => ?_), (fun h => ?_)⟩⟩, by repeat (first | exact Drawn0.refl _ | apply Drawn0.step)⟩
        · unfold grain_steps8.s4; rw [HT.out]
        · rw [HX.out.1 (by omega)]
        · rw [HX.out.2.1 (by omega)]
    · have hge : ¬ (i : Int) < 2 := by omega
      have hi : i = 2 := by omega
      have hx := HX.out.2.2 hi
      clear hi
      subst hx
      go_wp2
      go_ret
      exact ⟨by first | rfl | (simp; done) | (simp [*]; done), by repeat (first | exact Drawn0.refl _ | apply Drawn0.step)⟩

end Go.Proofs.YtdnofpafojjjaaaDoor.QGrainParts
