/- Rows of whole numbers with two marks (171, 205) behind them in their spare room: a kind of their own. Conditions: as each lemma says. -/
import Derived.Test.YtnmhfcfojbfikaaWMore
import Derived.Test.YtnmhfcfojbfikaaWApart
namespace Go.Proofs.Ytnmhfcfojbfikaa.Mark
open Go.RowKit Go.Proofs.YtnmhfcfojbfikaaW.PrintWords Go.Proofs.YtnmhfcfojbfikaaW.PrintLast Go.Proofs.YtnmhfcfojbfikaaW.PrintMore
set_option linter.unusedVariables false
section
variable {P : Program}
theorem cut_up (t e : TypeId) (kl kh : IntKind) {i : TypeInfo} (ht : P.underlying t = some (.slice e)) (hi : P.info? e = some i) (A : Option Addr) (n c : Nat) (j : Int) (h0 : 0 ≤ j) (hc : j ≤ c) :
    ∀ W : World, (Instr.slice t (.slice A n c) (some (.int kl 0)) (some (.int kh j)) none).run P W = .ok (.slice A j.toNat c) W := by
  intro W
  have hel : P.elem t = e := by simp [Program.elem, ht]
  have hu : P.underlying t = some (.slice (P.elem t)) := by rw [hel]; exact ht
  rw [run_slice_lh W t A n c hu kl kh 0 j (by decide) h0 (by omega), hel]
  have ha : (A.map fun x => x.add 0) = A := by cases A <;> simp [Addr.add]
  simp [sizeOf, typeInfo, hi, sliced, Result.andThen, ha]
end
def two : List Int := [171, 205]
/-- Read: the row and the marks. -/
def MC (k : IntKind) (w : World) (A : Option Addr) (c : Nat) (xs : List Int) : Prop := xs.length + 2 ≤ c ∧ (Kd.int k).C w A (xs.length + 2) (xs ++ two)
/-- The call's own: the row and the marks. -/
def MR (k : IntKind) (e : Nat) (w : World) (base : Nat) (ok : Nat → Prop) (v : Value) (xs : List Int) : Prop := ∃ A c, v = .slice A xs.length c ∧ (Kd.int k).R e w base ok (.slice A (xs.length + 2) c) (xs ++ two)
section
variable {k : IntKind} {e base base' c : Nat} {ok ok' : Nat → Prop} {w w1 : World} {A : Option Addr} {v : Value} {xs : List Int}
theorem len2 (xs : List Int) : (xs ++ two).length = xs.length + 2 := by rw [List.length_append]; rfl
theorem MC_below (h : MC k w A c xs) (hb : Below w.heap.size w w1) : MC k w1 A c xs := ⟨h.1, Kd.C_below h.2 hb⟩
theorem MC_drewN (h : MC k w A c xs) (m : Nat) : MC k (w.drewN m) A c xs := MC_below h (pw_below_drewN (Below.refl _ _) m)
theorem MC_drew (h : MC k w A c xs) : MC k w.drew A c xs := MC_below h (below_drew (Below.refl _ _))
theorem MC_alloc (h : MC k w A c xs) (o : Obj) : MC k (w.alloc o) A c xs := MC_below h (below_alloc (Below.refl _ _) o)
theorem MC_C (h : MC k w A c xs) : (Kd.int k).C w A xs.length xs := by
  have h2 := h.2
  rw [← len2] at h2
  have := Kd.C_take (m := xs.length) h2 (by rw [len2]; omega)
  rw [List.take_left' rfl] at this
  exact this
theorem MC_le (h : MC k w A c xs) : xs.length ≤ c := by have := h.1; omega
theorem MR_MC (h : MR k e w base ok v xs) : ∃ A c, v = .slice A xs.length c ∧ MC k w A c xs := by
  obtain ⟨A, c, rfl, h⟩ := h
  obtain ⟨h1, h2, h3⟩ := Kd.R_reads' h
  rw [len2] at h3
  exact ⟨A, c, rfl, h2, h3⟩
theorem MR_R (h : MR k e w base ok v xs) : (Kd.int k).R e w base ok v xs := by
  obtain ⟨A, c, rfl, h⟩ := h
  have := Kd.R_take (m := xs.length) h (by rw [len2]; omega)
  rw [List.take_left' rfl] at this
  exact this
theorem MR_map (h : MR k e w base ok v xs) (f : ∀ A c, v = .slice A xs.length c → (Kd.int k).R e w base ok (.slice A (xs.length + 2) c) (xs ++ two) → (Kd.int k).R e w1 base' ok' (.slice A (xs.length + 2) c) (xs ++ two)) : MR k e w1 base' ok' v xs := by
  obtain ⟨A, c, rfl, h⟩ := h
  exact ⟨A, c, rfl, f A c rfl h⟩
theorem MR_mono (h : MR k e w base ok v xs) (hok : ∀ k, ok k → ok' k) : MR k e w base ok' v xs := MR_map h (fun _ _ _ h => Kd.R_mono h hok)
theorem MR_lower (h : MR k e w base ok v xs) (hb : base' ≤ base) : MR k e w base' ok v xs := MR_map h (fun _ _ _ h => Kd.R_lower h hb)
theorem MR_tight (h : MR k e w base ok v xs) : MR k e w base (fun k => some k = v.ownBlock) v xs := by
  obtain ⟨A, c, rfl, h⟩ := h
  have e1 : (Value.slice A xs.length c).ownBlock = (Value.slice A (xs.length + 2) c).ownBlock := by cases A <;> rfl
  refine ⟨A, c, rfl, ?_⟩
  rw [e1]
  exact Kd.R_tight rfl h
theorem MR_block (h : MR k e w base ok v xs) : ∀ b, v.ownBlock = some b → ok b ∧ base ≤ b ∧ b < w.heap.size ∧ ∃ cells, w.heap[b]? = some (.cells cells e (0, 0)) := by
  intro b hb
  have h1 := MR_R h
  exact ⟨h1.1 b hb, Kd.R_base h1 b hb, Kd.R_lt h1 b hb, Kd.R_typed h1 b hb⟩
theorem MR_below (h : MR k e w base ok v xs) (hb : Below w.heap.size w w1) : MR k e w1 base ok v xs := MR_map h (fun _ _ _ h => Kd.R_below h hb)
theorem MR_drewN (h : MR k e w base ok v xs) (m : Nat) : MR k e (w.drewN m) base ok v xs := MR_map h (fun _ _ _ h => Kd.R_drewN h m)
theorem MR_slice (h : MR k e w base ok v xs) : ∃ A c, v = .slice A xs.length c := by
  obtain ⟨A, c, h, _⟩ := h
  exact ⟨A, c, h⟩
/-- A row of bytes with its marks, as an element. -/
def kd (k : IntKind) (e : Nat) : Kd (List Int) where
  sz := 1
  E := [e]
  K := fun w xs cs => ∃ A c, cs = [.slice A xs.length c] ∧ MC k w A c xs
  M := fun w base ok xs cs => ∃ v, cs = [v] ∧ MR k e w base ok v xs
  K_len := by
    rintro w x cs ⟨A, c, rfl, _⟩
    rfl
  K_one := by
    rintro w x cs ⟨A, c, rfl, _⟩ u hu
    rw [List.mem_singleton.1 hu]
    rfl
  K_below := by
    rintro w w1 x cs hb ⟨A, c, rfl, hl⟩
    exact ⟨A, c, rfl, MC_below hl hb⟩
  K_of_M := by
    rintro w base ok x cs ⟨v, rfl, h⟩
    obtain ⟨A, c, rfl, hl⟩ := MR_MC h
    exact ⟨A, c, rfl, hl⟩
  M_mono := by
    rintro w base ok ok' x cs hok ⟨v, rfl, h⟩
    exact ⟨v, rfl, MR_mono h hok⟩
  M_bound := by
    rintro w base ok x cs ⟨v, rfl, h⟩
    exact ⟨v, rfl, MR_map h (fun _ _ _ h => Kd.R_bound h)⟩
  M_move := by
    rintro w w1 base ok x cs hm ⟨v, rfl, h⟩
    exact ⟨v, rfl, MR_map h (fun _ _ _ h => Kd.R_move h hm)⟩
  M_lower := by
    rintro w base base' ok x cs hb ⟨v, rfl, h⟩
    exact ⟨v, rfl, MR_lower h hb⟩
/-- A list of such rows, read as a list of rows. -/
theorem C_slice {n : Nat} {ys : List (List Int)} (h : (kd k e).C w A n ys) : (Kd.slice e (Kd.int k)).C w A n ys :=
  ReadsRow.imp_ h (Below.refl _ _) (fun xs cs hp => by
    obtain ⟨A, c, rfl, h⟩ := hp
    exact ⟨A, c, rfl, MC_le h, MC_C h⟩)
theorem at_ {n : Nat} {ys : List (List Int)} (h : (kd k e).C w A n ys) (i : Int) (h0 : 0 ≤ i) (h1 : i < n) : ∃ ad A0 c0, A = some ad ∧ w.cell? (ad.add i.toNat) = some (.slice A0 (ys.getD i.toNat []).length c0) ∧ MC k w A0 c0 (ys.getD i.toNat []) := by
  obtain ⟨ad, c, e, _, hK, hc0⟩ := Kd.C_get h ([] : List Int) i h0 h1
  have hc : ∀ j u, c[j]? = some u → w.cell? (ad.add (i.toNat * 1 + j)) = some u := hc0
  obtain ⟨A0, c0, rfl, g0⟩ := hK
  exact ⟨ad, A0, c0, e, by have hq := hc 0 _ rfl; rwa [Nat.mul_one, Nat.add_zero] at hq, g0⟩
end
end Go.Proofs.Ytnmhfcfojbfikaa.Mark
